/-
  Walks of functions, and plain laws (texts put together). No condition.
-/
import Derived.Test.YtdnbljihhimijaaGreatMVoiceMatches1
import Derived.Test.YtdnbljihhimijaaGreatMVoiceMatches2
import Derived.Test.YtdnbljihhimijaaGreatMVoiceMatches3
import Derived.Test.YtdnbljihhimijaaGreatMVoiceMatches4
set_option maxRecDepth 100000
set_option maxHeartbeats 1000000
set_option linter.unusedSimpArgs false
set_option linter.unusedVariables false
namespace Go.Proofs.YtdnbljihhimijaaGreat
open Go.RowKit
def lawX : Lw := ⟨20, -2, 4, 2⟩
def lowsX : List Snd := [⟨-1, 1, 0, 0⟩, ⟨5, 5, 1, 1⟩]
def boxX (hs : List Snd) : Bx := { first := 20, step := -2, span := 4, press := 2, note := 3, lows := lowsX, highs := hs, t0 := 30, t1 := 32, r0 := 40, r1 := 41, u0 := 3, u1 := 4, d0 := 2, d1 := 3, a0 := 1, a1 := 2, b0 := 1, b1 := 1, le := 20, me := 1 }
def fullH : List Snd := [⟨14, 15, 0, 1⟩, ⟨20, 20, 0, 0⟩, ⟨30, 30, 0, 0⟩]
def lessH : List Snd := [⟨14, 15, 0, 1⟩, ⟨30, 30, 0, 0⟩]
def fullX : Bx := boxX fullH
def lessX : Bx := boxX lessH
def rowsX : List (List Snd) := [[⟨-1, 1, 0, 0⟩, ⟨0, 0, 0, 0⟩], [⟨20, 20, 0, 0⟩, ⟨13, 15, 0, 0⟩], [⟨30, 30, 0, 0⟩, ⟨30, 30, 0, 0⟩]]
def BoxPost (b : Bx) (w : World) (e : Ending) (w' : World) : Prop := ∃ A c B d I, e = .returned (bxV b A c B d) ∧ (∃ b1 o1, ∀ (w : World) (ex : Nat → Prop), Sp w ex I A b.lows.length 4 b1 o1 (sc b.lows)) ∧ (∃ b1 o1, ∀ (w : World) (ex : Nat → Prop), Sp w ex I B b.highs.length 4 b1 o1 (sc b.highs)) ∧ Mem w noEx w' I
theorem sameInts_eq (A B : Option Addr) (n m c d : Nat) (l : List Int) (w : World) (ha : Rd w w.heap.size 1 A n (ic l)) (hb : Rd w w.heap.size 1 B m (ic l)) (hn : n ≤ 9223372036854775807) (hm : m ≤ 9223372036854775807) :
  Calls Tryz.prog 16 #[.slice A n c, .slice B m d] w fun e w' => e = .returned (.bool true) ∧ Below w.heap.size w w' := by
 have := sameInts_any A B n m c d l l w ha hb hn hm
 simpa using this
theorem x_beat : beatE fullX 1 0 = [(9, 10), (8, 10), (7, 10)] ∧ checkPB fullX 1 0 = 0 := by decide +kernel
theorem x_match : matchE lessX = ([0, -1], 0) := by decide +kernel
theorem x_strokes : strokesE fullX 0 1 = (2, 0) := by decide +kernel
theorem x_trem : tremE lawX rowsX [0, 1] = ([1, 3], 0) := by decide +kernel
theorem x_short : shortE lessX = ([1], 0) := by decide +kernel
theorem to5_any (p0 p1 : Int) (w : World)  :
  Calls Tryz.prog 50 #[.int .i64 p0, .int .i64 p1] w fun e w' => e = .returned (.agg #[.int .i64 p0, .int .i64 p1]) ∧ Below w.heap.size w w' := by
 refine Zpx noEx Tryz.func50 rfl 8 rfl [.int .i64 p0, .int .i64 p1] rfl rfl (Mem.init w _) ?_
 intro ac wc T M
 refine Zsr ?_
 refine Zl2 ?_
 refine Zoa M T rfl rfl rfl rfl ?_; clear M T; intro g1 wc ac M T
 refine Zln ?_
 refine Zsr ?_
 refine Zg3 (v3 := (.agg #[.int .i64 p0, .int .i64 p1])) T (Zq (Zrm rfl (T.e 1 rfl))) rfl (Zm 3 rfl rfl) rfl (fun _ T => Zq (rn_build rfl (.cons (T.e 1 rfl) (.cons (T.e 0 rfl) .nil)) (fun _ => by kernel_rfl))) rfl ?_; clear T ac; intro ac T
 refine Zl2 ?_
 refine Zos M T rfl rfl (T.e 3 rfl) (T.e 0 rfl) rfl .head rfl (by simp) rfl (by kernel_rfl) ?_; clear M T; intro wc ac M T
 replace T := T.pick [3] rfl
 refine Zln ?_
 refine wp_ret ?_
 refine rt_c M T rfl (T.e 0 rfl) (Zne (i := 0) rfl) rfl ?_
 exact ⟨rfl, M.below⟩
theorem sound5_any (p0 p1 q0 q1 : Int) (w : World)  :
  Calls Tryz.prog 98 #[.agg #[.int .i64 p0, .int .i64 p1], .agg #[.int .i64 q0, .int .i64 q1]] w fun e w' => e = .returned (.agg #[.int .i64 p0, .int .i64 p1, .int .i64 q0, .int .i64 q1]) ∧ Below w.heap.size w w' := by
 refine Zpx noEx Tryz.func98 rfl 8 rfl [.agg #[.int .i64 p0, .int .i64 p1], .agg #[.int .i64 q0, .int .i64 q1]] rfl rfl (Mem.init w _) ?_
 intro ac wc T M
 refine Zsr ?_
 refine Zl2 ?_
 refine Zob M T rfl rfl rfl rfl (T.e 0 rfl) rfl ?_; clear M T; intro g1 wc ac M T
 refine Zl2 ?_
 refine Zob M T rfl rfl rfl rfl (T.e 2 rfl) rfl ?_; clear M T; intro g2 wc ac M T
 refine Zl2 ?_
 refine Zoa M T rfl rfl rfl rfl ?_; clear M T; intro g3 wc ac M T
 replace T := T.pick [0, 1, 2] rfl
 refine Zln ?_
 refine Zsr ?_
 refine Zg3 (v3 := (.agg #[.int .i64 p0, .int .i64 p1, .int .i64 q0, .int .i64 q1])) T (Zq (Zrr (Mem.nth M 2 rfl) rfl (T.e 2 rfl) rfl)) rfl (Zr M 1 2 rfl rfl rfl rfl) rfl (fun _ T => Zq (rn_build rfl (.cons (T.e 1 rfl) (.cons (T.e 0 rfl) .nil)) (fun _ => by kernel_rfl))) rfl ?_; clear T ac; intro ac T
 refine Zl2 ?_
 refine Zos M T rfl rfl (T.e 3 rfl) (T.e 0 rfl) rfl .head rfl (by simp) rfl (by kernel_rfl) ?_; clear M T; intro wc ac M T
 refine wpList_nil ?_
 replace T := T.pick [3] rfl
 replace M := M.mask [true, false, false] rfl
 refine Znr ?_
 refine rt_c M T rfl (T.e 0 rfl) (Zne (i := 0) rfl) rfl ?_
 exact ⟨rfl, M.below⟩
theorem law5_any  (w : World)  :
  Calls Tryz.prog 101 #[] w fun e w' => e = .returned (.agg #[.int .i64 20, .int .i64 (-2), .int .i64 4, .int .i64 2]) ∧ Below w.heap.size w w' := by
 refine Zpx noEx Tryz.func101 rfl 2 rfl [] rfl rfl (Mem.init w _) ?_
 intro ac wc T M
 refine Zsr ?_
 refine Zl2 ?_
 refine Zoa M T rfl rfl rfl rfl ?_; clear M T; intro g1 wc ac M T
 refine Zln ?_
 refine Zsr ?_
 refine lq (v := (.agg #[.int .i64 20, .int .i64 (-2), .int .i64 4, .int .i64 2])) T (rn_build rfl (.cons evc (.cons evc (.cons evc (.cons evc .nil)))) (fun _ => by kernel_rfl)) ?_; clear T ac; intro ac T
 refine Zl2 ?_
 refine Zos M T rfl rfl (T.e 1 rfl) (T.e 0 rfl) rfl .head rfl (by simp) rfl (by kernel_rfl) ?_; clear M T; intro wc ac M T
 replace T := T.pick [1] rfl
 refine Zln ?_
 refine wp_ret ?_
 refine rt_c M T rfl (T.e 0 rfl) (Zne (i := 0) rfl) rfl ?_
 exact ⟨rfl, M.below⟩
def Box1Post (hs : List Snd) (H : Option Addr) (d : Nat) (w : World) (e : Ending) (w' : World) : Prop := ∃ g, e = .returned (bxV (boxX hs) (some ⟨g, 0, none⟩) 2 H d) ∧ Mem w noEx w' [(g, .cells (sc lowsX))]
theorem box5_any (H : Option Addr) (d : Nat) (hs : List Snd) (w : World)  :
  Calls Tryz.prog 97 #[.slice H hs.length d] w (Box1Post hs H d w) := by
 refine Zpx noEx Tryz.func97 rfl 20 rfl [.slice H hs.length d] rfl rfl (Mem.init w _) ?_
 intro ac wc T M
 refine Zsr ?_
 refine Zl2 ?_
 refine Zoa M T rfl rfl rfl rfl ?_; clear M T; intro g1 wc ac M T
 refine Zln ?_
 refine Zsr ?_
 refine Zl2 ?_
 refine Zoc (first := []) (cap := []) T rfl rfl rfl rfl evf .nil Tryz.func101 rfl rfl ?_
 refine Calls.mono (law5_any _) ?_
 clear T; rintro e wc ⟨rfl, hb⟩ ac T
 replace M := M.call hb; clear hb
 refine Zl2 ?_
 refine Zoc (first := []) (cap := []) T rfl rfl rfl rfl evf (.cons evc (.cons evc .nil)) Tryz.func50 rfl rfl ?_
 refine Calls.mono (to5_any (-1) 1 _) ?_
 clear T; rintro e wc ⟨rfl, hb⟩ ac T
 replace M := M.call hb; clear hb
 refine Zl2 ?_
 refine Zoc (first := []) (cap := []) T rfl rfl rfl rfl evf (.cons evc (.cons evc .nil)) Tryz.func50 rfl rfl ?_
 refine Calls.mono (to5_any 0 0 _) ?_
 clear T; rintro e wc ⟨rfl, hb⟩ ac T
 replace M := M.call hb; clear hb
 refine Zl2 ?_
 refine Zoc (first := []) (cap := []) T rfl rfl rfl rfl evf (.cons (T.e 1 rfl) (.cons (T.e 0 rfl) .nil)) Tryz.func98 rfl rfl ?_
 refine Calls.mono (sound5_any (-1) 1 0 0 _) ?_
 clear T; rintro e wc ⟨rfl, hb⟩ ac T
 replace M := M.call hb; clear hb
 refine Zl2 ?_
 refine Zoc (first := []) (cap := []) T rfl rfl rfl rfl evf (.cons evc (.cons evc .nil)) Tryz.func50 rfl rfl ?_
 refine Calls.mono (to5_any 5 5 _) ?_
 clear T; rintro e wc ⟨rfl, hb⟩ ac T
 replace M := M.call hb; clear hb
 refine Zl2 ?_
 refine Zoc (first := []) (cap := []) T rfl rfl rfl rfl evf (.cons evc (.cons evc .nil)) Tryz.func50 rfl rfl ?_
 refine Calls.mono (to5_any 1 1 _) ?_
 clear T; rintro e wc ⟨rfl, hb⟩ ac T
 replace M := M.call hb; clear hb
 refine Zl2 ?_
 refine Zoc (first := []) (cap := []) T rfl rfl rfl rfl evf (.cons (T.e 1 rfl) (.cons (T.e 0 rfl) .nil)) Tryz.func98 rfl rfl ?_
 refine Calls.mono (sound5_any 5 5 1 1 _) ?_
 clear T; rintro e wc ⟨rfl, hb⟩ ac T
 replace M := M.call hb; clear hb
 refine Zl2 ?_
 refine ow_bs (e := 32) [.int .i64 (-1), .int .i64 1, .int .i64 0, .int .i64 0, .int .i64 5, .int .i64 5, .int .i64 1, .int .i64 1] M T rfl rfl rfl rfl (.cons (T.e 3 rfl) (.cons (T.e 0 rfl) .nil)) (fun _ => by kernel_rfl) ?_; clear M T; intro g2 wc ac M T
 refine lq T (Zrm rfl (T.e 9 rfl)) ?_; clear T ac; intro ac T
 refine Zl2 ?_
 refine Zoc (first := []) (cap := []) T rfl rfl rfl rfl evf (.cons evc (.cons evc .nil)) Tryz.func50 rfl rfl ?_
 refine Calls.mono (to5_any 30 32 _) ?_
 clear T; rintro e wc ⟨rfl, hb⟩ ac T
 replace M := M.call hb; clear hb
 refine Zl2 ?_
 refine Zoc (first := []) (cap := []) T rfl rfl rfl rfl evf (.cons evc (.cons evc .nil)) Tryz.func50 rfl rfl ?_
 refine Calls.mono (to5_any 40 41 _) ?_
 clear T; rintro e wc ⟨rfl, hb⟩ ac T
 replace M := M.call hb; clear hb
 refine Zl2 ?_
 refine Zoc (first := []) (cap := []) T rfl rfl rfl rfl evf (.cons evc (.cons evc .nil)) Tryz.func50 rfl rfl ?_
 refine Calls.mono (to5_any 3 4 _) ?_
 clear T; rintro e wc ⟨rfl, hb⟩ ac T
 replace M := M.call hb; clear hb
 refine Zl2 ?_
 refine Zoc (first := []) (cap := []) T rfl rfl rfl rfl evf (.cons evc (.cons evc .nil)) Tryz.func50 rfl rfl ?_
 refine Calls.mono (to5_any 2 3 _) ?_
 clear T; rintro e wc ⟨rfl, hb⟩ ac T
 replace M := M.call hb; clear hb
 refine Zl2 ?_
 refine Zoc (first := []) (cap := []) T rfl rfl rfl rfl evf (.cons evc (.cons evc .nil)) Tryz.func50 rfl rfl ?_
 refine Calls.mono (to5_any 1 2 _) ?_
 clear T; rintro e wc ⟨rfl, hb⟩ ac T
 replace M := M.call hb; clear hb
 refine Zl2 ?_
 refine Zoc (first := []) (cap := []) T rfl rfl rfl rfl evf (.cons evc (.cons evc .nil)) Tryz.func50 rfl rfl ?_
 refine Calls.mono (to5_any 1 1 _) ?_
 clear T; rintro e wc ⟨rfl, hb⟩ ac T
 replace M := M.call hb; clear hb
 refine Zg2 (v1 := (.agg #[.int .i64 3, .int .i64 4, .int .i64 2, .int .i64 3, .int .i64 1, .int .i64 2, .int .i64 1, .int .i64 1, .int .i64 20])) (v2 := (.agg #[.int .i64 20, .int .i64 (-2), .int .i64 4, .int .i64 2, .int .i64 3, .slice (some ⟨g2, 0, none⟩) 2 2, .slice H hs.length d, .int .i64 30, .int .i64 32, .int .i64 40, .int .i64 41, .int .i64 3, .int .i64 4, .int .i64 2, .int .i64 3, .int .i64 1, .int .i64 2, .int .i64 1, .int .i64 1, .int .i64 20, .int .i64 1])) T (Zq (rn_build rfl (.cons (T.e 3 rfl) (.cons (T.e 2 rfl) (.cons (T.e 1 rfl) (.cons (T.e 0 rfl) (.cons evc .nil))))) (fun _ => by kernel_rfl))) rfl (fun _ T => Zq (rn_build rfl (.cons (T.e 15 rfl) (.cons evc (.cons (T.e 8 rfl) (.cons (T.e 7 rfl) (.cons (T.e 6 rfl) (.cons (T.e 5 rfl) (.cons (T.e 0 rfl) (.cons evc .nil)))))))) (fun _ => by kernel_rfl))) rfl ?_; clear T ac; intro ac T
 refine Zl2 ?_
 refine Zos M T rfl rfl (T.e 17 rfl) (T.e 0 rfl) rfl (.tail .head) rfl (by simp) rfl (by kernel_rfl) ?_; clear M T; intro wc ac M T
 replace T := T.pick [17] rfl
 refine Zln ?_
 refine wp_ret ?_
 refine rt_c M T rfl (T.e 0 rfl) (Zne (i := 1) rfl) rfl ?_
 exact ⟨g2, rfl, M.perm [0] rfl rfl⟩
theorem full5_any  (w : World)  :
  Calls Tryz.prog 46 #[] w (BoxPost fullX w) := by
 refine Zpx noEx Tryz.func46 rfl 12 rfl [] rfl rfl (Mem.init w _) ?_
 intro ac wc T M
 refine Zsr ?_
 refine Zl2 ?_
 refine Zoa M T rfl rfl rfl rfl ?_; clear M T; intro g1 wc ac M T
 refine Zln ?_
 refine Zsr ?_
 refine Zl2 ?_
 refine Zoc (first := []) (cap := []) T rfl rfl rfl rfl evf (.cons evc (.cons evc .nil)) Tryz.func50 rfl rfl ?_
 refine Calls.mono (to5_any 14 15 _) ?_
 clear T; rintro e wc ⟨rfl, hb⟩ ac T
 replace M := M.call hb; clear hb
 refine Zl2 ?_
 refine Zoc (first := []) (cap := []) T rfl rfl rfl rfl evf (.cons evc (.cons evc .nil)) Tryz.func50 rfl rfl ?_
 refine Calls.mono (to5_any 0 1 _) ?_
 clear T; rintro e wc ⟨rfl, hb⟩ ac T
 replace M := M.call hb; clear hb
 refine Zl2 ?_
 refine Zoc (first := []) (cap := []) T rfl rfl rfl rfl evf (.cons (T.e 1 rfl) (.cons (T.e 0 rfl) .nil)) Tryz.func98 rfl rfl ?_
 refine Calls.mono (sound5_any 14 15 0 1 _) ?_
 clear T; rintro e wc ⟨rfl, hb⟩ ac T
 replace M := M.call hb; clear hb
 refine Zl2 ?_
 refine Zoc (first := []) (cap := []) T rfl rfl rfl rfl evf (.cons evc (.cons evc .nil)) Tryz.func50 rfl rfl ?_
 refine Calls.mono (to5_any 20 20 _) ?_
 clear T; rintro e wc ⟨rfl, hb⟩ ac T
 replace M := M.call hb; clear hb
 refine Zl2 ?_
 refine Zoc (first := []) (cap := []) T rfl rfl rfl rfl evf (.cons evc (.cons evc .nil)) Tryz.func50 rfl rfl ?_
 refine Calls.mono (to5_any 0 0 _) ?_
 clear T; rintro e wc ⟨rfl, hb⟩ ac T
 replace M := M.call hb; clear hb
 refine Zl2 ?_
 refine Zoc (first := []) (cap := []) T rfl rfl rfl rfl evf (.cons (T.e 1 rfl) (.cons (T.e 0 rfl) .nil)) Tryz.func98 rfl rfl ?_
 refine Calls.mono (sound5_any 20 20 0 0 _) ?_
 clear T; rintro e wc ⟨rfl, hb⟩ ac T
 replace M := M.call hb; clear hb
 refine Zl2 ?_
 refine Zoc (first := []) (cap := []) T rfl rfl rfl rfl evf (.cons evc (.cons evc .nil)) Tryz.func50 rfl rfl ?_
 refine Calls.mono (to5_any 30 30 _) ?_
 clear T; rintro e wc ⟨rfl, hb⟩ ac T
 replace M := M.call hb; clear hb
 refine Zl2 ?_
 refine Zoc (first := []) (cap := []) T rfl rfl rfl rfl evf (.cons evc (.cons evc .nil)) Tryz.func50 rfl rfl ?_
 refine Calls.mono (to5_any 0 0 _) ?_
 clear T; rintro e wc ⟨rfl, hb⟩ ac T
 replace M := M.call hb; clear hb
 refine Zl2 ?_
 refine Zoc (first := []) (cap := []) T rfl rfl rfl rfl evf (.cons (T.e 1 rfl) (.cons (T.e 0 rfl) .nil)) Tryz.func98 rfl rfl ?_
 refine Calls.mono (sound5_any 30 30 0 0 _) ?_
 clear T; rintro e wc ⟨rfl, hb⟩ ac T
 replace M := M.call hb; clear hb
 refine Zl2 ?_
 refine ow_bs (e := 32) [.int .i64 14, .int .i64 15, .int .i64 0, .int .i64 1, .int .i64 20, .int .i64 20, .int .i64 0, .int .i64 0, .int .i64 30, .int .i64 30, .int .i64 0, .int .i64 0] M T rfl rfl rfl rfl (.cons (T.e 6 rfl) (.cons (T.e 3 rfl) (.cons (T.e 0 rfl) .nil))) (fun _ => by kernel_rfl) ?_; clear M T; intro g2 wc ac M T
 refine Zl2 ?_
 refine Zoc (first := []) (cap := []) T rfl rfl rfl rfl evf (.cons (T.e 0 rfl) .nil) Tryz.func97 rfl rfl ?_
 refine Calls.mono (box5_any _ 3 fullH _) ?_
 clear T; rintro e wc ⟨gu10, rfl, N⟩ ac T
 replace M := M.join N; clear N
 replace M := M.mask [true, true, true] rfl
 refine Zl2 ?_
 refine Zos M T rfl rfl (T.e 11 rfl) (T.e 0 rfl) rfl (.tail (.tail .head)) rfl (by simp) rfl (by kernel_rfl) ?_; clear M T; intro wc ac M T
 replace T := T.pick [11] rfl
 refine Zln ?_
 refine wp_ret ?_
 refine rt_c M T rfl (T.e 0 rfl) (Zne (i := 2) rfl) rfl ?_
 exact ⟨_, _, _, _, _, rfl, ⟨gu10, 0, fun w ex => (Sp.cells (xs := sc fullX.lows) rfl).mono (List.Sublist.cons_cons _ (Zz9 _))⟩, ⟨g2, 0, fun w ex => (Sp.cells (xs := sc fullX.highs) rfl).mono (.cons _ (List.Sublist.refl _))⟩, M.perm [0, 1] rfl rfl⟩
theorem less5_any  (w : World)  :
  Calls Tryz.prog 47 #[] w (BoxPost lessX w) := by
 refine Zpx noEx Tryz.func47 rfl 9 rfl [] rfl rfl (Mem.init w _) ?_
 intro ac wc T M
 refine Zsr ?_
 refine Zl2 ?_
 refine Zoa M T rfl rfl rfl rfl ?_; clear M T; intro g1 wc ac M T
 refine Zln ?_
 refine Zsr ?_
 refine Zl2 ?_
 refine Zoc (first := []) (cap := []) T rfl rfl rfl rfl evf (.cons evc (.cons evc .nil)) Tryz.func50 rfl rfl ?_
 refine Calls.mono (to5_any 14 15 _) ?_
 clear T; rintro e wc ⟨rfl, hb⟩ ac T
 replace M := M.call hb; clear hb
 refine Zl2 ?_
 refine Zoc (first := []) (cap := []) T rfl rfl rfl rfl evf (.cons evc (.cons evc .nil)) Tryz.func50 rfl rfl ?_
 refine Calls.mono (to5_any 0 1 _) ?_
 clear T; rintro e wc ⟨rfl, hb⟩ ac T
 replace M := M.call hb; clear hb
 refine Zl2 ?_
 refine Zoc (first := []) (cap := []) T rfl rfl rfl rfl evf (.cons (T.e 1 rfl) (.cons (T.e 0 rfl) .nil)) Tryz.func98 rfl rfl ?_
 refine Calls.mono (sound5_any 14 15 0 1 _) ?_
 clear T; rintro e wc ⟨rfl, hb⟩ ac T
 replace M := M.call hb; clear hb
 refine Zl2 ?_
 refine Zoc (first := []) (cap := []) T rfl rfl rfl rfl evf (.cons evc (.cons evc .nil)) Tryz.func50 rfl rfl ?_
 refine Calls.mono (to5_any 30 30 _) ?_
 clear T; rintro e wc ⟨rfl, hb⟩ ac T
 replace M := M.call hb; clear hb
 refine Zl2 ?_
 refine Zoc (first := []) (cap := []) T rfl rfl rfl rfl evf (.cons evc (.cons evc .nil)) Tryz.func50 rfl rfl ?_
 refine Calls.mono (to5_any 0 0 _) ?_
 clear T; rintro e wc ⟨rfl, hb⟩ ac T
 replace M := M.call hb; clear hb
 refine Zl2 ?_
 refine Zoc (first := []) (cap := []) T rfl rfl rfl rfl evf (.cons (T.e 1 rfl) (.cons (T.e 0 rfl) .nil)) Tryz.func98 rfl rfl ?_
 refine Calls.mono (sound5_any 30 30 0 0 _) ?_
 clear T; rintro e wc ⟨rfl, hb⟩ ac T
 replace M := M.call hb; clear hb
 refine Zl2 ?_
 refine ow_bs (e := 32) [.int .i64 14, .int .i64 15, .int .i64 0, .int .i64 1, .int .i64 30, .int .i64 30, .int .i64 0, .int .i64 0] M T rfl rfl rfl rfl (.cons (T.e 3 rfl) (.cons (T.e 0 rfl) .nil)) (fun _ => by kernel_rfl) ?_; clear M T; intro g2 wc ac M T
 refine Zl2 ?_
 refine Zoc (first := []) (cap := []) T rfl rfl rfl rfl evf (.cons (T.e 0 rfl) .nil) Tryz.func97 rfl rfl ?_
 refine Calls.mono (box5_any _ 2 lessH _) ?_
 clear T; rintro e wc ⟨gu7, rfl, N⟩ ac T
 replace M := M.join N; clear N
 replace M := M.mask [true, true, true] rfl
 refine Zl2 ?_
 refine Zos M T rfl rfl (T.e 8 rfl) (T.e 0 rfl) rfl (.tail (.tail .head)) rfl (by simp) rfl (by kernel_rfl) ?_; clear M T; intro wc ac M T
 replace T := T.pick [8] rfl
 refine Zln ?_
 refine wp_ret ?_
 refine rt_c M T rfl (T.e 0 rfl) (Zne (i := 2) rfl) rfl ?_
 exact ⟨_, _, _, _, _, rfl, ⟨gu7, 0, fun w ex => (Sp.cells (xs := sc lessX.lows) rfl).mono (List.Sublist.cons_cons _ (Zz9 _))⟩, ⟨g2, 0, fun w ex => (Sp.cells (xs := sc lessX.highs) rfl).mono (.cons _ (List.Sublist.refl _))⟩, M.perm [0, 1] rfl rfl⟩
theorem Beat_x (A : Option Addr) (c : Nat) (B : Option Addr) (d : Nat) (w : World) (hA : Rd w w.heap.size 4 A fullX.lows.length (sc fullX.lows)) (hB : Rd w w.heap.size 4 B fullX.highs.length (sc fullX.highs)) :
  Calls Tryz.prog 21 #[bxV fullX A c B d, .int .i64 1, .int .i64 0] w fun e w' => ∃ A' c' I, e = .returned (.tuple #[.slice A' 3 c', .int .i64 0]) ∧ (∃ b o, ∀ (w : World) (ex : Nat → Prop), Sp w ex I A' 3 2 b o (rc [(9, 10), (8, 10), (7, 10)])) ∧ Mem w noEx w' I :=
 Calls.mono (Beat_any fullX A c B d 1 0 w hA hB (by decide) (by decide)) fun e w' h => by
  obtain ⟨A', c', I, rfl, h2, h3⟩ := h
  rw [x_beat.1] at h2
  rw [x_beat.1, x_beat.2]
  exact ⟨A', c', I, rfl, h2.spV rfl, h3⟩
theorem Match_x (A : Option Addr) (c : Nat) (B : Option Addr) (d : Nat) (w : World) (hA : Rd w w.heap.size 4 A lessX.lows.length (sc lessX.lows)) (hB : Rd w w.heap.size 4 B lessX.highs.length (sc lessX.highs)) :
  Calls Tryz.prog 10 #[bxV lessX A c B d] w fun e w' => ∃ A' c' I, e = .returned (.tuple #[.slice A' 2 c', .int .i64 0]) ∧ (∃ b o, ∀ (w : World) (ex : Nat → Prop), Sp w ex I A' 2 1 b o (ic [0, -1])) ∧ Mem w noEx w' I :=
 Calls.mono (Match_any lessX A c B d w hA hB (by decide) (by decide)) fun e w' h => by
  rw [x_match] at h
  obtain ⟨A', c', I, rfl, _, h2, h3⟩ := h
  exact ⟨A', c', I, rfl, h2, h3⟩
theorem Short_x (A : Option Addr) (c : Nat) (B : Option Addr) (d : Nat) (w : World) (hA : Rd w w.heap.size 4 A lessX.lows.length (sc lessX.lows)) (hB : Rd w w.heap.size 4 B lessX.highs.length (sc lessX.highs)) :
  Calls Tryz.prog 12 #[bxV lessX A c B d] w fun e w' => ∃ A' c' I, e = .returned (.tuple #[.slice A' 1 c', .int .i64 0]) ∧ (∃ b o, ∀ (w : World) (ex : Nat → Prop), Sp w ex I A' 1 1 b o (ic [1])) ∧ Mem w noEx w' I :=
 Calls.mono (Short_any lessX A c B d w hA hB (by decide) (by decide)) fun e w' h => by
  rw [x_short] at h
  obtain ⟨A', c', I, rfl, _, h2, h3⟩ := h
  exact ⟨A', c', I, rfl, h2, h3⟩
theorem Strokes_x (A : Option Addr) (c : Nat) (B : Option Addr) (d : Nat) (w : World) (hA : Rd w w.heap.size 4 A fullX.lows.length (sc fullX.lows)) (hB : Rd w w.heap.size 4 B fullX.highs.length (sc fullX.highs)) :
  Calls Tryz.prog 48 #[bxV fullX A c B d, .int .i64 0, .int .i64 1] w fun e w' => e = .returned (.tuple #[.int .i64 2, .int .i64 0]) ∧ Below w.heap.size w w' := by
 have h := VStrokes_any fullX A c B d 0 1 w hA hB (by decide) (by decide)
 rw [x_strokes] at h
 exact h
theorem Tremolo_x (A : Option Addr) (c : Nat) (LL : List LS) (G : Option Addr) (d : Nat) (w : World) (hR : rowsOf LL = rowsX) (hA : Rd w w.heap.size 1 A LL.length (lsC LL)) (hE : ElsS w LL) (hG : Rd w w.heap.size 1 G 2 (ic [0, 1])) :
  Calls Tryz.prog 37 #[.agg #[.int .i64 20, .int .i64 (-2), .int .i64 4, .int .i64 2, .slice A LL.length c], .slice G 2 d] w fun e w' => ∃ A' c' I, e = .returned (.tuple #[.slice A' 2 c', .int .i64 0]) ∧ (∃ b o, ∀ (w : World) (ex : Nat → Prop), Sp w ex I A' 2 1 b o (ic [1, 3])) ∧ Mem w noEx w' I := by
 have hl : LL.length = 3 := by have := congrArg List.length hR; simpa [rowsX] using this
 have hx : ∀ x ∈ LL, x.1.length ≤ 1000000 := fun x hx => by
  have : x.1 ∈ rowsX := by rw [← hR]; exact List.mem_map.2 ⟨x, hx, rfl⟩
  have h9 : ∀ y ∈ rowsX, y.length ≤ 1000000 := by decide
  exact h9 _ this
 have h := Tremolo_any lawX A c LL G d [0, 1] w hA hE (by omega) hx hG (by decide)
 refine Calls.mono h fun e w' h => ?_
 rw [hR, x_trem] at h
 obtain ⟨A', c', I, rfl, _, h2, h3⟩ := h
 exact ⟨A', c', I, rfl, h2, h3⟩
def ElsR (LL : List LS) (I : List (Nat × BA)) : Prop := ∀ x ∈ LL, ∃ b o, ∀ (w : World) (ex : Nat → Prop), Sp w ex I x.2.1 x.1.length 4 b o (sc x.1)
def ScalePost (l : Lw) (R : List (List Snd)) (w : World) (e : Ending) (w' : World) : Prop := ∃ A c LL I, rowsOf LL = R ∧ e = .returned (.agg #[.int .i64 l.first, .int .i64 l.step, .int .i64 l.span, .int .i64 l.press, .slice A LL.length c]) ∧ (∃ b o, ∀ (w : World) (ex : Nat → Prop), Sp w ex I A LL.length 1 b o (lsC LL)) ∧ ElsR LL I ∧ Mem w noEx w' I
set_option maxHeartbeats 8000000 in
theorem scale5_any  (w : World)  :
   Calls Tryz.prog 49 #[] w (ScalePost lawX rowsX w) := by
 refine Zpx noEx Tryz.func49 rfl 27 rfl [] rfl rfl (Mem.init w _) ?_
 intro ac wc T M
 refine Zsr ?_
 refine Zl2 ?_
 refine Zoa M T rfl rfl rfl rfl ?_; clear M T; intro g1 wc ac M T
 refine Zln ?_
 refine Zsr ?_
 refine Zl2 ?_
 refine Zoc (first := []) (cap := []) T rfl rfl rfl rfl evf (.cons evc (.cons evc .nil)) Tryz.func50 rfl rfl ?_
 refine Calls.mono (to5_any 0 0 _) ?_
 clear T; rintro e wc ⟨rfl, hb⟩ ac T
 replace M := M.call hb; clear hb
 refine Zl2 ?_
 refine Zoa M T rfl rfl rfl rfl ?_; clear M T; intro g2 wc ac M T
 refine Zl2 ?_
 refine Zos M T rfl rfl (T.e 0 rfl) (T.e 1 rfl) rfl .head rfl (by simp) rfl (by kernel_rfl) ?_; clear M T; intro wc ac M T
 replace T := T.pick [0, 2] rfl
 refine Zln ?_
 refine wp_seq ?_
 refine Zgs M (M.perm [0] rfl rfl) 25 (by kernel_rfl) rfl (by kernel_rfl) ?_
 clear M; intro wc M
 refine g_addG 24 M ?_
 refine g_have (fun ac wc => ∃ (gr2_14 gr2_7 gr2_21 : Nat), Tm ac 27 [(17, .slice (some ⟨gr2_14, 0, none⟩) 2 2), (10, .slice (some ⟨gr2_7, 0, none⟩) 2 2), (24, .slice (some ⟨gr2_21, 0, none⟩) 2 2), (23, .agg #[.int .i64 30, .int .i64 30, .int .i64 0, .int .i64 0]), (21, .agg #[.int .i64 30, .int .i64 30]), (20, .agg #[.int .i64 30, .int .i64 30, .int .i64 0, .int .i64 0]), (18, .agg #[.int .i64 30, .int .i64 30]), (16, .agg #[.int .i64 13, .int .i64 15, .int .i64 0, .int .i64 0]), (14, .agg #[.int .i64 13, .int .i64 15]), (13, .agg #[.int .i64 20, .int .i64 20, .int .i64 0, .int .i64 0]), (11, .agg #[.int .i64 20, .int .i64 20]), (9, .agg #[.int .i64 0, .int .i64 0, .int .i64 0, .int .i64 0]), (7, .agg #[.int .i64 0, .int .i64 0]), (6, .agg #[.int .i64 (-1), .int .i64 1, .int .i64 0, .int .i64 0]), (4, .agg #[.int .i64 (-1), .int .i64 1]), (3, .agg #[.int .i64 20, .int .i64 (-2), .int .i64 4, .int .i64 2]), (22, .agg #[.int .i64 0, .int .i64 0]), (19, .agg #[.int .i64 0, .int .i64 0]), (15, .agg #[.int .i64 0, .int .i64 0]), (12, .agg #[.int .i64 0, .int .i64 0]), (8, .agg #[.int .i64 0, .int .i64 0]), (5, .agg #[.int .i64 0, .int .i64 0]), (1, .pointer (some ⟨g2, 0, none⟩)), (0, .pointer (some ⟨g1, 0, none⟩))] ∧ Mem w noEx wc [(gr2_14, .cells [.int .i64 20, .int .i64 20, .int .i64 0, .int .i64 0, .int .i64 13, .int .i64 15, .int .i64 0, .int .i64 0]), (gr2_7, .cells [.int .i64 (-1), .int .i64 1, .int .i64 0, .int .i64 0, .int .i64 0, .int .i64 0, .int .i64 0, .int .i64 0]), (gr2_21, .cells [.int .i64 30, .int .i64 30, .int .i64 0, .int .i64 0, .int .i64 30, .int .i64 30, .int .i64 0, .int .i64 0]), (g2, .cells [.int .i64 0, .int .i64 0]), (g1, .cells [.int .i64 0, .int .i64 0, .int .i64 0, .int .i64 0, .slice none 0 0])]) (Zpb 25 4194303) 3 ?_ ?_
 ·clear T M
  rintro ac wc ⟨gr2_14, gr2_7, gr2_21, T, M⟩
  refine gw 22 8388607 ?_; intro K hK
  refine ow_bs (e := 24) [.slice (some ⟨gr2_7, 0, none⟩) 2 2, .slice (some ⟨gr2_14, 0, none⟩) 2 2, .slice (some ⟨gr2_21, 0, none⟩) 2 2] M T rfl rfl rfl rfl (.cons (T.e 1 rfl) (.cons (T.e 0 rfl) (.cons (T.e 2 rfl) .nil))) (fun _ => by kernel_rfl) ?_; clear M T; intro gr2_22 wc ac M T
  refine Zso hK _ _ (MA.mk (fun _ => M.mask [false, false, false, false, true, true] rfl) (M.mask [false, false, false, false, true, false] rfl)) ?_; clear hK K
  refine gq (v := (.agg #[.int .i64 20, .int .i64 (-2), .int .i64 4, .int .i64 2, .slice (some ⟨gr2_22, 0, none⟩) 3 3])) T 23 16777215 rfl (fun _ _ _ _ _ => (rn_build rfl (.cons (T.e 16 rfl) (.cons (T.e 0 rfl) .nil)) (fun _ => by kernel_rfl))) ?_; clear T ac; intro ac T
  refine gw 24 33554431 ?_; intro K hK
  refine Zos M T rfl rfl (T.e 25 rfl) (T.e 0 rfl) rfl (.tail (.tail (.tail (.tail (.tail .head))))) rfl (by simp) rfl (by kernel_rfl) ?_; clear M T; intro wc ac M T
  refine Zso hK _ _ (MA.mk (fun h => (no_of (by kernel_rfl) h).elim) (M.mask [false, false, false, false, true, false] rfl)) ?_; clear hK K
  refine Zgd (by kernel_rfl) ?_
  replace T := T.pick [25] rfl
  replace M := M.mask [true, true, true, true, false, true] rfl
  refine Znr ?_
  refine rt_c M T rfl (T.e 0 rfl) (Zne (i := 4) rfl) rfl ?_
  refine ⟨some ⟨gr2_22, 0, none⟩, 3, [([⟨-1, 1, 0, 0⟩, ⟨0, 0, 0, 0⟩], some ⟨gr2_7, 0, none⟩, 2), ([⟨20, 20, 0, 0⟩, ⟨13, 15, 0, 0⟩], some ⟨gr2_14, 0, none⟩, 2), ([⟨30, 30, 0, 0⟩, ⟨30, 30, 0, 0⟩], some ⟨gr2_21, 0, none⟩, 2)], _, rfl, rfl, ⟨gr2_22, 0, fun w ex => (Sp.cells (xs := lsC [([⟨-1, 1, 0, 0⟩, ⟨0, 0, 0, 0⟩], some ⟨gr2_7, 0, none⟩, 2), ([⟨20, 20, 0, 0⟩, ⟨13, 15, 0, 0⟩], some ⟨gr2_14, 0, none⟩, 2), ([⟨30, 30, 0, 0⟩, ⟨30, 30, 0, 0⟩], some ⟨gr2_21, 0, none⟩, 2)]) rfl).mono (List.Sublist.cons_cons _ (Zz9 _))⟩, ?_, M.perm [0, 2, 1, 3] rfl rfl⟩
  intro x hx
  simp only [List.mem_cons, List.not_mem_nil, or_false] at hx
  rcases hx with rfl | rfl | rfl
  · exact ⟨gr2_7, 0, fun w ex => (Sp.cells (xs := sc [⟨-1, 1, 0, 0⟩, ⟨0, 0, 0, 0⟩]) rfl).mono (.cons _ (.cons_cons _ (Zz9 _)))⟩
  · exact ⟨gr2_14, 0, fun w ex => (Sp.cells (xs := sc [⟨20, 20, 0, 0⟩, ⟨13, 15, 0, 0⟩]) rfl).mono (.cons _ (.cons _ (.cons_cons _ (Zz9 _))))⟩
  · exact ⟨gr2_21, 0, fun w ex => (Sp.cells (xs := sc [⟨30, 30, 0, 0⟩, ⟨30, 30, 0, 0⟩]) rfl).mono (.cons _ (.cons _ (.cons _ (.cons_cons _ (Zz9 _)))))⟩
 intro H19
 refine g_have (fun ac wc => ∃ (gr2_14 gr2_7 : Nat), Tm ac 27 [(17, .slice (some ⟨gr2_14, 0, none⟩) 2 2), (10, .slice (some ⟨gr2_7, 0, none⟩) 2 2), (23, .agg #[.int .i64 30, .int .i64 30, .int .i64 0, .int .i64 0]), (21, .agg #[.int .i64 30, .int .i64 30]), (20, .agg #[.int .i64 30, .int .i64 30, .int .i64 0, .int .i64 0]), (18, .agg #[.int .i64 30, .int .i64 30]), (16, .agg #[.int .i64 13, .int .i64 15, .int .i64 0, .int .i64 0]), (14, .agg #[.int .i64 13, .int .i64 15]), (13, .agg #[.int .i64 20, .int .i64 20, .int .i64 0, .int .i64 0]), (11, .agg #[.int .i64 20, .int .i64 20]), (9, .agg #[.int .i64 0, .int .i64 0, .int .i64 0, .int .i64 0]), (7, .agg #[.int .i64 0, .int .i64 0]), (6, .agg #[.int .i64 (-1), .int .i64 1, .int .i64 0, .int .i64 0]), (4, .agg #[.int .i64 (-1), .int .i64 1]), (3, .agg #[.int .i64 20, .int .i64 (-2), .int .i64 4, .int .i64 2]), (22, .agg #[.int .i64 0, .int .i64 0]), (19, .agg #[.int .i64 0, .int .i64 0]), (15, .agg #[.int .i64 0, .int .i64 0]), (12, .agg #[.int .i64 0, .int .i64 0]), (8, .agg #[.int .i64 0, .int .i64 0]), (5, .agg #[.int .i64 0, .int .i64 0]), (1, .pointer (some ⟨g2, 0, none⟩)), (0, .pointer (some ⟨g1, 0, none⟩))] ∧ Mem w noEx wc [(gr2_14, .cells [.int .i64 20, .int .i64 20, .int .i64 0, .int .i64 0, .int .i64 13, .int .i64 15, .int .i64 0, .int .i64 0]), (gr2_7, .cells [.int .i64 (-1), .int .i64 1, .int .i64 0, .int .i64 0, .int .i64 0, .int .i64 0, .int .i64 0, .int .i64 0]), (g2, .cells [.int .i64 0, .int .i64 0]), (g1, .cells [.int .i64 0, .int .i64 0, .int .i64 0, .int .i64 0, .slice none 0 0])]) (Zpb 25 2097151) 4 ?_ ?_
 ·clear T M
  rintro ac wc ⟨gr2_14, gr2_7, T, M⟩
  refine gw 21 4194303 ?_; intro K hK
  refine ow_bs (e := 32) [.int .i64 30, .int .i64 30, .int .i64 0, .int .i64 0, .int .i64 30, .int .i64 30, .int .i64 0, .int .i64 0] M T rfl rfl rfl rfl (.cons (T.e 4 rfl) (.cons (T.e 2 rfl) .nil)) (fun _ => by kernel_rfl) ?_; clear M T; intro gr2_21 wc ac M T
  refine Zso hK _ _ (MA.mk (fun _ => M.mask [false, false, false, true, true] rfl) (M.mask [false, false, false, true, false] rfl)) ?_; clear hK K
  exact H19 _ _ ⟨gr2_14, gr2_7, gr2_21, T.pick [1, 2, 0, 3, 4, 5, 6, 7, 8, 9, 10, 11, 12, 13, 14, 15, 16, 17, 18, 19, 20, 21, 22, 23] rfl, M.perm [1, 2, 0, 3, 4] rfl rfl⟩
 intro H18
 refine g_have (fun ac wc => ∃ (gr2_14 gr2_21 : Nat), Tm ac 27 [(17, .slice (some ⟨gr2_14, 0, none⟩) 2 2), (24, .slice (some ⟨gr2_21, 0, none⟩) 2 2), (23, .agg #[.int .i64 30, .int .i64 30, .int .i64 0, .int .i64 0]), (21, .agg #[.int .i64 30, .int .i64 30]), (20, .agg #[.int .i64 30, .int .i64 30, .int .i64 0, .int .i64 0]), (18, .agg #[.int .i64 30, .int .i64 30]), (16, .agg #[.int .i64 13, .int .i64 15, .int .i64 0, .int .i64 0]), (14, .agg #[.int .i64 13, .int .i64 15]), (13, .agg #[.int .i64 20, .int .i64 20, .int .i64 0, .int .i64 0]), (11, .agg #[.int .i64 20, .int .i64 20]), (9, .agg #[.int .i64 0, .int .i64 0, .int .i64 0, .int .i64 0]), (7, .agg #[.int .i64 0, .int .i64 0]), (6, .agg #[.int .i64 (-1), .int .i64 1, .int .i64 0, .int .i64 0]), (4, .agg #[.int .i64 (-1), .int .i64 1]), (3, .agg #[.int .i64 20, .int .i64 (-2), .int .i64 4, .int .i64 2]), (22, .agg #[.int .i64 0, .int .i64 0]), (19, .agg #[.int .i64 0, .int .i64 0]), (15, .agg #[.int .i64 0, .int .i64 0]), (12, .agg #[.int .i64 0, .int .i64 0]), (8, .agg #[.int .i64 0, .int .i64 0]), (5, .agg #[.int .i64 0, .int .i64 0]), (1, .pointer (some ⟨g2, 0, none⟩)), (0, .pointer (some ⟨g1, 0, none⟩))] ∧ Mem w noEx wc [(gr2_14, .cells [.int .i64 20, .int .i64 20, .int .i64 0, .int .i64 0, .int .i64 13, .int .i64 15, .int .i64 0, .int .i64 0]), (gr2_21, .cells [.int .i64 30, .int .i64 30, .int .i64 0, .int .i64 0, .int .i64 30, .int .i64 30, .int .i64 0, .int .i64 0]), (g2, .cells [.int .i64 0, .int .i64 0]), (g1, .cells [.int .i64 0, .int .i64 0, .int .i64 0, .int .i64 0, .slice none 0 0])]) (Zpb 25 4194175) 4 ?_ ?_
 ·clear T M
  rintro ac wc ⟨gr2_14, gr2_21, T, M⟩
  refine gw 7 4194303 ?_; intro K hK
  refine ow_bs (e := 32) [.int .i64 (-1), .int .i64 1, .int .i64 0, .int .i64 0, .int .i64 0, .int .i64 0, .int .i64 0, .int .i64 0] M T rfl rfl rfl rfl (.cons (T.e 12 rfl) (.cons (T.e 10 rfl) .nil)) (fun _ => by kernel_rfl) ?_; clear M T; intro gr2_7 wc ac M T
  refine Zso hK _ _ (MA.mk (fun _ => M.mask [false, false, false, true, true] rfl) (M.mask [false, false, false, true, false] rfl)) ?_; clear hK K
  exact H19 _ _ ⟨gr2_14, gr2_7, gr2_21, T.pick [1, 0, 2, 3, 4, 5, 6, 7, 8, 9, 10, 11, 12, 13, 14, 15, 16, 17, 18, 19, 20, 21, 22, 23] rfl, M.perm [1, 0, 2, 3, 4] rfl rfl⟩
 intro H17
 refine g_have (fun ac wc => ∃ (gr2_7 gr2_21 : Nat), Tm ac 27 [(10, .slice (some ⟨gr2_7, 0, none⟩) 2 2), (24, .slice (some ⟨gr2_21, 0, none⟩) 2 2), (23, .agg #[.int .i64 30, .int .i64 30, .int .i64 0, .int .i64 0]), (21, .agg #[.int .i64 30, .int .i64 30]), (20, .agg #[.int .i64 30, .int .i64 30, .int .i64 0, .int .i64 0]), (18, .agg #[.int .i64 30, .int .i64 30]), (16, .agg #[.int .i64 13, .int .i64 15, .int .i64 0, .int .i64 0]), (14, .agg #[.int .i64 13, .int .i64 15]), (13, .agg #[.int .i64 20, .int .i64 20, .int .i64 0, .int .i64 0]), (11, .agg #[.int .i64 20, .int .i64 20]), (9, .agg #[.int .i64 0, .int .i64 0, .int .i64 0, .int .i64 0]), (7, .agg #[.int .i64 0, .int .i64 0]), (6, .agg #[.int .i64 (-1), .int .i64 1, .int .i64 0, .int .i64 0]), (4, .agg #[.int .i64 (-1), .int .i64 1]), (3, .agg #[.int .i64 20, .int .i64 (-2), .int .i64 4, .int .i64 2]), (22, .agg #[.int .i64 0, .int .i64 0]), (19, .agg #[.int .i64 0, .int .i64 0]), (15, .agg #[.int .i64 0, .int .i64 0]), (12, .agg #[.int .i64 0, .int .i64 0]), (8, .agg #[.int .i64 0, .int .i64 0]), (5, .agg #[.int .i64 0, .int .i64 0]), (1, .pointer (some ⟨g2, 0, none⟩)), (0, .pointer (some ⟨g1, 0, none⟩))] ∧ Mem w noEx wc [(gr2_7, .cells [.int .i64 (-1), .int .i64 1, .int .i64 0, .int .i64 0, .int .i64 0, .int .i64 0, .int .i64 0, .int .i64 0]), (gr2_21, .cells [.int .i64 30, .int .i64 30, .int .i64 0, .int .i64 0, .int .i64 30, .int .i64 30, .int .i64 0, .int .i64 0]), (g2, .cells [.int .i64 0, .int .i64 0]), (g1, .cells [.int .i64 0, .int .i64 0, .int .i64 0, .int .i64 0, .slice none 0 0])]) (Zpb 25 4177919) 4 ?_ ?_
 ·clear T M
  rintro ac wc ⟨gr2_7, gr2_21, T, M⟩
  refine gw 14 4194303 ?_; intro K hK
  refine ow_bs (e := 32) [.int .i64 20, .int .i64 20, .int .i64 0, .int .i64 0, .int .i64 13, .int .i64 15, .int .i64 0, .int .i64 0] M T rfl rfl rfl rfl (.cons (T.e 8 rfl) (.cons (T.e 6 rfl) .nil)) (fun _ => by kernel_rfl) ?_; clear M T; intro gr2_14 wc ac M T
  refine Zso hK _ _ (MA.mk (fun _ => M.mask [false, false, false, true, true] rfl) (M.mask [false, false, false, true, false] rfl)) ?_; clear hK K
  exact H19 _ _ ⟨gr2_14, gr2_7, gr2_21, T, M⟩
 intro H16
 refine g_have (fun ac wc => ∃ (gr2_14 gr2_7 : Nat), Tm ac 27 [(17, .slice (some ⟨gr2_14, 0, none⟩) 2 2), (10, .slice (some ⟨gr2_7, 0, none⟩) 2 2), (21, .agg #[.int .i64 30, .int .i64 30]), (20, .agg #[.int .i64 30, .int .i64 30, .int .i64 0, .int .i64 0]), (18, .agg #[.int .i64 30, .int .i64 30]), (16, .agg #[.int .i64 13, .int .i64 15, .int .i64 0, .int .i64 0]), (14, .agg #[.int .i64 13, .int .i64 15]), (13, .agg #[.int .i64 20, .int .i64 20, .int .i64 0, .int .i64 0]), (11, .agg #[.int .i64 20, .int .i64 20]), (9, .agg #[.int .i64 0, .int .i64 0, .int .i64 0, .int .i64 0]), (7, .agg #[.int .i64 0, .int .i64 0]), (6, .agg #[.int .i64 (-1), .int .i64 1, .int .i64 0, .int .i64 0]), (4, .agg #[.int .i64 (-1), .int .i64 1]), (3, .agg #[.int .i64 20, .int .i64 (-2), .int .i64 4, .int .i64 2]), (22, .agg #[.int .i64 0, .int .i64 0]), (19, .agg #[.int .i64 0, .int .i64 0]), (15, .agg #[.int .i64 0, .int .i64 0]), (12, .agg #[.int .i64 0, .int .i64 0]), (8, .agg #[.int .i64 0, .int .i64 0]), (5, .agg #[.int .i64 0, .int .i64 0]), (1, .pointer (some ⟨g2, 0, none⟩)), (0, .pointer (some ⟨g1, 0, none⟩))] ∧ Mem w noEx wc [(gr2_14, .cells [.int .i64 20, .int .i64 20, .int .i64 0, .int .i64 0, .int .i64 13, .int .i64 15, .int .i64 0, .int .i64 0]), (gr2_7, .cells [.int .i64 (-1), .int .i64 1, .int .i64 0, .int .i64 0, .int .i64 0, .int .i64 0, .int .i64 0, .int .i64 0]), (g2, .cells [.int .i64 0, .int .i64 0]), (g1, .cells [.int .i64 0, .int .i64 0, .int .i64 0, .int .i64 0, .slice none 0 0])]) (Zpb 25 1048575) 5 ?_ ?_
 ·clear T M
  rintro ac wc ⟨gr2_14, gr2_7, T, M⟩
  refine gw 20 2097151 ?_; intro K hK
  refine Zoc (first := []) (cap := []) T rfl rfl rfl rfl evf (.cons (T.e 2 rfl) (.cons (T.e 14 rfl) .nil)) Tryz.func98 rfl rfl ?_
  refine Calls.mono (sound5_any 30 30 0 0 _) ?_
  clear T; rintro e wc ⟨rfl, hb⟩ ac T
  replace M := M.call hb; clear hb
  refine Zso hK _ _ (MA.mk (fun _ => M.mask [false, false, true, true] rfl) (M.mask [false, false, true, false] rfl)) ?_; clear hK K
  exact H18 _ _ ⟨gr2_14, gr2_7, T.pick [1, 2, 0, 3, 4, 5, 6, 7, 8, 9, 10, 11, 12, 13, 14, 15, 16, 17, 18, 19, 20, 21, 22] rfl, M⟩
 intro H15
 refine g_have (fun ac wc => ∃ (gr2_14 : Nat), Tm ac 27 [(17, .slice (some ⟨gr2_14, 0, none⟩) 2 2), (23, .agg #[.int .i64 30, .int .i64 30, .int .i64 0, .int .i64 0]), (21, .agg #[.int .i64 30, .int .i64 30]), (20, .agg #[.int .i64 30, .int .i64 30, .int .i64 0, .int .i64 0]), (18, .agg #[.int .i64 30, .int .i64 30]), (16, .agg #[.int .i64 13, .int .i64 15, .int .i64 0, .int .i64 0]), (14, .agg #[.int .i64 13, .int .i64 15]), (13, .agg #[.int .i64 20, .int .i64 20, .int .i64 0, .int .i64 0]), (11, .agg #[.int .i64 20, .int .i64 20]), (9, .agg #[.int .i64 0, .int .i64 0, .int .i64 0, .int .i64 0]), (7, .agg #[.int .i64 0, .int .i64 0]), (6, .agg #[.int .i64 (-1), .int .i64 1, .int .i64 0, .int .i64 0]), (4, .agg #[.int .i64 (-1), .int .i64 1]), (3, .agg #[.int .i64 20, .int .i64 (-2), .int .i64 4, .int .i64 2]), (22, .agg #[.int .i64 0, .int .i64 0]), (19, .agg #[.int .i64 0, .int .i64 0]), (15, .agg #[.int .i64 0, .int .i64 0]), (12, .agg #[.int .i64 0, .int .i64 0]), (8, .agg #[.int .i64 0, .int .i64 0]), (5, .agg #[.int .i64 0, .int .i64 0]), (1, .pointer (some ⟨g2, 0, none⟩)), (0, .pointer (some ⟨g1, 0, none⟩))] ∧ Mem w noEx wc [(gr2_14, .cells [.int .i64 20, .int .i64 20, .int .i64 0, .int .i64 0, .int .i64 13, .int .i64 15, .int .i64 0, .int .i64 0]), (g2, .cells [.int .i64 0, .int .i64 0]), (g1, .cells [.int .i64 0, .int .i64 0, .int .i64 0, .int .i64 0, .slice none 0 0])]) (Zpb 25 2097023) 5 ?_ ?_
 ·clear T M
  rintro ac wc ⟨gr2_14, T, M⟩
  refine g_m2 (i := 7) (j := 21) (by kernel_rfl) ?_ ?_
  ·refine gi 2097151 ?_; intro K hK
   refine ow_bs (e := 32) [.int .i64 (-1), .int .i64 1, .int .i64 0, .int .i64 0, .int .i64 0, .int .i64 0, .int .i64 0, .int .i64 0] M T rfl rfl rfl rfl (.cons (T.e 11 rfl) (.cons (T.e 9 rfl) .nil)) (fun _ => by kernel_rfl) ?_; clear M T; intro gr2_7 wc ac M T
   refine Zso hK _ _ (MA.mk (fun _ => M.mask [false, false, true, true] rfl) (M.mask [false, false, true, false] rfl)) ?_; clear hK K
   exact H18 _ _ ⟨gr2_14, gr2_7, T.pick [1, 0, 2, 3, 4, 5, 6, 7, 8, 9, 10, 11, 12, 13, 14, 15, 16, 17, 18, 19, 20, 21, 22] rfl, M.perm [1, 0, 2, 3] rfl rfl⟩
  refine gi 4194175 ?_; intro K hK
  refine ow_bs (e := 32) [.int .i64 30, .int .i64 30, .int .i64 0, .int .i64 0, .int .i64 30, .int .i64 30, .int .i64 0, .int .i64 0] M T rfl rfl rfl rfl (.cons (T.e 3 rfl) (.cons (T.e 1 rfl) .nil)) (fun _ => by kernel_rfl) ?_; clear M T; intro gr2_21 wc ac M T
  refine Zso hK _ _ (MA.mk (fun _ => M.mask [false, false, true, true] rfl) (M.mask [false, false, true, false] rfl)) ?_; clear hK K
  exact H17 _ _ ⟨gr2_14, gr2_21, T.pick [1, 0, 2, 3, 4, 5, 6, 7, 8, 9, 10, 11, 12, 13, 14, 15, 16, 17, 18, 19, 20, 21, 22] rfl, M.perm [1, 0, 2, 3] rfl rfl⟩
 intro H14
 refine g_have (fun ac wc => ∃ (gr2_7 : Nat), Tm ac 27 [(10, .slice (some ⟨gr2_7, 0, none⟩) 2 2), (23, .agg #[.int .i64 30, .int .i64 30, .int .i64 0, .int .i64 0]), (21, .agg #[.int .i64 30, .int .i64 30]), (20, .agg #[.int .i64 30, .int .i64 30, .int .i64 0, .int .i64 0]), (18, .agg #[.int .i64 30, .int .i64 30]), (16, .agg #[.int .i64 13, .int .i64 15, .int .i64 0, .int .i64 0]), (14, .agg #[.int .i64 13, .int .i64 15]), (13, .agg #[.int .i64 20, .int .i64 20, .int .i64 0, .int .i64 0]), (11, .agg #[.int .i64 20, .int .i64 20]), (9, .agg #[.int .i64 0, .int .i64 0, .int .i64 0, .int .i64 0]), (7, .agg #[.int .i64 0, .int .i64 0]), (6, .agg #[.int .i64 (-1), .int .i64 1, .int .i64 0, .int .i64 0]), (4, .agg #[.int .i64 (-1), .int .i64 1]), (3, .agg #[.int .i64 20, .int .i64 (-2), .int .i64 4, .int .i64 2]), (22, .agg #[.int .i64 0, .int .i64 0]), (19, .agg #[.int .i64 0, .int .i64 0]), (15, .agg #[.int .i64 0, .int .i64 0]), (12, .agg #[.int .i64 0, .int .i64 0]), (8, .agg #[.int .i64 0, .int .i64 0]), (5, .agg #[.int .i64 0, .int .i64 0]), (1, .pointer (some ⟨g2, 0, none⟩)), (0, .pointer (some ⟨g1, 0, none⟩))] ∧ Mem w noEx wc [(gr2_7, .cells [.int .i64 (-1), .int .i64 1, .int .i64 0, .int .i64 0, .int .i64 0, .int .i64 0, .int .i64 0, .int .i64 0]), (g2, .cells [.int .i64 0, .int .i64 0]), (g1, .cells [.int .i64 0, .int .i64 0, .int .i64 0, .int .i64 0, .slice none 0 0])]) (Zpb 25 2080767) 5 ?_ ?_
 ·clear T M
  rintro ac wc ⟨gr2_7, T, M⟩
  refine g_m2 (i := 14) (j := 21) (by kernel_rfl) ?_ ?_
  ·refine gi 2097151 ?_; intro K hK
   refine ow_bs (e := 32) [.int .i64 20, .int .i64 20, .int .i64 0, .int .i64 0, .int .i64 13, .int .i64 15, .int .i64 0, .int .i64 0] M T rfl rfl rfl rfl (.cons (T.e 7 rfl) (.cons (T.e 5 rfl) .nil)) (fun _ => by kernel_rfl) ?_; clear M T; intro gr2_14 wc ac M T
   refine Zso hK _ _ (MA.mk (fun _ => M.mask [false, false, true, true] rfl) (M.mask [false, false, true, false] rfl)) ?_; clear hK K
   exact H18 _ _ ⟨gr2_14, gr2_7, T, M⟩
  refine gi 4177919 ?_; intro K hK
  refine ow_bs (e := 32) [.int .i64 30, .int .i64 30, .int .i64 0, .int .i64 0, .int .i64 30, .int .i64 30, .int .i64 0, .int .i64 0] M T rfl rfl rfl rfl (.cons (T.e 3 rfl) (.cons (T.e 1 rfl) .nil)) (fun _ => by kernel_rfl) ?_; clear M T; intro gr2_21 wc ac M T
  refine Zso hK _ _ (MA.mk (fun _ => M.mask [false, false, true, true] rfl) (M.mask [false, false, true, false] rfl)) ?_; clear hK K
  exact H16 _ _ ⟨gr2_7, gr2_21, T.pick [1, 0, 2, 3, 4, 5, 6, 7, 8, 9, 10, 11, 12, 13, 14, 15, 16, 17, 18, 19, 20, 21, 22] rfl, M.perm [1, 0, 2, 3] rfl rfl⟩
 intro H13
 refine g_have (fun ac wc => ∃ (gr2_14 gr2_7 : Nat), Tm ac 27 [(17, .slice (some ⟨gr2_14, 0, none⟩) 2 2), (10, .slice (some ⟨gr2_7, 0, none⟩) 2 2), (20, .agg #[.int .i64 30, .int .i64 30, .int .i64 0, .int .i64 0]), (18, .agg #[.int .i64 30, .int .i64 30]), (16, .agg #[.int .i64 13, .int .i64 15, .int .i64 0, .int .i64 0]), (14, .agg #[.int .i64 13, .int .i64 15]), (13, .agg #[.int .i64 20, .int .i64 20, .int .i64 0, .int .i64 0]), (11, .agg #[.int .i64 20, .int .i64 20]), (9, .agg #[.int .i64 0, .int .i64 0, .int .i64 0, .int .i64 0]), (7, .agg #[.int .i64 0, .int .i64 0]), (6, .agg #[.int .i64 (-1), .int .i64 1, .int .i64 0, .int .i64 0]), (4, .agg #[.int .i64 (-1), .int .i64 1]), (3, .agg #[.int .i64 20, .int .i64 (-2), .int .i64 4, .int .i64 2]), (22, .agg #[.int .i64 0, .int .i64 0]), (19, .agg #[.int .i64 0, .int .i64 0]), (15, .agg #[.int .i64 0, .int .i64 0]), (12, .agg #[.int .i64 0, .int .i64 0]), (8, .agg #[.int .i64 0, .int .i64 0]), (5, .agg #[.int .i64 0, .int .i64 0]), (1, .pointer (some ⟨g2, 0, none⟩)), (0, .pointer (some ⟨g1, 0, none⟩))] ∧ Mem w noEx wc [(gr2_14, .cells [.int .i64 20, .int .i64 20, .int .i64 0, .int .i64 0, .int .i64 13, .int .i64 15, .int .i64 0, .int .i64 0]), (gr2_7, .cells [.int .i64 (-1), .int .i64 1, .int .i64 0, .int .i64 0, .int .i64 0, .int .i64 0, .int .i64 0, .int .i64 0]), (g2, .cells [.int .i64 0, .int .i64 0]), (g1, .cells [.int .i64 0, .int .i64 0, .int .i64 0, .int .i64 0, .slice none 0 0])]) (Zpb 25 786431) 6 ?_ ?_
 ·clear T M
  rintro ac wc ⟨gr2_14, gr2_7, T, M⟩
  refine gw 18 1048575 ?_; intro K hK
  refine Zoc (first := []) (cap := []) T rfl rfl rfl rfl evf (.cons evc (.cons evc .nil)) Tryz.func50 rfl rfl ?_
  refine Calls.mono (to5_any 30 30 _) ?_
  clear T; rintro e wc ⟨rfl, hb⟩ ac T
  replace M := M.call hb; clear hb
  refine Zso hK _ _ (MA.mk (fun _ => M.mask [false, false, true, true] rfl) (M.mask [false, false, true, false] rfl)) ?_; clear hK K
  exact H15 _ _ ⟨gr2_14, gr2_7, T.pick [1, 2, 0, 3, 4, 5, 6, 7, 8, 9, 10, 11, 12, 13, 14, 15, 16, 17, 18, 19, 20, 21] rfl, M⟩
 intro H12
 refine g_have (fun ac wc => ∃ (gr2_14 : Nat), Tm ac 27 [(17, .slice (some ⟨gr2_14, 0, none⟩) 2 2), (21, .agg #[.int .i64 30, .int .i64 30]), (20, .agg #[.int .i64 30, .int .i64 30, .int .i64 0, .int .i64 0]), (18, .agg #[.int .i64 30, .int .i64 30]), (16, .agg #[.int .i64 13, .int .i64 15, .int .i64 0, .int .i64 0]), (14, .agg #[.int .i64 13, .int .i64 15]), (13, .agg #[.int .i64 20, .int .i64 20, .int .i64 0, .int .i64 0]), (11, .agg #[.int .i64 20, .int .i64 20]), (9, .agg #[.int .i64 0, .int .i64 0, .int .i64 0, .int .i64 0]), (7, .agg #[.int .i64 0, .int .i64 0]), (6, .agg #[.int .i64 (-1), .int .i64 1, .int .i64 0, .int .i64 0]), (4, .agg #[.int .i64 (-1), .int .i64 1]), (3, .agg #[.int .i64 20, .int .i64 (-2), .int .i64 4, .int .i64 2]), (22, .agg #[.int .i64 0, .int .i64 0]), (19, .agg #[.int .i64 0, .int .i64 0]), (15, .agg #[.int .i64 0, .int .i64 0]), (12, .agg #[.int .i64 0, .int .i64 0]), (8, .agg #[.int .i64 0, .int .i64 0]), (5, .agg #[.int .i64 0, .int .i64 0]), (1, .pointer (some ⟨g2, 0, none⟩)), (0, .pointer (some ⟨g1, 0, none⟩))] ∧ Mem w noEx wc [(gr2_14, .cells [.int .i64 20, .int .i64 20, .int .i64 0, .int .i64 0, .int .i64 13, .int .i64 15, .int .i64 0, .int .i64 0]), (g2, .cells [.int .i64 0, .int .i64 0]), (g1, .cells [.int .i64 0, .int .i64 0, .int .i64 0, .int .i64 0, .slice none 0 0])]) (Zpb 25 1048447) 6 ?_ ?_
 ·clear T M
  rintro ac wc ⟨gr2_14, T, M⟩
  refine g_m2 (i := 7) (j := 20) (by kernel_rfl) ?_ ?_
  ·refine gi 1048575 ?_; intro K hK
   refine ow_bs (e := 32) [.int .i64 (-1), .int .i64 1, .int .i64 0, .int .i64 0, .int .i64 0, .int .i64 0, .int .i64 0, .int .i64 0] M T rfl rfl rfl rfl (.cons (T.e 10 rfl) (.cons (T.e 8 rfl) .nil)) (fun _ => by kernel_rfl) ?_; clear M T; intro gr2_7 wc ac M T
   refine Zso hK _ _ (MA.mk (fun _ => M.mask [false, false, true, true] rfl) (M.mask [false, false, true, false] rfl)) ?_; clear hK K
   exact H15 _ _ ⟨gr2_14, gr2_7, T.pick [1, 0, 2, 3, 4, 5, 6, 7, 8, 9, 10, 11, 12, 13, 14, 15, 16, 17, 18, 19, 20, 21] rfl, M.perm [1, 0, 2, 3] rfl rfl⟩
  refine gi 2097023 ?_; intro K hK
  refine Zoc (first := []) (cap := []) T rfl rfl rfl rfl evf (.cons (T.e 1 rfl) (.cons (T.e 13 rfl) .nil)) Tryz.func98 rfl rfl ?_
  refine Calls.mono (sound5_any 30 30 0 0 _) ?_
  clear T; rintro e wc ⟨rfl, hb⟩ ac T
  replace M := M.call hb; clear hb
  refine Zso hK _ _ (MA.mk (fun _ => M.mask [false, true, true] rfl) (M.mask [false, true, false] rfl)) ?_; clear hK K
  exact H14 _ _ ⟨gr2_14, T.pick [1, 0, 2, 3, 4, 5, 6, 7, 8, 9, 10, 11, 12, 13, 14, 15, 16, 17, 18, 19, 20, 21] rfl, M⟩
 intro H11
 refine g_have (fun ac wc => ∃ (gr2_7 : Nat), Tm ac 27 [(10, .slice (some ⟨gr2_7, 0, none⟩) 2 2), (21, .agg #[.int .i64 30, .int .i64 30]), (20, .agg #[.int .i64 30, .int .i64 30, .int .i64 0, .int .i64 0]), (18, .agg #[.int .i64 30, .int .i64 30]), (16, .agg #[.int .i64 13, .int .i64 15, .int .i64 0, .int .i64 0]), (14, .agg #[.int .i64 13, .int .i64 15]), (13, .agg #[.int .i64 20, .int .i64 20, .int .i64 0, .int .i64 0]), (11, .agg #[.int .i64 20, .int .i64 20]), (9, .agg #[.int .i64 0, .int .i64 0, .int .i64 0, .int .i64 0]), (7, .agg #[.int .i64 0, .int .i64 0]), (6, .agg #[.int .i64 (-1), .int .i64 1, .int .i64 0, .int .i64 0]), (4, .agg #[.int .i64 (-1), .int .i64 1]), (3, .agg #[.int .i64 20, .int .i64 (-2), .int .i64 4, .int .i64 2]), (22, .agg #[.int .i64 0, .int .i64 0]), (19, .agg #[.int .i64 0, .int .i64 0]), (15, .agg #[.int .i64 0, .int .i64 0]), (12, .agg #[.int .i64 0, .int .i64 0]), (8, .agg #[.int .i64 0, .int .i64 0]), (5, .agg #[.int .i64 0, .int .i64 0]), (1, .pointer (some ⟨g2, 0, none⟩)), (0, .pointer (some ⟨g1, 0, none⟩))] ∧ Mem w noEx wc [(gr2_7, .cells [.int .i64 (-1), .int .i64 1, .int .i64 0, .int .i64 0, .int .i64 0, .int .i64 0, .int .i64 0, .int .i64 0]), (g2, .cells [.int .i64 0, .int .i64 0]), (g1, .cells [.int .i64 0, .int .i64 0, .int .i64 0, .int .i64 0, .slice none 0 0])]) (Zpb 25 1032191) 6 ?_ ?_
 ·clear T M
  rintro ac wc ⟨gr2_7, T, M⟩
  refine g_m2 (i := 14) (j := 20) (by kernel_rfl) ?_ ?_
  ·refine gi 1048575 ?_; intro K hK
   refine ow_bs (e := 32) [.int .i64 20, .int .i64 20, .int .i64 0, .int .i64 0, .int .i64 13, .int .i64 15, .int .i64 0, .int .i64 0] M T rfl rfl rfl rfl (.cons (T.e 6 rfl) (.cons (T.e 4 rfl) .nil)) (fun _ => by kernel_rfl) ?_; clear M T; intro gr2_14 wc ac M T
   refine Zso hK _ _ (MA.mk (fun _ => M.mask [false, false, true, true] rfl) (M.mask [false, false, true, false] rfl)) ?_; clear hK K
   exact H15 _ _ ⟨gr2_14, gr2_7, T, M⟩
  refine gi 2080767 ?_; intro K hK
  refine Zoc (first := []) (cap := []) T rfl rfl rfl rfl evf (.cons (T.e 1 rfl) (.cons (T.e 13 rfl) .nil)) Tryz.func98 rfl rfl ?_
  refine Calls.mono (sound5_any 30 30 0 0 _) ?_
  clear T; rintro e wc ⟨rfl, hb⟩ ac T
  replace M := M.call hb; clear hb
  refine Zso hK _ _ (MA.mk (fun _ => M.mask [false, true, true] rfl) (M.mask [false, true, false] rfl)) ?_; clear hK K
  exact H13 _ _ ⟨gr2_7, T.pick [1, 0, 2, 3, 4, 5, 6, 7, 8, 9, 10, 11, 12, 13, 14, 15, 16, 17, 18, 19, 20, 21] rfl, M⟩
 intro H10
 refine g_have (fun ac wc => ∃ (gr2_14 gr2_7 : Nat), Tm ac 27 [(17, .slice (some ⟨gr2_14, 0, none⟩) 2 2), (10, .slice (some ⟨gr2_7, 0, none⟩) 2 2), (18, .agg #[.int .i64 30, .int .i64 30]), (16, .agg #[.int .i64 13, .int .i64 15, .int .i64 0, .int .i64 0]), (14, .agg #[.int .i64 13, .int .i64 15]), (13, .agg #[.int .i64 20, .int .i64 20, .int .i64 0, .int .i64 0]), (11, .agg #[.int .i64 20, .int .i64 20]), (9, .agg #[.int .i64 0, .int .i64 0, .int .i64 0, .int .i64 0]), (7, .agg #[.int .i64 0, .int .i64 0]), (6, .agg #[.int .i64 (-1), .int .i64 1, .int .i64 0, .int .i64 0]), (4, .agg #[.int .i64 (-1), .int .i64 1]), (3, .agg #[.int .i64 20, .int .i64 (-2), .int .i64 4, .int .i64 2]), (22, .agg #[.int .i64 0, .int .i64 0]), (19, .agg #[.int .i64 0, .int .i64 0]), (15, .agg #[.int .i64 0, .int .i64 0]), (12, .agg #[.int .i64 0, .int .i64 0]), (8, .agg #[.int .i64 0, .int .i64 0]), (5, .agg #[.int .i64 0, .int .i64 0]), (1, .pointer (some ⟨g2, 0, none⟩)), (0, .pointer (some ⟨g1, 0, none⟩))] ∧ Mem w noEx wc [(gr2_14, .cells [.int .i64 20, .int .i64 20, .int .i64 0, .int .i64 0, .int .i64 13, .int .i64 15, .int .i64 0, .int .i64 0]), (gr2_7, .cells [.int .i64 (-1), .int .i64 1, .int .i64 0, .int .i64 0, .int .i64 0, .int .i64 0, .int .i64 0, .int .i64 0]), (g2, .cells [.int .i64 0, .int .i64 0]), (g1, .cells [.int .i64 0, .int .i64 0, .int .i64 0, .int .i64 0, .slice none 0 0])]) (Zpb 25 655359) 7 ?_ ?_
 ·clear T M
  rintro ac wc ⟨gr2_14, gr2_7, T, M⟩
  refine gw 17 786431 ?_; intro K hK
  refine Zoc (first := []) (cap := []) T rfl rfl rfl rfl evf (.cons (T.e 2 rfl) (.cons (T.e 13 rfl) .nil)) Tryz.func98 rfl rfl ?_
  refine Calls.mono (sound5_any 30 30 0 0 _) ?_
  clear T; rintro e wc ⟨rfl, hb⟩ ac T
  replace M := M.call hb; clear hb
  refine Zso hK _ _ (MA.mk (fun _ => M.mask [false, false, true, true] rfl) (M.mask [false, false, true, false] rfl)) ?_; clear hK K
  exact H12 _ _ ⟨gr2_14, gr2_7, T.pick [1, 2, 0, 3, 4, 5, 6, 7, 8, 9, 10, 11, 12, 13, 14, 15, 16, 17, 18, 19, 20] rfl, M⟩
 intro H9
 refine g_have (fun ac wc => ∃ (gr2_14 : Nat), Tm ac 27 [(17, .slice (some ⟨gr2_14, 0, none⟩) 2 2), (20, .agg #[.int .i64 30, .int .i64 30, .int .i64 0, .int .i64 0]), (18, .agg #[.int .i64 30, .int .i64 30]), (16, .agg #[.int .i64 13, .int .i64 15, .int .i64 0, .int .i64 0]), (14, .agg #[.int .i64 13, .int .i64 15]), (13, .agg #[.int .i64 20, .int .i64 20, .int .i64 0, .int .i64 0]), (11, .agg #[.int .i64 20, .int .i64 20]), (9, .agg #[.int .i64 0, .int .i64 0, .int .i64 0, .int .i64 0]), (7, .agg #[.int .i64 0, .int .i64 0]), (6, .agg #[.int .i64 (-1), .int .i64 1, .int .i64 0, .int .i64 0]), (4, .agg #[.int .i64 (-1), .int .i64 1]), (3, .agg #[.int .i64 20, .int .i64 (-2), .int .i64 4, .int .i64 2]), (22, .agg #[.int .i64 0, .int .i64 0]), (19, .agg #[.int .i64 0, .int .i64 0]), (15, .agg #[.int .i64 0, .int .i64 0]), (12, .agg #[.int .i64 0, .int .i64 0]), (8, .agg #[.int .i64 0, .int .i64 0]), (5, .agg #[.int .i64 0, .int .i64 0]), (1, .pointer (some ⟨g2, 0, none⟩)), (0, .pointer (some ⟨g1, 0, none⟩))] ∧ Mem w noEx wc [(gr2_14, .cells [.int .i64 20, .int .i64 20, .int .i64 0, .int .i64 0, .int .i64 13, .int .i64 15, .int .i64 0, .int .i64 0]), (g2, .cells [.int .i64 0, .int .i64 0]), (g1, .cells [.int .i64 0, .int .i64 0, .int .i64 0, .int .i64 0, .slice none 0 0])]) (Zpb 25 786303) 7 ?_ ?_
 ·clear T M
  rintro ac wc ⟨gr2_14, T, M⟩
  refine g_m2 (i := 7) (j := 18) (by kernel_rfl) ?_ ?_
  ·refine gi 786431 ?_; intro K hK
   refine ow_bs (e := 32) [.int .i64 (-1), .int .i64 1, .int .i64 0, .int .i64 0, .int .i64 0, .int .i64 0, .int .i64 0, .int .i64 0] M T rfl rfl rfl rfl (.cons (T.e 9 rfl) (.cons (T.e 7 rfl) .nil)) (fun _ => by kernel_rfl) ?_; clear M T; intro gr2_7 wc ac M T
   refine Zso hK _ _ (MA.mk (fun _ => M.mask [false, false, true, true] rfl) (M.mask [false, false, true, false] rfl)) ?_; clear hK K
   exact H12 _ _ ⟨gr2_14, gr2_7, T.pick [1, 0, 2, 3, 4, 5, 6, 7, 8, 9, 10, 11, 12, 13, 14, 15, 16, 17, 18, 19, 20] rfl, M.perm [1, 0, 2, 3] rfl rfl⟩
  refine gi 1048447 ?_; intro K hK
  refine Zoc (first := []) (cap := []) T rfl rfl rfl rfl evf (.cons evc (.cons evc .nil)) Tryz.func50 rfl rfl ?_
  refine Calls.mono (to5_any 30 30 _) ?_
  clear T; rintro e wc ⟨rfl, hb⟩ ac T
  replace M := M.call hb; clear hb
  refine Zso hK _ _ (MA.mk (fun _ => M.mask [false, true, true] rfl) (M.mask [false, true, false] rfl)) ?_; clear hK K
  exact H11 _ _ ⟨gr2_14, T.pick [1, 0, 2, 3, 4, 5, 6, 7, 8, 9, 10, 11, 12, 13, 14, 15, 16, 17, 18, 19, 20] rfl, M⟩
 intro H8
 refine g_have (fun ac wc => ∃ (gr2_7 : Nat), Tm ac 27 [(10, .slice (some ⟨gr2_7, 0, none⟩) 2 2), (20, .agg #[.int .i64 30, .int .i64 30, .int .i64 0, .int .i64 0]), (18, .agg #[.int .i64 30, .int .i64 30]), (16, .agg #[.int .i64 13, .int .i64 15, .int .i64 0, .int .i64 0]), (14, .agg #[.int .i64 13, .int .i64 15]), (13, .agg #[.int .i64 20, .int .i64 20, .int .i64 0, .int .i64 0]), (11, .agg #[.int .i64 20, .int .i64 20]), (9, .agg #[.int .i64 0, .int .i64 0, .int .i64 0, .int .i64 0]), (7, .agg #[.int .i64 0, .int .i64 0]), (6, .agg #[.int .i64 (-1), .int .i64 1, .int .i64 0, .int .i64 0]), (4, .agg #[.int .i64 (-1), .int .i64 1]), (3, .agg #[.int .i64 20, .int .i64 (-2), .int .i64 4, .int .i64 2]), (22, .agg #[.int .i64 0, .int .i64 0]), (19, .agg #[.int .i64 0, .int .i64 0]), (15, .agg #[.int .i64 0, .int .i64 0]), (12, .agg #[.int .i64 0, .int .i64 0]), (8, .agg #[.int .i64 0, .int .i64 0]), (5, .agg #[.int .i64 0, .int .i64 0]), (1, .pointer (some ⟨g2, 0, none⟩)), (0, .pointer (some ⟨g1, 0, none⟩))] ∧ Mem w noEx wc [(gr2_7, .cells [.int .i64 (-1), .int .i64 1, .int .i64 0, .int .i64 0, .int .i64 0, .int .i64 0, .int .i64 0, .int .i64 0]), (g2, .cells [.int .i64 0, .int .i64 0]), (g1, .cells [.int .i64 0, .int .i64 0, .int .i64 0, .int .i64 0, .slice none 0 0])]) (Zpb 25 770047) 7 ?_ ?_
 ·clear T M
  rintro ac wc ⟨gr2_7, T, M⟩
  refine g_m2 (i := 14) (j := 18) (by kernel_rfl) ?_ ?_
  ·refine gi 786431 ?_; intro K hK
   refine ow_bs (e := 32) [.int .i64 20, .int .i64 20, .int .i64 0, .int .i64 0, .int .i64 13, .int .i64 15, .int .i64 0, .int .i64 0] M T rfl rfl rfl rfl (.cons (T.e 5 rfl) (.cons (T.e 3 rfl) .nil)) (fun _ => by kernel_rfl) ?_; clear M T; intro gr2_14 wc ac M T
   refine Zso hK _ _ (MA.mk (fun _ => M.mask [false, false, true, true] rfl) (M.mask [false, false, true, false] rfl)) ?_; clear hK K
   exact H12 _ _ ⟨gr2_14, gr2_7, T, M⟩
  refine gi 1032191 ?_; intro K hK
  refine Zoc (first := []) (cap := []) T rfl rfl rfl rfl evf (.cons evc (.cons evc .nil)) Tryz.func50 rfl rfl ?_
  refine Calls.mono (to5_any 30 30 _) ?_
  clear T; rintro e wc ⟨rfl, hb⟩ ac T
  replace M := M.call hb; clear hb
  refine Zso hK _ _ (MA.mk (fun _ => M.mask [false, true, true] rfl) (M.mask [false, true, false] rfl)) ?_; clear hK K
  exact H10 _ _ ⟨gr2_7, T.pick [1, 0, 2, 3, 4, 5, 6, 7, 8, 9, 10, 11, 12, 13, 14, 15, 16, 17, 18, 19, 20] rfl, M⟩
 intro H7
 refine g_have (fun ac wc => ∃ (gr2_7 gr2_14 : Nat), Tm ac 27 [(10, .slice (some ⟨gr2_7, 0, none⟩) 2 2), (17, .slice (some ⟨gr2_14, 0, none⟩) 2 2), (16, .agg #[.int .i64 13, .int .i64 15, .int .i64 0, .int .i64 0]), (14, .agg #[.int .i64 13, .int .i64 15]), (13, .agg #[.int .i64 20, .int .i64 20, .int .i64 0, .int .i64 0]), (11, .agg #[.int .i64 20, .int .i64 20]), (9, .agg #[.int .i64 0, .int .i64 0, .int .i64 0, .int .i64 0]), (7, .agg #[.int .i64 0, .int .i64 0]), (6, .agg #[.int .i64 (-1), .int .i64 1, .int .i64 0, .int .i64 0]), (4, .agg #[.int .i64 (-1), .int .i64 1]), (3, .agg #[.int .i64 20, .int .i64 (-2), .int .i64 4, .int .i64 2]), (22, .agg #[.int .i64 0, .int .i64 0]), (19, .agg #[.int .i64 0, .int .i64 0]), (15, .agg #[.int .i64 0, .int .i64 0]), (12, .agg #[.int .i64 0, .int .i64 0]), (8, .agg #[.int .i64 0, .int .i64 0]), (5, .agg #[.int .i64 0, .int .i64 0]), (1, .pointer (some ⟨g2, 0, none⟩)), (0, .pointer (some ⟨g1, 0, none⟩))] ∧ Mem w noEx wc [(gr2_7, .cells [.int .i64 (-1), .int .i64 1, .int .i64 0, .int .i64 0, .int .i64 0, .int .i64 0, .int .i64 0, .int .i64 0]), (gr2_14, .cells [.int .i64 20, .int .i64 20, .int .i64 0, .int .i64 0, .int .i64 13, .int .i64 15, .int .i64 0, .int .i64 0]), (g2, .cells [.int .i64 0, .int .i64 0]), (g1, .cells [.int .i64 0, .int .i64 0, .int .i64 0, .int .i64 0, .slice none 0 0])]) (Zpb 25 622591) 8 ?_ ?_
 ·clear T M
  rintro ac wc ⟨gr2_7, gr2_14, T, M⟩
  refine gw 15 655359 ?_; intro K hK
  refine Zoc (first := []) (cap := []) T rfl rfl rfl rfl evf (.cons evc (.cons evc .nil)) Tryz.func50 rfl rfl ?_
  refine Calls.mono (to5_any 30 30 _) ?_
  clear T; rintro e wc ⟨rfl, hb⟩ ac T
  replace M := M.call hb; clear hb
  refine Zso hK _ _ (MA.mk (fun _ => M.mask [false, false, true, true] rfl) (M.mask [false, false, true, false] rfl)) ?_; clear hK K
  exact H9 _ _ ⟨gr2_14, gr2_7, T.pick [2, 1, 0, 3, 4, 5, 6, 7, 8, 9, 10, 11, 12, 13, 14, 15, 16, 17, 18, 19] rfl, M.perm [1, 0, 2, 3] rfl rfl⟩
 intro H6
 refine g_have (fun ac wc => ∃ (gr2_14 : Nat), Tm ac 27 [(18, .agg #[.int .i64 30, .int .i64 30]), (17, .slice (some ⟨gr2_14, 0, none⟩) 2 2), (16, .agg #[.int .i64 13, .int .i64 15, .int .i64 0, .int .i64 0]), (14, .agg #[.int .i64 13, .int .i64 15]), (13, .agg #[.int .i64 20, .int .i64 20, .int .i64 0, .int .i64 0]), (11, .agg #[.int .i64 20, .int .i64 20]), (9, .agg #[.int .i64 0, .int .i64 0, .int .i64 0, .int .i64 0]), (7, .agg #[.int .i64 0, .int .i64 0]), (6, .agg #[.int .i64 (-1), .int .i64 1, .int .i64 0, .int .i64 0]), (4, .agg #[.int .i64 (-1), .int .i64 1]), (3, .agg #[.int .i64 20, .int .i64 (-2), .int .i64 4, .int .i64 2]), (22, .agg #[.int .i64 0, .int .i64 0]), (19, .agg #[.int .i64 0, .int .i64 0]), (15, .agg #[.int .i64 0, .int .i64 0]), (12, .agg #[.int .i64 0, .int .i64 0]), (8, .agg #[.int .i64 0, .int .i64 0]), (5, .agg #[.int .i64 0, .int .i64 0]), (1, .pointer (some ⟨g2, 0, none⟩)), (0, .pointer (some ⟨g1, 0, none⟩))] ∧ Mem w noEx wc [(gr2_14, .cells [.int .i64 20, .int .i64 20, .int .i64 0, .int .i64 0, .int .i64 13, .int .i64 15, .int .i64 0, .int .i64 0]), (g2, .cells [.int .i64 0, .int .i64 0]), (g1, .cells [.int .i64 0, .int .i64 0, .int .i64 0, .int .i64 0, .slice none 0 0])]) (Zpb 25 655231) 8 ?_ ?_
 ·clear T M
  rintro ac wc ⟨gr2_14, T, M⟩
  refine g_m2 (i := 7) (j := 17) (by kernel_rfl) ?_ ?_
  ·refine gi 655359 ?_; intro K hK
   refine ow_bs (e := 32) [.int .i64 (-1), .int .i64 1, .int .i64 0, .int .i64 0, .int .i64 0, .int .i64 0, .int .i64 0, .int .i64 0] M T rfl rfl rfl rfl (.cons (T.e 8 rfl) (.cons (T.e 6 rfl) .nil)) (fun _ => by kernel_rfl) ?_; clear M T; intro gr2_7 wc ac M T
   refine Zso hK _ _ (MA.mk (fun _ => M.mask [false, false, true, true] rfl) (M.mask [false, false, true, false] rfl)) ?_; clear hK K
   exact H9 _ _ ⟨gr2_14, gr2_7, T.pick [2, 0, 1, 3, 4, 5, 6, 7, 8, 9, 10, 11, 12, 13, 14, 15, 16, 17, 18, 19] rfl, M.perm [1, 0, 2, 3] rfl rfl⟩
  refine gi 786303 ?_; intro K hK
  refine Zoc (first := []) (cap := []) T rfl rfl rfl rfl evf (.cons (T.e 0 rfl) (.cons (T.e 12 rfl) .nil)) Tryz.func98 rfl rfl ?_
  refine Calls.mono (sound5_any 30 30 0 0 _) ?_
  clear T; rintro e wc ⟨rfl, hb⟩ ac T
  replace M := M.call hb; clear hb
  refine Zso hK _ _ (MA.mk (fun _ => M.mask [false, true, true] rfl) (M.mask [false, true, false] rfl)) ?_; clear hK K
  exact H8 _ _ ⟨gr2_14, T.pick [2, 0, 1, 3, 4, 5, 6, 7, 8, 9, 10, 11, 12, 13, 14, 15, 16, 17, 18, 19] rfl, M⟩
 intro H5
 refine g_have (fun ac wc => ∃ (gr2_7 : Nat), Tm ac 27 [(10, .slice (some ⟨gr2_7, 0, none⟩) 2 2), (18, .agg #[.int .i64 30, .int .i64 30]), (16, .agg #[.int .i64 13, .int .i64 15, .int .i64 0, .int .i64 0]), (14, .agg #[.int .i64 13, .int .i64 15]), (13, .agg #[.int .i64 20, .int .i64 20, .int .i64 0, .int .i64 0]), (11, .agg #[.int .i64 20, .int .i64 20]), (9, .agg #[.int .i64 0, .int .i64 0, .int .i64 0, .int .i64 0]), (7, .agg #[.int .i64 0, .int .i64 0]), (6, .agg #[.int .i64 (-1), .int .i64 1, .int .i64 0, .int .i64 0]), (4, .agg #[.int .i64 (-1), .int .i64 1]), (3, .agg #[.int .i64 20, .int .i64 (-2), .int .i64 4, .int .i64 2]), (22, .agg #[.int .i64 0, .int .i64 0]), (19, .agg #[.int .i64 0, .int .i64 0]), (15, .agg #[.int .i64 0, .int .i64 0]), (12, .agg #[.int .i64 0, .int .i64 0]), (8, .agg #[.int .i64 0, .int .i64 0]), (5, .agg #[.int .i64 0, .int .i64 0]), (1, .pointer (some ⟨g2, 0, none⟩)), (0, .pointer (some ⟨g1, 0, none⟩))] ∧ Mem w noEx wc [(gr2_7, .cells [.int .i64 (-1), .int .i64 1, .int .i64 0, .int .i64 0, .int .i64 0, .int .i64 0, .int .i64 0, .int .i64 0]), (g2, .cells [.int .i64 0, .int .i64 0]), (g1, .cells [.int .i64 0, .int .i64 0, .int .i64 0, .int .i64 0, .slice none 0 0])]) (Zpb 25 638975) 8 ?_ ?_
 ·clear T M
  rintro ac wc ⟨gr2_7, T, M⟩
  refine g_m2 (i := 14) (j := 17) (by kernel_rfl) ?_ ?_
  ·refine gi 655359 ?_; intro K hK
   refine ow_bs (e := 32) [.int .i64 20, .int .i64 20, .int .i64 0, .int .i64 0, .int .i64 13, .int .i64 15, .int .i64 0, .int .i64 0] M T rfl rfl rfl rfl (.cons (T.e 4 rfl) (.cons (T.e 2 rfl) .nil)) (fun _ => by kernel_rfl) ?_; clear M T; intro gr2_14 wc ac M T
   refine Zso hK _ _ (MA.mk (fun _ => M.mask [false, false, true, true] rfl) (M.mask [false, false, true, false] rfl)) ?_; clear hK K
   exact H9 _ _ ⟨gr2_14, gr2_7, T, M⟩
  refine gi 770047 ?_; intro K hK
  refine Zoc (first := []) (cap := []) T rfl rfl rfl rfl evf (.cons (T.e 1 rfl) (.cons (T.e 12 rfl) .nil)) Tryz.func98 rfl rfl ?_
  refine Calls.mono (sound5_any 30 30 0 0 _) ?_
  clear T; rintro e wc ⟨rfl, hb⟩ ac T
  replace M := M.call hb; clear hb
  refine Zso hK _ _ (MA.mk (fun _ => M.mask [false, true, true] rfl) (M.mask [false, true, false] rfl)) ?_; clear hK K
  exact H7 _ _ ⟨gr2_7, T.pick [1, 0, 2, 3, 4, 5, 6, 7, 8, 9, 10, 11, 12, 13, 14, 15, 16, 17, 18, 19] rfl, M⟩
 intro H4
 refine g_have (fun ac wc => ∃ (gr2_7 : Nat), Tm ac 27 [(10, .slice (some ⟨gr2_7, 0, none⟩) 2 2), (16, .agg #[.int .i64 13, .int .i64 15, .int .i64 0, .int .i64 0]), (14, .agg #[.int .i64 13, .int .i64 15]), (13, .agg #[.int .i64 20, .int .i64 20, .int .i64 0, .int .i64 0]), (11, .agg #[.int .i64 20, .int .i64 20]), (9, .agg #[.int .i64 0, .int .i64 0, .int .i64 0, .int .i64 0]), (7, .agg #[.int .i64 0, .int .i64 0]), (6, .agg #[.int .i64 (-1), .int .i64 1, .int .i64 0, .int .i64 0]), (4, .agg #[.int .i64 (-1), .int .i64 1]), (3, .agg #[.int .i64 20, .int .i64 (-2), .int .i64 4, .int .i64 2]), (22, .agg #[.int .i64 0, .int .i64 0]), (19, .agg #[.int .i64 0, .int .i64 0]), (15, .agg #[.int .i64 0, .int .i64 0]), (12, .agg #[.int .i64 0, .int .i64 0]), (8, .agg #[.int .i64 0, .int .i64 0]), (5, .agg #[.int .i64 0, .int .i64 0]), (1, .pointer (some ⟨g2, 0, none⟩)), (0, .pointer (some ⟨g1, 0, none⟩))] ∧ Mem w noEx wc [(gr2_7, .cells [.int .i64 (-1), .int .i64 1, .int .i64 0, .int .i64 0, .int .i64 0, .int .i64 0, .int .i64 0, .int .i64 0]), (g2, .cells [.int .i64 0, .int .i64 0]), (g1, .cells [.int .i64 0, .int .i64 0, .int .i64 0, .int .i64 0, .slice none 0 0])]) (Zpb 25 606207) 9 ?_ ?_
 ·clear T M
  rintro ac wc ⟨gr2_7, T, M⟩
  refine g_m2 (i := 14) (j := 15) (by kernel_rfl) ?_ ?_
  ·refine gi 622591 ?_; intro K hK
   refine ow_bs (e := 32) [.int .i64 20, .int .i64 20, .int .i64 0, .int .i64 0, .int .i64 13, .int .i64 15, .int .i64 0, .int .i64 0] M T rfl rfl rfl rfl (.cons (T.e 3 rfl) (.cons (T.e 1 rfl) .nil)) (fun _ => by kernel_rfl) ?_; clear M T; intro gr2_14 wc ac M T
   refine Zso hK _ _ (MA.mk (fun _ => M.mask [false, false, true, true] rfl) (M.mask [false, false, true, false] rfl)) ?_; clear hK K
   exact H6 _ _ ⟨gr2_7, gr2_14, T.pick [1, 0, 2, 3, 4, 5, 6, 7, 8, 9, 10, 11, 12, 13, 14, 15, 16, 17, 18] rfl, M.perm [1, 0, 2, 3] rfl rfl⟩
  refine gi 638975 ?_; intro K hK
  refine Zoc (first := []) (cap := []) T rfl rfl rfl rfl evf (.cons evc (.cons evc .nil)) Tryz.func50 rfl rfl ?_
  refine Calls.mono (to5_any 30 30 _) ?_
  clear T; rintro e wc ⟨rfl, hb⟩ ac T
  replace M := M.call hb; clear hb
  refine Zso hK _ _ (MA.mk (fun _ => M.mask [false, true, true] rfl) (M.mask [false, true, false] rfl)) ?_; clear hK K
  exact H4 _ _ ⟨gr2_7, T.pick [1, 0, 2, 3, 4, 5, 6, 7, 8, 9, 10, 11, 12, 13, 14, 15, 16, 17, 18] rfl, M⟩
 intro H3
 refine g_have (fun ac wc => ∃ (gr2_7 : Nat), Tm ac 27 [(10, .slice (some ⟨gr2_7, 0, none⟩) 2 2), (14, .agg #[.int .i64 13, .int .i64 15]), (13, .agg #[.int .i64 20, .int .i64 20, .int .i64 0, .int .i64 0]), (11, .agg #[.int .i64 20, .int .i64 20]), (9, .agg #[.int .i64 0, .int .i64 0, .int .i64 0, .int .i64 0]), (7, .agg #[.int .i64 0, .int .i64 0]), (6, .agg #[.int .i64 (-1), .int .i64 1, .int .i64 0, .int .i64 0]), (4, .agg #[.int .i64 (-1), .int .i64 1]), (3, .agg #[.int .i64 20, .int .i64 (-2), .int .i64 4, .int .i64 2]), (22, .agg #[.int .i64 0, .int .i64 0]), (19, .agg #[.int .i64 0, .int .i64 0]), (15, .agg #[.int .i64 0, .int .i64 0]), (12, .agg #[.int .i64 0, .int .i64 0]), (8, .agg #[.int .i64 0, .int .i64 0]), (5, .agg #[.int .i64 0, .int .i64 0]), (1, .pointer (some ⟨g2, 0, none⟩)), (0, .pointer (some ⟨g1, 0, none⟩))] ∧ Mem w noEx wc [(gr2_7, .cells [.int .i64 (-1), .int .i64 1, .int .i64 0, .int .i64 0, .int .i64 0, .int .i64 0, .int .i64 0, .int .i64 0]), (g2, .cells [.int .i64 0, .int .i64 0]), (g1, .cells [.int .i64 0, .int .i64 0, .int .i64 0, .int .i64 0, .slice none 0 0])]) (Zpb 25 598015) 10 ?_ ?_
 ·clear T M
  rintro ac wc ⟨gr2_7, T, M⟩
  refine gw 13 606207 ?_; intro K hK
  refine Zoc (first := []) (cap := []) T rfl rfl rfl rfl evf (.cons (T.e 1 rfl) (.cons (T.e 11 rfl) .nil)) Tryz.func98 rfl rfl ?_
  refine Calls.mono (sound5_any 13 15 0 0 _) ?_
  clear T; rintro e wc ⟨rfl, hb⟩ ac T
  replace M := M.call hb; clear hb
  refine Zso hK _ _ (MA.mk (fun _ => M.mask [false, true, true] rfl) (M.mask [false, true, false] rfl)) ?_; clear hK K
  exact H3 _ _ ⟨gr2_7, T.pick [1, 0, 2, 3, 4, 5, 6, 7, 8, 9, 10, 11, 12, 13, 14, 15, 16, 17] rfl, M⟩
 intro H2
 refine g_have (fun ac wc => ∃ (gr2_7 : Nat), Tm ac 27 [(10, .slice (some ⟨gr2_7, 0, none⟩) 2 2), (13, .agg #[.int .i64 20, .int .i64 20, .int .i64 0, .int .i64 0]), (11, .agg #[.int .i64 20, .int .i64 20]), (9, .agg #[.int .i64 0, .int .i64 0, .int .i64 0, .int .i64 0]), (7, .agg #[.int .i64 0, .int .i64 0]), (6, .agg #[.int .i64 (-1), .int .i64 1, .int .i64 0, .int .i64 0]), (4, .agg #[.int .i64 (-1), .int .i64 1]), (3, .agg #[.int .i64 20, .int .i64 (-2), .int .i64 4, .int .i64 2]), (22, .agg #[.int .i64 0, .int .i64 0]), (19, .agg #[.int .i64 0, .int .i64 0]), (15, .agg #[.int .i64 0, .int .i64 0]), (12, .agg #[.int .i64 0, .int .i64 0]), (8, .agg #[.int .i64 0, .int .i64 0]), (5, .agg #[.int .i64 0, .int .i64 0]), (1, .pointer (some ⟨g2, 0, none⟩)), (0, .pointer (some ⟨g1, 0, none⟩))] ∧ Mem w noEx wc [(gr2_7, .cells [.int .i64 (-1), .int .i64 1, .int .i64 0, .int .i64 0, .int .i64 0, .int .i64 0, .int .i64 0, .int .i64 0]), (g2, .cells [.int .i64 0, .int .i64 0]), (g1, .cells [.int .i64 0, .int .i64 0, .int .i64 0, .int .i64 0, .slice none 0 0])]) (Zpb 25 595967) 11 ?_ ?_
 ·clear T M
  rintro ac wc ⟨gr2_7, T, M⟩
  refine gw 11 598015 ?_; intro K hK
  refine Zoc (first := []) (cap := []) T rfl rfl rfl rfl evf (.cons evc (.cons evc .nil)) Tryz.func50 rfl rfl ?_
  refine Calls.mono (to5_any 13 15 _) ?_
  clear T; rintro e wc ⟨rfl, hb⟩ ac T
  replace M := M.call hb; clear hb
  refine Zso hK _ _ (MA.mk (fun _ => M.mask [false, true, true] rfl) (M.mask [false, true, false] rfl)) ?_; clear hK K
  exact H2 _ _ ⟨gr2_7, T.pick [1, 0, 2, 3, 4, 5, 6, 7, 8, 9, 10, 11, 12, 13, 14, 15, 16] rfl, M⟩
 intro H1
 refine g_have (fun ac wc => ∃ (gr2_7 : Nat), Tm ac 27 [(11, .agg #[.int .i64 20, .int .i64 20]), (10, .slice (some ⟨gr2_7, 0, none⟩) 2 2), (9, .agg #[.int .i64 0, .int .i64 0, .int .i64 0, .int .i64 0]), (7, .agg #[.int .i64 0, .int .i64 0]), (6, .agg #[.int .i64 (-1), .int .i64 1, .int .i64 0, .int .i64 0]), (4, .agg #[.int .i64 (-1), .int .i64 1]), (3, .agg #[.int .i64 20, .int .i64 (-2), .int .i64 4, .int .i64 2]), (22, .agg #[.int .i64 0, .int .i64 0]), (19, .agg #[.int .i64 0, .int .i64 0]), (15, .agg #[.int .i64 0, .int .i64 0]), (12, .agg #[.int .i64 0, .int .i64 0]), (8, .agg #[.int .i64 0, .int .i64 0]), (5, .agg #[.int .i64 0, .int .i64 0]), (1, .pointer (some ⟨g2, 0, none⟩)), (0, .pointer (some ⟨g1, 0, none⟩))] ∧ Mem w noEx wc [(gr2_7, .cells [.int .i64 (-1), .int .i64 1, .int .i64 0, .int .i64 0, .int .i64 0, .int .i64 0, .int .i64 0, .int .i64 0]), (g2, .cells [.int .i64 0, .int .i64 0]), (g1, .cells [.int .i64 0, .int .i64 0, .int .i64 0, .int .i64 0, .slice none 0 0])]) (Zpb 25 594943) 12 ?_ ?_
 ·clear T M
  rintro ac wc ⟨gr2_7, T, M⟩
  refine gw 10 595967 ?_; intro K hK
  refine Zoc (first := []) (cap := []) T rfl rfl rfl rfl evf (.cons (T.e 0 rfl) (.cons (T.e 10 rfl) .nil)) Tryz.func98 rfl rfl ?_
  refine Calls.mono (sound5_any 20 20 0 0 _) ?_
  clear T; rintro e wc ⟨rfl, hb⟩ ac T
  replace M := M.call hb; clear hb
  refine Zso hK _ _ (MA.mk (fun _ => M.mask [false, true, true] rfl) (M.mask [false, true, false] rfl)) ?_; clear hK K
  exact H1 _ _ ⟨gr2_7, T.pick [2, 0, 1, 3, 4, 5, 6, 7, 8, 9, 10, 11, 12, 13, 14, 15] rfl, M⟩
 intro H0
 refine gq T 2 4 rfl (fun B w' hD hl hS => (Zrr (Mem.nth (show Mem w noEx w' _ from ((MA.lft hS) (hD.wait (i := 2) (m := 24) (by kernel_rfl) hl))) 0 rfl) rfl (T.e 0 rfl) rfl)) ?_; clear T ac; intro ac T
 refine gq T 5 36 rfl (fun B w' hD hl hS => (Zrr (Mem.nth (show Mem w noEx w' _ from ((MA.lft hS) (hD.wait (i := 5) (m := 24) (by kernel_rfl) hl))) 0 rfl) rfl (T.e 1 rfl) rfl)) ?_; clear T ac; intro ac T
 refine gq T 9 548 rfl (fun B w' hD hl hS => (Zrr (Mem.nth (show Mem w noEx w' _ from ((MA.lft hS) (hD.wait (i := 9) (m := 24) (by kernel_rfl) hl))) 0 rfl) rfl (T.e 2 rfl) rfl)) ?_; clear T ac; intro ac T
 refine gq T 12 4644 rfl (fun B w' hD hl hS => (Zrr (Mem.nth (show Mem w noEx w' _ from ((MA.lft hS) (hD.wait (i := 12) (m := 24) (by kernel_rfl) hl))) 0 rfl) rfl (T.e 3 rfl) rfl)) ?_; clear T ac; intro ac T
 refine gq T 16 70180 rfl (fun B w' hD hl hS => (Zrr (Mem.nth (show Mem w noEx w' _ from ((MA.lft hS) (hD.wait (i := 16) (m := 24) (by kernel_rfl) hl))) 0 rfl) rfl (T.e 4 rfl) rfl)) ?_; clear T ac; intro ac T
 refine gq T 19 594468 rfl (fun B w' hD hl hS => (Zrr (Mem.nth (show Mem w noEx w' _ from ((MA.lft hS) (hD.wait (i := 19) (m := 24) (by kernel_rfl) hl))) 0 rfl) rfl (T.e 5 rfl) rfl)) ?_; clear T ac; intro ac T
 refine gw 0 594469 ?_; intro K hK
 refine Zoc (first := []) (cap := []) T rfl rfl rfl rfl evf .nil Tryz.func101 rfl rfl ?_
 refine Calls.mono (law5_any _) ?_
 clear T; rintro e wc ⟨rfl, hb⟩ ac T
 replace M := M.call hb; clear hb
 refine Zso hK _ _ (MA.mk (fun _ => M.mask [true, true] rfl) (M.mask [true, false] rfl)) ?_; clear hK K
 refine gw 1 594471 ?_; intro K hK
 refine Zoc (first := []) (cap := []) T rfl rfl rfl rfl evf (.cons evc (.cons evc .nil)) Tryz.func50 rfl rfl ?_
 refine Calls.mono (to5_any (-1) 1 _) ?_
 clear T; rintro e wc ⟨rfl, hb⟩ ac T
 replace M := M.call hb; clear hb
 refine Zso hK _ _ (MA.mk (fun _ => M.mask [true, true] rfl) (M.mask [true, false] rfl)) ?_; clear hK K
 refine gw 3 594479 ?_; intro K hK
 refine Zoc (first := []) (cap := []) T rfl rfl rfl rfl evf (.cons (T.e 0 rfl) (.cons (T.e 7 rfl) .nil)) Tryz.func98 rfl rfl ?_
 refine Calls.mono (sound5_any (-1) 1 0 0 _) ?_
 clear T; rintro e wc ⟨rfl, hb⟩ ac T
 replace M := M.call hb; clear hb
 refine Zso hK _ _ (MA.mk (fun _ => M.mask [true, true] rfl) (M.mask [true, false] rfl)) ?_; clear hK K
 refine gw 4 594495 ?_; intro K hK
 refine Zoc (first := []) (cap := []) T rfl rfl rfl rfl evf (.cons evc (.cons evc .nil)) Tryz.func50 rfl rfl ?_
 refine Calls.mono (to5_any 0 0 _) ?_
 clear T; rintro e wc ⟨rfl, hb⟩ ac T
 replace M := M.call hb; clear hb
 refine Zso hK _ _ (MA.mk (fun _ => M.mask [true, true] rfl) (M.mask [true, false] rfl)) ?_; clear hK K
 refine gw 6 594559 ?_; intro K hK
 refine Zoc (first := []) (cap := []) T rfl rfl rfl rfl evf (.cons (T.e 0 rfl) (.cons (T.e 8 rfl) .nil)) Tryz.func98 rfl rfl ?_
 refine Calls.mono (sound5_any 0 0 0 0 _) ?_
 clear T; rintro e wc ⟨rfl, hb⟩ ac T
 replace M := M.call hb; clear hb
 refine Zso hK _ _ (MA.mk (fun _ => M.mask [true, true] rfl) (M.mask [true, false] rfl)) ?_; clear hK K
 refine g_m2 (i := 7) (j := 8) (by kernel_rfl) ?_ ?_
 ·refine gi 594687 ?_; intro K hK
  refine ow_bs (e := 32) [.int .i64 (-1), .int .i64 1, .int .i64 0, .int .i64 0, .int .i64 0, .int .i64 0, .int .i64 0, .int .i64 0] M T rfl rfl rfl rfl (.cons (T.e 2 rfl) (.cons (T.e 0 rfl) .nil)) (fun _ => by kernel_rfl) ?_; clear M T; intro gr2_7 wc ac M T
  refine Zso hK _ _ (MA.mk (fun _ => M.mask [false, true, true] rfl) (M.mask [false, true, false] rfl)) ?_; clear hK K
  refine gw 8 594943 ?_; intro K hK
  refine Zoc (first := []) (cap := []) T rfl rfl rfl rfl evf (.cons evc (.cons evc .nil)) Tryz.func50 rfl rfl ?_
  refine Calls.mono (to5_any 20 20 _) ?_
  clear T; rintro e wc ⟨rfl, hb⟩ ac T
  replace M := M.call hb; clear hb
  refine Zso hK _ _ (MA.mk (fun _ => M.mask [false, true, true] rfl) (M.mask [false, true, false] rfl)) ?_; clear hK K
  exact H0 _ _ ⟨gr2_7, T, M⟩
 refine gi 594815 ?_; intro K hK
 refine Zoc (first := []) (cap := []) T rfl rfl rfl rfl evf (.cons evc (.cons evc .nil)) Tryz.func50 rfl rfl ?_
 refine Calls.mono (to5_any 20 20 _) ?_
 clear T; rintro e wc ⟨rfl, hb⟩ ac T
 replace M := M.call hb; clear hb
 refine Zso hK _ _ (MA.mk (fun _ => M.mask [true, true] rfl) (M.mask [true, false] rfl)) ?_; clear hK K
 refine g_m2 (i := 7) (j := 10) (by kernel_rfl) ?_ ?_
 ·refine gi 594943 ?_; intro K hK
  refine ow_bs (e := 32) [.int .i64 (-1), .int .i64 1, .int .i64 0, .int .i64 0, .int .i64 0, .int .i64 0, .int .i64 0, .int .i64 0] M T rfl rfl rfl rfl (.cons (T.e 3 rfl) (.cons (T.e 1 rfl) .nil)) (fun _ => by kernel_rfl) ?_; clear M T; intro gr2_7 wc ac M T
  refine Zso hK _ _ (MA.mk (fun _ => M.mask [false, true, true] rfl) (M.mask [false, true, false] rfl)) ?_; clear hK K
  exact H0 _ _ ⟨gr2_7, T.pick [1, 0, 2, 3, 4, 5, 6, 7, 8, 9, 10, 11, 12, 13, 14] rfl, M⟩
 refine gi 595839 ?_; intro K hK
 refine Zoc (first := []) (cap := []) T rfl rfl rfl rfl evf (.cons (T.e 0 rfl) (.cons (T.e 9 rfl) .nil)) Tryz.func98 rfl rfl ?_
 refine Calls.mono (sound5_any 20 20 0 0 _) ?_
 clear T; rintro e wc ⟨rfl, hb⟩ ac T
 replace M := M.call hb; clear hb
 refine Zso hK _ _ (MA.mk (fun _ => M.mask [true, true] rfl) (M.mask [true, false] rfl)) ?_; clear hK K
 refine g_m2 (i := 7) (j := 11) (by kernel_rfl) ?_ ?_
 ·refine gi 595967 ?_; intro K hK
  refine ow_bs (e := 32) [.int .i64 (-1), .int .i64 1, .int .i64 0, .int .i64 0, .int .i64 0, .int .i64 0, .int .i64 0, .int .i64 0] M T rfl rfl rfl rfl (.cons (T.e 4 rfl) (.cons (T.e 2 rfl) .nil)) (fun _ => by kernel_rfl) ?_; clear M T; intro gr2_7 wc ac M T
  refine Zso hK _ _ (MA.mk (fun _ => M.mask [false, true, true] rfl) (M.mask [false, true, false] rfl)) ?_; clear hK K
  exact H1 _ _ ⟨gr2_7, T, M⟩
 refine gi 597887 ?_; intro K hK
 refine Zoc (first := []) (cap := []) T rfl rfl rfl rfl evf (.cons evc (.cons evc .nil)) Tryz.func50 rfl rfl ?_
 refine Calls.mono (to5_any 13 15 _) ?_
 clear T; rintro e wc ⟨rfl, hb⟩ ac T
 replace M := M.call hb; clear hb
 refine Zso hK _ _ (MA.mk (fun _ => M.mask [true, true] rfl) (M.mask [true, false] rfl)) ?_; clear hK K
 refine g_m2 (i := 7) (j := 13) (by kernel_rfl) ?_ ?_
 ·refine gi 598015 ?_; intro K hK
  refine ow_bs (e := 32) [.int .i64 (-1), .int .i64 1, .int .i64 0, .int .i64 0, .int .i64 0, .int .i64 0, .int .i64 0, .int .i64 0] M T rfl rfl rfl rfl (.cons (T.e 5 rfl) (.cons (T.e 3 rfl) .nil)) (fun _ => by kernel_rfl) ?_; clear M T; intro gr2_7 wc ac M T
  refine Zso hK _ _ (MA.mk (fun _ => M.mask [false, true, true] rfl) (M.mask [false, true, false] rfl)) ?_; clear hK K
  exact H2 _ _ ⟨gr2_7, T, M⟩
 refine gi 606079 ?_; intro K hK
 refine Zoc (first := []) (cap := []) T rfl rfl rfl rfl evf (.cons (T.e 0 rfl) (.cons (T.e 10 rfl) .nil)) Tryz.func98 rfl rfl ?_
 refine Calls.mono (sound5_any 13 15 0 0 _) ?_
 clear T; rintro e wc ⟨rfl, hb⟩ ac T
 replace M := M.call hb; clear hb
 refine Zso hK _ _ (MA.mk (fun _ => M.mask [true, true] rfl) (M.mask [true, false] rfl)) ?_; clear hK K
 refine g_m3 (i := 7) (j := 14) (k := 15) (by kernel_rfl) ?_ ?_ ?_
 ·refine gi 606207 ?_; intro K hK
  refine ow_bs (e := 32) [.int .i64 (-1), .int .i64 1, .int .i64 0, .int .i64 0, .int .i64 0, .int .i64 0, .int .i64 0, .int .i64 0] M T rfl rfl rfl rfl (.cons (T.e 6 rfl) (.cons (T.e 4 rfl) .nil)) (fun _ => by kernel_rfl) ?_; clear M T; intro gr2_7 wc ac M T
  refine Zso hK _ _ (MA.mk (fun _ => M.mask [false, true, true] rfl) (M.mask [false, true, false] rfl)) ?_; clear hK K
  exact H3 _ _ ⟨gr2_7, T, M⟩
 ·refine gi 622463 ?_; intro K hK
  refine ow_bs (e := 32) [.int .i64 20, .int .i64 20, .int .i64 0, .int .i64 0, .int .i64 13, .int .i64 15, .int .i64 0, .int .i64 0] M T rfl rfl rfl rfl (.cons (T.e 2 rfl) (.cons (T.e 0 rfl) .nil)) (fun _ => by kernel_rfl) ?_; clear M T; intro gr2_14 wc ac M T
  refine Zso hK _ _ (MA.mk (fun _ => M.mask [false, true, true] rfl) (M.mask [false, true, false] rfl)) ?_; clear hK K
  refine g_m2 (i := 7) (j := 15) (by kernel_rfl) ?_ ?_
  ·refine gi 622591 ?_; intro K hK
   refine ow_bs (e := 32) [.int .i64 (-1), .int .i64 1, .int .i64 0, .int .i64 0, .int .i64 0, .int .i64 0, .int .i64 0, .int .i64 0] M T rfl rfl rfl rfl (.cons (T.e 7 rfl) (.cons (T.e 5 rfl) .nil)) (fun _ => by kernel_rfl) ?_; clear M T; intro gr2_7 wc ac M T
   refine Zso hK _ _ (MA.mk (fun _ => M.mask [false, false, true, true] rfl) (M.mask [false, false, true, false] rfl)) ?_; clear hK K
   exact H6 _ _ ⟨gr2_7, gr2_14, T, M⟩
  refine gi 655231 ?_; intro K hK
  refine Zoc (first := []) (cap := []) T rfl rfl rfl rfl evf (.cons evc (.cons evc .nil)) Tryz.func50 rfl rfl ?_
  refine Calls.mono (to5_any 30 30 _) ?_
  clear T; rintro e wc ⟨rfl, hb⟩ ac T
  replace M := M.call hb; clear hb
  refine Zso hK _ _ (MA.mk (fun _ => M.mask [false, true, true] rfl) (M.mask [false, true, false] rfl)) ?_; clear hK K
  exact H5 _ _ ⟨gr2_14, T, M⟩
 refine gi 638847 ?_; intro K hK
 refine Zoc (first := []) (cap := []) T rfl rfl rfl rfl evf (.cons evc (.cons evc .nil)) Tryz.func50 rfl rfl ?_
 refine Calls.mono (to5_any 30 30 _) ?_
 clear T; rintro e wc ⟨rfl, hb⟩ ac T
 replace M := M.call hb; clear hb
 refine Zso hK _ _ (MA.mk (fun _ => M.mask [true, true] rfl) (M.mask [true, false] rfl)) ?_; clear hK K
 refine g_m3 (i := 7) (j := 14) (k := 17) (by kernel_rfl) ?_ ?_ ?_
 ·refine gi 638975 ?_; intro K hK
  refine ow_bs (e := 32) [.int .i64 (-1), .int .i64 1, .int .i64 0, .int .i64 0, .int .i64 0, .int .i64 0, .int .i64 0, .int .i64 0] M T rfl rfl rfl rfl (.cons (T.e 7 rfl) (.cons (T.e 5 rfl) .nil)) (fun _ => by kernel_rfl) ?_; clear M T; intro gr2_7 wc ac M T
  refine Zso hK _ _ (MA.mk (fun _ => M.mask [false, true, true] rfl) (M.mask [false, true, false] rfl)) ?_; clear hK K
  exact H4 _ _ ⟨gr2_7, T, M⟩
 ·refine gi 655231 ?_; intro K hK
  refine ow_bs (e := 32) [.int .i64 20, .int .i64 20, .int .i64 0, .int .i64 0, .int .i64 13, .int .i64 15, .int .i64 0, .int .i64 0] M T rfl rfl rfl rfl (.cons (T.e 3 rfl) (.cons (T.e 1 rfl) .nil)) (fun _ => by kernel_rfl) ?_; clear M T; intro gr2_14 wc ac M T
  refine Zso hK _ _ (MA.mk (fun _ => M.mask [false, true, true] rfl) (M.mask [false, true, false] rfl)) ?_; clear hK K
  exact H5 _ _ ⟨gr2_14, T.pick [1, 0, 2, 3, 4, 5, 6, 7, 8, 9, 10, 11, 12, 13, 14, 15, 16, 17, 18] rfl, M⟩
 refine gi 769919 ?_; intro K hK
 refine Zoc (first := []) (cap := []) T rfl rfl rfl rfl evf (.cons (T.e 0 rfl) (.cons (T.e 11 rfl) .nil)) Tryz.func98 rfl rfl ?_
 refine Calls.mono (sound5_any 30 30 0 0 _) ?_
 clear T; rintro e wc ⟨rfl, hb⟩ ac T
 replace M := M.call hb; clear hb
 refine Zso hK _ _ (MA.mk (fun _ => M.mask [true, true] rfl) (M.mask [true, false] rfl)) ?_; clear hK K
 refine g_m3 (i := 7) (j := 14) (k := 18) (by kernel_rfl) ?_ ?_ ?_
 ·refine gi 770047 ?_; intro K hK
  refine ow_bs (e := 32) [.int .i64 (-1), .int .i64 1, .int .i64 0, .int .i64 0, .int .i64 0, .int .i64 0, .int .i64 0, .int .i64 0] M T rfl rfl rfl rfl (.cons (T.e 8 rfl) (.cons (T.e 6 rfl) .nil)) (fun _ => by kernel_rfl) ?_; clear M T; intro gr2_7 wc ac M T
  refine Zso hK _ _ (MA.mk (fun _ => M.mask [false, true, true] rfl) (M.mask [false, true, false] rfl)) ?_; clear hK K
  exact H7 _ _ ⟨gr2_7, T, M⟩
 ·refine gi 786303 ?_; intro K hK
  refine ow_bs (e := 32) [.int .i64 20, .int .i64 20, .int .i64 0, .int .i64 0, .int .i64 13, .int .i64 15, .int .i64 0, .int .i64 0] M T rfl rfl rfl rfl (.cons (T.e 4 rfl) (.cons (T.e 2 rfl) .nil)) (fun _ => by kernel_rfl) ?_; clear M T; intro gr2_14 wc ac M T
  refine Zso hK _ _ (MA.mk (fun _ => M.mask [false, true, true] rfl) (M.mask [false, true, false] rfl)) ?_; clear hK K
  exact H8 _ _ ⟨gr2_14, T, M⟩
 refine gi 1032063 ?_; intro K hK
 refine Zoc (first := []) (cap := []) T rfl rfl rfl rfl evf (.cons evc (.cons evc .nil)) Tryz.func50 rfl rfl ?_
 refine Calls.mono (to5_any 30 30 _) ?_
 clear T; rintro e wc ⟨rfl, hb⟩ ac T
 replace M := M.call hb; clear hb
 refine Zso hK _ _ (MA.mk (fun _ => M.mask [true, true] rfl) (M.mask [true, false] rfl)) ?_; clear hK K
 refine g_m3 (i := 7) (j := 14) (k := 20) (by kernel_rfl) ?_ ?_ ?_
 ·refine gi 1032191 ?_; intro K hK
  refine ow_bs (e := 32) [.int .i64 (-1), .int .i64 1, .int .i64 0, .int .i64 0, .int .i64 0, .int .i64 0, .int .i64 0, .int .i64 0] M T rfl rfl rfl rfl (.cons (T.e 9 rfl) (.cons (T.e 7 rfl) .nil)) (fun _ => by kernel_rfl) ?_; clear M T; intro gr2_7 wc ac M T
  refine Zso hK _ _ (MA.mk (fun _ => M.mask [false, true, true] rfl) (M.mask [false, true, false] rfl)) ?_; clear hK K
  exact H10 _ _ ⟨gr2_7, T, M⟩
 ·refine gi 1048447 ?_; intro K hK
  refine ow_bs (e := 32) [.int .i64 20, .int .i64 20, .int .i64 0, .int .i64 0, .int .i64 13, .int .i64 15, .int .i64 0, .int .i64 0] M T rfl rfl rfl rfl (.cons (T.e 5 rfl) (.cons (T.e 3 rfl) .nil)) (fun _ => by kernel_rfl) ?_; clear M T; intro gr2_14 wc ac M T
  refine Zso hK _ _ (MA.mk (fun _ => M.mask [false, true, true] rfl) (M.mask [false, true, false] rfl)) ?_; clear hK K
  exact H11 _ _ ⟨gr2_14, T, M⟩
 refine gi 2080639 ?_; intro K hK
 refine Zoc (first := []) (cap := []) T rfl rfl rfl rfl evf (.cons (T.e 0 rfl) (.cons (T.e 12 rfl) .nil)) Tryz.func98 rfl rfl ?_
 refine Calls.mono (sound5_any 30 30 0 0 _) ?_
 clear T; rintro e wc ⟨rfl, hb⟩ ac T
 replace M := M.call hb; clear hb
 refine Zso hK _ _ (MA.mk (fun _ => M.mask [true, true] rfl) (M.mask [true, false] rfl)) ?_; clear hK K
 refine g_m3 (i := 7) (j := 14) (k := 21) (by kernel_rfl) ?_ ?_ ?_
 ·refine gi 2080767 ?_; intro K hK
  refine ow_bs (e := 32) [.int .i64 (-1), .int .i64 1, .int .i64 0, .int .i64 0, .int .i64 0, .int .i64 0, .int .i64 0, .int .i64 0] M T rfl rfl rfl rfl (.cons (T.e 10 rfl) (.cons (T.e 8 rfl) .nil)) (fun _ => by kernel_rfl) ?_; clear M T; intro gr2_7 wc ac M T
  refine Zso hK _ _ (MA.mk (fun _ => M.mask [false, true, true] rfl) (M.mask [false, true, false] rfl)) ?_; clear hK K
  exact H13 _ _ ⟨gr2_7, T, M⟩
 ·refine gi 2097023 ?_; intro K hK
  refine ow_bs (e := 32) [.int .i64 20, .int .i64 20, .int .i64 0, .int .i64 0, .int .i64 13, .int .i64 15, .int .i64 0, .int .i64 0] M T rfl rfl rfl rfl (.cons (T.e 6 rfl) (.cons (T.e 4 rfl) .nil)) (fun _ => by kernel_rfl) ?_; clear M T; intro gr2_14 wc ac M T
  refine Zso hK _ _ (MA.mk (fun _ => M.mask [false, true, true] rfl) (M.mask [false, true, false] rfl)) ?_; clear hK K
  exact H14 _ _ ⟨gr2_14, T, M⟩
 refine gi 4177791 ?_; intro K hK
 refine ow_bs (e := 32) [.int .i64 30, .int .i64 30, .int .i64 0, .int .i64 0, .int .i64 30, .int .i64 30, .int .i64 0, .int .i64 0] M T rfl rfl rfl rfl (.cons (T.e 2 rfl) (.cons (T.e 0 rfl) .nil)) (fun _ => by kernel_rfl) ?_; clear M T; intro gr2_21 wc ac M T
 refine Zso hK _ _ (MA.mk (fun _ => M.mask [false, true, true] rfl) (M.mask [false, true, false] rfl)) ?_; clear hK K
 refine g_m2 (i := 7) (j := 14) (by kernel_rfl) ?_ ?_
 ·refine gi 4177919 ?_; intro K hK
  refine ow_bs (e := 32) [.int .i64 (-1), .int .i64 1, .int .i64 0, .int .i64 0, .int .i64 0, .int .i64 0, .int .i64 0, .int .i64 0] M T rfl rfl rfl rfl (.cons (T.e 11 rfl) (.cons (T.e 9 rfl) .nil)) (fun _ => by kernel_rfl) ?_; clear M T; intro gr2_7 wc ac M T
  refine Zso hK _ _ (MA.mk (fun _ => M.mask [false, false, true, true] rfl) (M.mask [false, false, true, false] rfl)) ?_; clear hK K
  exact H16 _ _ ⟨gr2_7, gr2_21, T, M⟩
 refine gi 4194175 ?_; intro K hK
 refine ow_bs (e := 32) [.int .i64 20, .int .i64 20, .int .i64 0, .int .i64 0, .int .i64 13, .int .i64 15, .int .i64 0, .int .i64 0] M T rfl rfl rfl rfl (.cons (T.e 7 rfl) (.cons (T.e 5 rfl) .nil)) (fun _ => by kernel_rfl) ?_; clear M T; intro gr2_14 wc ac M T
 refine Zso hK _ _ (MA.mk (fun _ => M.mask [false, false, true, true] rfl) (M.mask [false, false, true, false] rfl)) ?_; clear hK K
 exact H17 _ _ ⟨gr2_14, gr2_21, T, M⟩
theorem trembling_any  (w : World)  :
  Calls Tryz.prog 6 #[] w fun e w' => e = .returned (.bool true) ∧ Below w.heap.size w w' := by
 refine Zpx noEx Tryz.func6 rfl 82 rfl [] rfl rfl (Mem.init w _) ?_
 intro ac wc T M
 refine Zsr ?_
 refine lq T (Zra rfl evc) ?_; clear T ac; intro ac T
 replace T := T.pick [] rfl
 refine Zln ?_
 refine Zsr ?_
 refine Zl2 ?_
 refine Zoc (first := []) (cap := []) T rfl rfl rfl rfl evf .nil Tryz.func46 rfl rfl ?_
 refine Calls.mono (full5_any _) ?_
 clear T; rintro e wc ⟨Au1, cu1, Bu1, du1, Iu1, rfl, SAu1, SBu1, N⟩ ac T
 obtain ⟨b1u1, o1u1, SAu1⟩ := SAu1
 replace SAu1 := SAu1 w noEx
 obtain ⟨b2u1, o2u1, SBu1⟩ := SBu1
 replace SBu1 := SBu1 w noEx
 replace M := (M.join N).swapI
 clear N
 replace M : Mem w noEx wc (Iu1) := M
 refine Zl2 ?_
 refine Zoc (first := []) (cap := []) T rfl rfl rfl rfl evf (.cons (T.e 0 rfl) (.cons evc (.cons evc .nil))) Tryz.func21 rfl rfl ?_
 refine Calls.mono (Beat_x _ _ _ _ _ (SAu1.rd M (List.Sublist.refl _)) (SBu1.rd M (List.Sublist.refl _))) ?_
 clear T; rintro e wc ⟨Au2, cu2, Iu2, rfl, Su2, N⟩ ac T
 obtain ⟨bu2, ou2, Su2⟩ := Su2
 replace Su2 := Su2 w noEx
 replace M := (M.join N).swapI
 clear N
 replace M : Mem w noEx wc ((Iu1 ++ Iu2)) := M
 refine Zg5 T (Zq (Zrm rfl (T.e 0 rfl))) rfl (Ze 0 rfl rfl rfl) rfl (Ze 1 rfl rfl rfl) rfl (Za 1 rfl rfl) rfl (Za 1 rfl rfl) rfl ?_; clear T ac; intro ac T
 replace T := T.pick [0, 1] rfl
 refine Zln ?_
 refine Zsr ?_
 refine Zl2 ?_
 refine Zoc (first := []) (cap := []) T rfl rfl rfl rfl evf .nil Tryz.func47 rfl rfl ?_
 refine Calls.mono (less5_any _) ?_
 clear T; rintro e wc ⟨Au3, cu3, Bu3, du3, Iu3, rfl, SAu3, SBu3, N⟩ ac T
 obtain ⟨b1u3, o1u3, SAu3⟩ := SAu3
 replace SAu3 := SAu3 w noEx
 obtain ⟨b2u3, o2u3, SBu3⟩ := SBu3
 replace SBu3 := SBu3 w noEx
 replace M := (M.join N).swapI
 clear N
 replace M : Mem w noEx wc ((Iu1 ++ Iu2 ++ Iu3)) := M
 refine Zl2 ?_
 refine Zoc (first := []) (cap := []) T rfl rfl rfl rfl evf (.cons (T.e 0 rfl) .nil) Tryz.func10 rfl rfl ?_
 refine Calls.mono (Match_x _ _ _ _ _ (SAu3.rd M (Zsq _ _)) (SBu3.rd M (Zsq _ _))) ?_
 clear T; rintro e wc ⟨Au4, cu4, Iu4, rfl, Su4, N⟩ ac T
 obtain ⟨bu4, ou4, Su4⟩ := Su4
 replace Su4 := Su4 w noEx
 replace M := (M.join N).swapI
 clear N
 replace M : Mem w noEx wc ((Iu1 ++ Iu2 ++ Iu3 ++ Iu4)) := M
 refine Zg5 T (Zq (Zrm rfl (T.e 0 rfl))) rfl (Ze 0 rfl rfl rfl) rfl (Ze 1 rfl rfl rfl) rfl (Za 1 rfl rfl) rfl (Za 1 rfl rfl) rfl ?_; clear T ac; intro ac T
 replace T := T.pick [0, 1, 7, 8] rfl
 refine Zln ?_
 refine Zsr ?_
 refine Zl2 ?_
 refine Zoc (first := []) (cap := []) T rfl rfl rfl rfl evf .nil Tryz.func46 rfl rfl ?_
 refine Calls.mono (full5_any _) ?_
 clear T; rintro e wc ⟨Au5, cu5, Bu5, du5, Iu5, rfl, SAu5, SBu5, N⟩ ac T
 obtain ⟨b1u5, o1u5, SAu5⟩ := SAu5
 replace SAu5 := SAu5 w noEx
 obtain ⟨b2u5, o2u5, SBu5⟩ := SBu5
 replace SBu5 := SBu5 w noEx
 replace M := (M.join N).swapI
 clear N
 replace M : Mem w noEx wc ((Iu1 ++ Iu2 ++ Iu3 ++ Iu4 ++ Iu5)) := M
 refine Zl2 ?_
 refine Zoc (first := []) (cap := []) T rfl rfl rfl rfl evf (.cons (T.e 0 rfl) (.cons evc (.cons evc .nil))) Tryz.func48 rfl rfl ?_
 refine Calls.mono (Strokes_x _ _ _ _ _ (SAu5.rd M (Zsq _ _)) (SBu5.rd M (Zsq _ _))) ?_
 clear T; rintro e wc ⟨rfl, hb⟩ ac T
 replace M := M.call hb; clear hb
 refine Zg5 T (Zq (Zrm rfl (T.e 0 rfl))) rfl (Ze 0 rfl rfl rfl) rfl (Ze 1 rfl rfl rfl) rfl (Za 1 rfl rfl) rfl (Za 1 rfl rfl) rfl ?_; clear T ac; intro ac T
 replace T := T.pick [0, 1, 7, 8, 9, 10] rfl
 refine Zln ?_
 refine Zsr ?_
 refine Zl2 ?_
 refine Zoc (first := []) (cap := []) T rfl rfl rfl rfl evf .nil Tryz.func49 rfl rfl ?_
 refine Calls.mono (scale5_any _) ?_
 clear T; rintro e wc ⟨Au7, cu7, LLu7, Iu7, hRu7, rfl, Su7, Eu7, N⟩ ac T
 obtain ⟨bu7, ou7, Su7⟩ := Su7
 replace Su7 := Su7 w noEx
 replace M := (M.join N).swapI
 clear N
 replace M : Mem w noEx wc ((Iu1 ++ Iu2 ++ Iu3 ++ Iu4 ++ Iu5 ++ Iu7)) := M
 refine Zl2 ?_
 refine ow_bs (e := 3) [.int .i64 0, .int .i64 1] M T rfl rfl rfl rfl (.cons evc (.cons evc .nil)) (fun _ => by kernel_rfl) ?_; clear M T; intro g1 wc ac M T
 refine Zl2 ?_
 refine Zoc (first := []) (cap := []) T rfl rfl rfl rfl evf (.cons (T.e 1 rfl) (.cons (T.e 0 rfl) .nil)) Tryz.func37 rfl rfl ?_
 refine Calls.mono (Tremolo_x _ _ LLu7 _ _ _ hRu7 (Su7.rd M (.cons _ (Zsq _ _))) (fun x hx => by obtain ⟨b9, o9, h9⟩ := Eu7 x hx; exact (h9 w noEx).rd M (.cons _ (Zsq _ _))) (M.rdOwn (Zne (i := 0) rfl) rfl rfl)) ?_
 clear T; rintro e wc ⟨Au8, cu8, Iu8, rfl, Su8, N⟩ ac T
 obtain ⟨bu8, ou8, Su8⟩ := Su8
 replace Su8 := Su8 w noEx
 replace M := (M.join N).swapI
 clear N
 replace M : Mem w noEx wc ((g1, .cells [.int .i64 0, .int .i64 1]) :: (Iu1 ++ Iu2 ++ Iu3 ++ Iu4 ++ Iu5 ++ Iu7 ++ Iu8)) := M
 refine Zg5 T (Zq (Zrm rfl (T.e 0 rfl))) rfl (Ze 0 rfl rfl rfl) rfl (Ze 1 rfl rfl rfl) rfl (Za 1 rfl rfl) rfl (Za 1 rfl rfl) rfl ?_; clear T ac; intro ac T
 refine wpList_nil ?_
 replace T := T.pick [0, 1, 8, 9, 10, 11, 12, 13] rfl
 replace M := M.mask [false] rfl
 replace M : Mem w noEx wc ((Iu1 ++ Iu2 ++ Iu3 ++ Iu4 ++ Iu5 ++ Iu7 ++ Iu8)) := M
 refine nm_then ?_
 refine Zsr ?_
 refine Zl2 ?_
 refine Zoc (first := []) (cap := []) T rfl rfl rfl rfl evf .nil Tryz.func47 rfl rfl ?_
 refine Calls.mono (less5_any _) ?_
 clear T; rintro e wc ⟨Au9, cu9, Bu9, du9, Iu9, rfl, SAu9, SBu9, N⟩ ac T
 obtain ⟨b1u9, o1u9, SAu9⟩ := SAu9
 replace SAu9 := SAu9 w noEx
 obtain ⟨b2u9, o2u9, SBu9⟩ := SBu9
 replace SBu9 := SBu9 w noEx
 replace M := (M.join N).swapI
 clear N
 replace M : Mem w noEx wc ((Iu1 ++ Iu2 ++ Iu3 ++ Iu4 ++ Iu5 ++ Iu7 ++ Iu8 ++ Iu9)) := M
 refine Zl2 ?_
 refine Zoc (first := []) (cap := []) T rfl rfl rfl rfl evf (.cons (T.e 0 rfl) .nil) Tryz.func12 rfl rfl ?_
 refine Calls.mono (Short_x _ _ _ _ _ (SAu9.rd M (Zsq _ _)) (SBu9.rd M (Zsq _ _))) ?_
 clear T; rintro e wc ⟨Au10, cu10, Iu10, rfl, Su10, N⟩ ac T
 obtain ⟨bu10, ou10, Su10⟩ := Su10
 replace Su10 := Su10 w noEx
 replace M := (M.join N).swapI
 clear N
 replace M : Mem w noEx wc ((Iu1 ++ Iu2 ++ Iu3 ++ Iu4 ++ Iu5 ++ Iu7 ++ Iu8 ++ Iu9 ++ Iu10)) := M
 refine Zg5 T (Zq (Zrm rfl (T.e 0 rfl))) rfl (Ze 0 rfl rfl rfl) rfl (Ze 1 rfl rfl rfl) rfl (Za 1 rfl rfl) rfl (Za 1 rfl rfl) rfl ?_; clear T ac; intro ac T
 replace T := T.pick [0, 1, 7, 8, 9, 10, 11, 12, 13, 14] rfl
 refine Zln ?_
 refine Zsr ?_
 refine Zg8 (v2 := (.bool true)) (v5 := (.bool true)) T (Zq (Zrm rfl (T.e 8 rfl))) rfl (fun _ T => Zq (Zrq (rn_eql rfl (T.e 0 rfl) evc) (by simp))) rfl (Zm 0 rfl rfl) rfl (fun _ T => Zw (Zwy rfl rfl (T.e 0 rfl) rfl) (Zrm rfl (T.e 9 rfl))) rfl (fun _ T => Zw (Zwy rfl rfl (T.e 1 rfl) rfl) (Zrq (rn_eql rfl (T.e 0 rfl) evc) (by simp))) rfl (fun _ T => Zq (Zr1 rfl (T.e 2 rfl) rfl (T.e 0 rfl))) rfl (Zm 0 rfl rfl) rfl (fun _ T => Zw (Zwy rfl rfl (T.e 0 rfl) rfl) (Zrm rfl (T.e 11 rfl))) rfl ?_; clear T ac; intro ac T
 refine Zg8 (v1 := (.bool true)) (v5 := (.bool true)) T (Zw (Zwy rfl rfl (T.e 1 rfl) rfl) (Zrq (rn_eql rfl (T.e 0 rfl) evc) (by simp))) rfl (fun _ T => Zq (Zr1 rfl (T.e 2 rfl) rfl (T.e 0 rfl))) rfl (Zm 0 rfl rfl) rfl (fun _ T => Zw (Zwy rfl rfl (T.e 0 rfl) rfl) (Zrm rfl (T.e 13 rfl))) rfl (fun _ T => Zw (Zwy rfl rfl (T.e 1 rfl) rfl) (Zrq (rn_eql rfl (T.e 0 rfl) evc) (by simp))) rfl (fun _ T => Zq (Zr1 rfl (T.e 2 rfl) rfl (T.e 0 rfl))) rfl (Zm 0 rfl rfl) rfl (fun _ T => Zw (Zwy rfl rfl (T.e 0 rfl) rfl) (Zrm rfl (T.e 15 rfl))) rfl ?_; clear T ac; intro ac T
 refine Zg8 (v1 := (.bool true)) (v5 := (.bool true)) T (Zw (Zwy rfl rfl (T.e 1 rfl) rfl) (Zrq (rn_eql rfl (T.e 0 rfl) evc) (by simp))) rfl (fun _ T => Zq (Zr1 rfl (T.e 2 rfl) rfl (T.e 0 rfl))) rfl (Zm 0 rfl rfl) rfl (fun _ T => Zw (Zwy rfl rfl (T.e 0 rfl) rfl) (Zrm rfl (T.e 24 rfl))) rfl (fun _ T => Zw (Zwy rfl rfl (T.e 1 rfl) rfl) (Zrq (rn_eql rfl (T.e 0 rfl) evc) (by simp))) rfl (fun _ T => Zq (Zr1 rfl (T.e 2 rfl) rfl (T.e 0 rfl))) rfl (Zm 0 rfl rfl) rfl (fun _ T => Zw (Zwy rfl rfl (T.e 0 rfl) rfl) (Zrm rfl (T.e 32 rfl))) rfl ?_; clear T ac; intro ac T
 refine l_w (Zwy rfl rfl (T.e 1 rfl) rfl) ?_; intro K hK
 refine Zoc (first := []) (cap := []) T rfl rfl rfl rfl evf (.cons evc (.cons evc .nil)) Tryz.func50 rfl rfl ?_
 refine Calls.mono (to5_any 9 10 _) ?_
 clear T; rintro e wc ⟨rfl, hb⟩ ac T
 replace M := M.call hb; clear hb
 refine Zso hK _ _ ?_; clear hK K
 refine l_w (Zwy rfl rfl (T.e 2 rfl) rfl) ?_; intro K hK
 refine Zoc (first := []) (cap := []) T rfl rfl rfl rfl evf (.cons evc (.cons evc .nil)) Tryz.func50 rfl rfl ?_
 refine Calls.mono (to5_any 8 10 _) ?_
 clear T; rintro e wc ⟨rfl, hb⟩ ac T
 replace M := M.call hb; clear hb
 refine Zso hK _ _ ?_; clear hK K
 refine l_w (Zwy rfl rfl (T.e 3 rfl) rfl) ?_; intro K hK
 refine Zoc (first := []) (cap := []) T rfl rfl rfl rfl evf (.cons evc (.cons evc .nil)) Tryz.func50 rfl rfl ?_
 refine Calls.mono (to5_any 7 10 _) ?_
 clear T; rintro e wc ⟨rfl, hb⟩ ac T
 replace M := M.call hb; clear hb
 refine Zso hK _ _ ?_; clear hK K
 refine l_w (Zwy rfl rfl (T.e 4 rfl) rfl) ?_; intro K hK
 refine ow_bs (e := 26) [.int .i64 9, .int .i64 10, .int .i64 8, .int .i64 10, .int .i64 7, .int .i64 10] M T rfl rfl rfl rfl (.cons (T.e 2 rfl) (.cons (T.e 1 rfl) (.cons (T.e 0 rfl) .nil))) (fun _ => by kernel_rfl) ?_; clear M T; intro g2 wc ac M T
 refine Zso hK _ _ ?_; clear hK K
 refine l_w (Zwy rfl rfl (T.e 5 rfl) rfl) ?_; intro K hK
 refine Zoc (first := []) (cap := []) T rfl rfl rfl rfl evf (.cons (T.e 4 rfl) (.cons (T.e 0 rfl) .nil)) Tryz.func29 rfl rfl ?_
 refine Calls.mono (sameRanges_same _ _ _ _ _ _ [(9, 10), (8, 10), (7, 10)] _ (Su2.rd M (.cons _ (subL (subL (subL (subL (subL (subL (subL (Zsq _ _)))))))))) (M.rdOwn (Zne (i := 0) rfl) rfl rfl) (by omega) (by omega)) ?_
 clear T; rintro e wc ⟨rfl, hb⟩ ac T
 replace M := M.call hb; clear hb
 refine Zso hK _ _ ?_; clear hK K
 refine Zg3 T (Zq (Zr1 rfl (T.e 6 rfl) rfl (T.e 0 rfl))) rfl (Zm 0 rfl rfl) rfl (fun _ T => Zw (Zwy rfl rfl (T.e 0 rfl) rfl) (Zrm rfl (T.e 38 rfl))) rfl ?_; clear T ac; intro ac T
 refine l_w (Zwy rfl rfl (T.e 1 rfl) rfl) ?_; intro K hK
 refine ow_bs (e := 3) [.int .i64 0, .int .i64 (-1)] M T rfl rfl rfl rfl (.cons evc (.cons evc .nil)) (fun _ => by kernel_rfl) ?_; clear M T; intro g3 wc ac M T
 refine Zso hK _ _ ?_; clear hK K
 refine l_w (Zwy rfl rfl (T.e 2 rfl) rfl) ?_; intro K hK
 refine Zoc (first := []) (cap := []) T rfl rfl rfl rfl evf (.cons (T.e 1 rfl) (.cons (T.e 0 rfl) .nil)) Tryz.func16 rfl rfl ?_
 refine Calls.mono (sameInts_eq _ _ _ _ _ _ [0, -1] _ (Su4.rd M (.cons _ (.cons _ (subL (subL (subL (subL (subL (Zsq _ _))))))))) (M.rdOwn (Zne (i := 0) rfl) rfl rfl) (by omega) (by omega)) ?_
 clear T; rintro e wc ⟨rfl, hb⟩ ac T
 replace M := M.call hb; clear hb
 refine Zso hK _ _ ?_; clear hK K
 refine Zg3 T (Zq (Zr1 rfl (T.e 3 rfl) rfl (T.e 0 rfl))) rfl (Zm 0 rfl rfl) rfl (fun _ T => Zw (Zwy rfl rfl (T.e 0 rfl) rfl) (Zrm rfl (T.e 39 rfl))) rfl ?_; clear T ac; intro ac T
 refine l_w (Zwy rfl rfl (T.e 1 rfl) rfl) ?_; intro K hK
 refine ow_bs (e := 3) [.int .i64 1, .int .i64 3] M T rfl rfl rfl rfl (.cons evc (.cons evc .nil)) (fun _ => by kernel_rfl) ?_; clear M T; intro g4 wc ac M T
 refine Zso hK _ _ ?_; clear hK K
 refine l_w (Zwy rfl rfl (T.e 2 rfl) rfl) ?_; intro K hK
 refine Zoc (first := []) (cap := []) T rfl rfl rfl rfl evf (.cons (T.e 1 rfl) (.cons (T.e 0 rfl) .nil)) Tryz.func16 rfl rfl ?_
 refine Calls.mono (sameInts_eq _ _ _ _ _ _ [1, 3] _ (Su8.rd M (.cons _ (.cons _ (.cons _ (subL (subL (Zsq _ _))))))) (M.rdOwn (Zne (i := 0) rfl) rfl rfl) (by omega) (by omega)) ?_
 clear T; rintro e wc ⟨rfl, hb⟩ ac T
 replace M := M.call hb; clear hb
 refine Zso hK _ _ ?_; clear hK K
 refine Zg3 T (Zq (Zr1 rfl (T.e 3 rfl) rfl (T.e 0 rfl))) rfl (Zm 0 rfl rfl) rfl (fun _ T => Zw (Zwy rfl rfl (T.e 0 rfl) rfl) (Zrm rfl (T.e 42 rfl))) rfl ?_; clear T ac; intro ac T
 refine l_w (Zwy rfl rfl (T.e 1 rfl) rfl) ?_; intro K hK
 refine ow_bs (e := 3) [.int .i64 1] M T rfl rfl rfl rfl (.cons evc .nil) (fun _ => by kernel_rfl) ?_; clear M T; intro g5 wc ac M T
 refine Zso hK _ _ ?_; clear hK K
 refine l_w (Zwy rfl rfl (T.e 2 rfl) rfl) ?_; intro K hK
 refine Zoc (first := []) (cap := []) T rfl rfl rfl rfl evf (.cons (T.e 1 rfl) (.cons (T.e 0 rfl) .nil)) Tryz.func16 rfl rfl ?_
 refine Calls.mono (sameInts_eq _ _ _ _ _ _ [1] _ (Su10.rd M (.cons _ (.cons _ (.cons _ (.cons _ (Zsq _ _)))))) (M.rdOwn (Zne (i := 0) rfl) rfl rfl) (by omega) (by omega)) ?_
 clear T; rintro e wc ⟨rfl, hb⟩ ac T
 replace M := M.call hb; clear hb
 refine Zso hK _ _ ?_; clear hK K
 refine Zg2 T (Zq (Zr1 rfl (T.e 3 rfl) rfl (T.e 0 rfl))) rfl (Za 0 rfl rfl) rfl ?_; clear T ac; intro ac T
 refine wpList_nil ?_
 replace T := T.pick [0] rfl
 replace M := M.mask [false, false, false, false] rfl
 replace M : Mem w noEx wc ((Iu1 ++ Iu2 ++ Iu3 ++ Iu4 ++ Iu5 ++ Iu7 ++ Iu8 ++ Iu9 ++ Iu10)) := M
 refine Znr ?_
 refine rt_1 T rfl (T.e 0 rfl) ?_
 exact ⟨rfl, M.below⟩
theorem rn_quo {P : Program} {op : Oper} {a : Act} {w : World} {ty ty' : TypeId} {x y : Operand} {p q : Int} (ho : op.op = .binOp .quo ty x y ty') (hx : a.eval x = .int .i64 p) (hy : a.eval y = .int .i64 q) (hq : q ≠ 0) (hb : -9223372036854775808 ≤ p.tdiv q ∧ p.tdiv q ≤ 9223372036854775807) : Runs P op a (.int .i64 (p.tdiv q)) w := by
 refine rn_bin ho hx hy ?_
 rw [eqGuard_quo, binOp_quo]
 unfold Op.intDiv
 rw [if_neg (by simpa using hq)]
 show Result.ok (Value.int .i64 (IntKind.i64.wrap (p.tdiv q))) w = _
 rw [IntWalk.i64_in _ hb]
def mostD (notes : Int) : Int := min 5 ((5 : Int).tdiv (max 1 notes))
theorem tdiv_bd {q : Int} (h : 1 ≤ q) : 0 ≤ (5 : Int).tdiv q ∧ (5 : Int).tdiv q ≤ 5 ∧ (5 : Int).tdiv q * q ≤ 5 := by
 rw [Int.tdiv_eq_ediv_of_nonneg (by omega)]
 refine ⟨Int.ediv_nonneg (by omega) (by omega), ?_, Int.ediv_mul_le 5 (by omega)⟩
 have h1 := Int.ediv_mul_le 5 (show q ≠ 0 by omega)
 have h2 : 0 ≤ 5 / q := Int.ediv_nonneg (by omega) (by omega)
 have h3 : 5 / q * 1 ≤ 5 / q * q := Int.mul_le_mul_of_nonneg_left h h2
 omega
theorem mostD_bd (notes : Int) : 0 ≤ mostD notes ∧ mostD notes ≤ 5 ∧ ∀ k : Int, 0 ≤ k ∧ k ≤ notes → mostD notes * k ≤ 5 := by
 have h := tdiv_bd (q := max 1 notes) (by omega)
 unfold mostD
 refine ⟨by omega, by omega, fun k hk => ?_⟩
 have e : min 5 ((5 : Int).tdiv (max 1 notes)) = (5 : Int).tdiv (max 1 notes) := by omega
 rw [e]
 exact Int.le_trans (Int.mul_le_mul_of_nonneg_left (by omega) h.1) h.2.2
theorem step_bd {notes st k : Int} (hs : -mostD notes ≤ st ∧ st ≤ mostD notes) (hk : 0 ≤ k ∧ k ≤ notes) : -5 ≤ st * k ∧ st * k ≤ 5 := by
 have h := (mostD_bd notes).2.2 k hk
 have h1 : st * k ≤ mostD notes * k := Int.mul_le_mul_of_nonneg_right hs.2 hk.1
 have h2 : -mostD notes * k ≤ st * k := Int.mul_le_mul_of_nonneg_right hs.1 hk.1
 rw [Int.neg_mul] at h2
 omega
structure Lw.made (l : Lw) (notes : Int) : Prop where
 first : 5 ≤ l.first ∧ l.first ≤ 25
 step : -mostD notes ≤ l.step ∧ l.step ≤ mostD notes
 span : 1 ≤ l.span ∧ l.span ≤ 8
 press : 0 ≤ l.press ∧ l.press ≤ 3
def LawPost (bp : Nat) (notes : Int) (w : World) (e : Ending) (w' : World) : Prop := ∃ (l : Lw) (s' : Int), l.made notes ∧ u64ok s' ∧ e = .returned (.agg #[.int .i64 l.first, .int .i64 l.step, .int .i64 l.span, .int .i64 l.press]) ∧ w.grownBy w' (some bp) ∧ Bk w' bp #[.int .u64 s']
def SoundPost (bp : Nat) (w : World) (e : Ending) (w' : World) : Prop := ∃ (x : Snd) (s' : Int), x.good ∧ u64ok s' ∧ e = .returned (.agg #[.int .i64 x.t0, .int .i64 x.t1, .int .i64 x.s0, .int .i64 x.s1]) ∧ w.grownBy w' (some bp) ∧ Bk w' bp #[.int .u64 s']
theorem lawOf_any (s : Int) (bp : Nat) (notes : Int) (w : World) (hn : 0 ≤ notes ∧ notes ≤ 1000) (hp : Bk w bp #[.int .u64 s]) (hs : u64ok s) :
   Calls Tryz.prog 51 #[.pointer (some ⟨bp, 0, none⟩), .int .i64 notes] w (LawPost bp notes w) := by
 have hq := tdiv_bd (q := max 1 notes) (by omega)
 refine Zpx (fun b => b = bp) Tryz.func51 rfl 27 rfl [.pointer (some ⟨bp, 0, none⟩), .int .i64 notes] rfl rfl (Mem.initEx (p := .cells [.int .u64 s]) hp) ?_
 intro ac wc T M
 refine Zsr ?_
 refine Zl2 ?_
 refine Zoa M T rfl rfl rfl rfl ?_; clear M T; intro g1 wc ac M T
 refine Zln ?_
 refine Zsr ?_
 refine lq T (Zrm rfl (T.e 1 rfl)) ?_; clear T ac; intro ac T
 refine Zl2 ?_
 refine Zoc (first := []) (cap := []) T rfl rfl rfl rfl evf (.cons (T.e 0 rfl) (.cons evc (.cons evc .nil))) Tryz.func52 rfl rfl ?_
 refine Calls.mono (within_pot _ bp 5 25 _ (by omega) (by omega) (by omega) (M.nth 1 rfl) hs) ?_
 clear T; rintro e wc ⟨xu1, su1, hxu1, hsu1, rfl, hgr, hbk⟩ ac T
 replace M := M.callC (cs' := [.int .u64 su1]) (.tail .head) hgr hbk
 clear hgr hbk
 refine lq T (Zrm rfl (T.e 3 rfl)) ?_; clear T ac; intro ac T
 refine Zl2 ?_
 refine Zoc (first := []) (cap := []) T rfl rfl rfl rfl evf (.cons (T.e 0 rfl) (.cons evc (.cons evc .nil))) Tryz.func52 rfl rfl ?_
 refine Calls.mono (within_pot _ bp 1 8 _ (by omega) (by omega) (by omega) (M.nth 1 rfl) hsu1) ?_
 clear T; rintro e wc ⟨xu2, su2, hxu2, hsu2, rfl, hgr, hbk⟩ ac T
 replace M := M.callC (cs' := [.int .u64 su2]) (.tail .head) hgr hbk
 clear hgr hbk
 refine lq T (Zrm rfl (T.e 5 rfl)) ?_; clear T ac; intro ac T
 refine Zl2 ?_
 refine Zoc (first := []) (cap := []) T rfl rfl rfl rfl evf (.cons (T.e 0 rfl) (.cons evc .nil)) Tryz.func20 rfl rfl ?_
 refine Calls.mono (upto_any _ bp 3 _ (by omega) (by omega) (M.nth 1 rfl) hsu2) ?_
 clear T; rintro e wc ⟨xu3, su3, hxu3, hsu3, rfl, hgr, hbk⟩ ac T
 replace M := M.callC (cs' := [.int .u64 su3]) (.tail .head) hgr hbk
 clear hgr hbk
 refine lq (v := (.agg #[.int .i64 xu1, .int .i64 0, .int .i64 xu2, .int .i64 xu3])) T (rn_build rfl (.cons (T.e 4 rfl) (.cons (T.e 2 rfl) (.cons (T.e 0 rfl) .nil))) (fun _ => by kernel_rfl)) ?_; clear T ac; intro ac T
 refine Zl2 ?_
 refine Zoa M T rfl rfl rfl rfl ?_; clear M T; intro g2 wc ac M T
 refine Zl2 ?_
 refine Zos M T rfl rfl (T.e 0 rfl) (T.e 1 rfl) rfl .head rfl (by simp) rfl (by kernel_rfl) ?_; clear M T; intro wc ac M T
 replace T := T.pick [0, 8, 9, 10] rfl
 refine Zln ?_
 refine wp_seq ?_
 refine Zsr ?_
 refine Zg5 T (Zq (Zrm rfl (T.e 3 rfl))) rfl (fun _ T => Zq (rn_max2 rfl evc (T.e 0 rfl))) rfl (fun _ T => Zq (rn_quo rfl evc (T.e 0 rfl) (by omega) (by omega))) rfl (fun _ T => Zq (rn_min2 rfl evc (T.e 0 rfl))) rfl (Za 0 rfl rfl) rfl ?_; clear T ac; intro ac T
 replace T := T.pick [0, 5, 6, 7] rfl
 refine Zln ?_
 refine Zsr ?_
 refine Zg2 T (Zq (Zrm rfl (T.e 0 rfl))) rfl (fun _ T => Zq (rn_gtr rfl (T.e 0 rfl) evc)) rfl ?_; clear T ac; intro ac T
 replace T := T.pick [0, 2, 3, 4, 5] rfl
 refine Zln ?_
 refine wp_if (T.e 0 rfl) ?_ ?_
 ·intro h1
  refine wp_region_lit ?_
  refine Zg4 T (Zq (Zrm rfl (T.e 4 rfl))) rfl (Zm 2 rfl rfl) rfl (fun _ T => Zq (rn_neg rfl (T.e 0 rfl) (by omega))) rfl (Zm 4 rfl rfl) rfl ?_; clear T ac; intro ac T
  refine Zl2 ?_
  refine Zoc (first := []) (cap := []) T rfl rfl rfl rfl evf (.cons (T.e 3 rfl) (.cons (T.e 1 rfl) (.cons (T.e 0 rfl) .nil))) Tryz.func52 rfl rfl ?_
  refine Calls.mono (within_pot _ bp (-(min 5 (Int.tdiv 5 (max 1 notes)))) (min 5 (Int.tdiv 5 (max 1 notes))) _ (by omega) (by omega) (by omega) (M.nth 2 rfl) hsu3) ?_
  clear T; rintro e wc ⟨xu4, su4, hxu4, hsu4, rfl, hgr, hbk⟩ ac T
  replace M := M.callC (cs' := [.int .u64 su4]) (.tail (.tail .head)) hgr hbk
  clear hgr hbk
  refine lq (v := (.pointer (some ⟨g2, 1, none⟩))) T (Zrf (off := 1) rfl (T.e 7 rfl) (fun _ _ _ => by kernel_rfl)) ?_; clear T ac; intro ac T
  refine Zl2 ?_
  refine Zos M T rfl rfl (T.e 0 rfl) (T.e 1 rfl) rfl .head rfl (by simp) rfl (by kernel_rfl) ?_; clear M T; intro wc ac M T
  replace T := T.pick [8, 9] rfl
  refine Zln ?_
  refine Zsr ?_
  refine lq T (Zrr (Mem.nth M 0 rfl) rfl (T.e 0 rfl) rfl) ?_; clear T ac; intro ac T
  refine Zl2 ?_
  refine Zos M T rfl rfl (T.e 2 rfl) (T.e 0 rfl) rfl (.tail .head) rfl (by simp) rfl (by kernel_rfl) ?_; clear M T; intro wc ac M T
  refine wpList_nil ?_
  replace T := T.pick [2] rfl
  replace M := M.mask [false, true, true] rfl
  refine Znr ?_
  refine rt_c M T rfl (T.e 0 rfl) (Zne (i := 0) rfl) rfl ?_
  exact ⟨⟨xu1, xu4, xu2, xu3⟩, _, ⟨by (try dsimp only); omega, by (try dsimp only); unfold mostD; omega, by (try dsimp only); omega, by (try dsimp only); omega⟩, hsu4, rfl, M.grown, M.nth 1 rfl⟩
 intro h1
 refine Zsk ?_
 refine Zsr ?_
 refine lq T (Zrr (Mem.nth M 0 rfl) rfl (T.e 2 rfl) rfl) ?_; clear T ac; intro ac T
 refine Zl2 ?_
 refine Zos M T rfl rfl (T.e 4 rfl) (T.e 0 rfl) rfl (.tail .head) rfl (by simp) rfl (by kernel_rfl) ?_; clear M T; intro wc ac M T
 refine wpList_nil ?_
 replace T := T.pick [4] rfl
 replace M := M.mask [false, true, true] rfl
 refine Znr ?_
 refine rt_c M T rfl (T.e 0 rfl) (Zne (i := 0) rfl) rfl ?_
 exact ⟨⟨xu1, 0, xu2, xu3⟩, _, ⟨by (try dsimp only); omega, by (try dsimp only); unfold mostD; omega, by (try dsimp only); omega, by (try dsimp only); omega⟩, hsu3, rfl, M.grown, M.nth 1 rfl⟩
theorem soundOf_any (s : Int) (bp : Nat) (tone wide : Int) (w : World) (ht : -1000 ≤ tone ∧ tone ≤ 1000) (hw : 0 ≤ wide ∧ wide ≤ 40) (hp : Bk w bp #[.int .u64 s]) (hs : u64ok s) :
  Calls Tryz.prog 53 #[.pointer (some ⟨bp, 0, none⟩), .int .i64 tone, .int .i64 wide] w (SoundPost bp w) := by
 refine Zpx (fun b => b = bp) Tryz.func53 rfl 24 rfl [.pointer (some ⟨bp, 0, none⟩), .int .i64 tone, .int .i64 wide] rfl rfl (Mem.initEx (p := .cells [.int .u64 s]) hp) ?_
 intro ac wc T M
 refine Zsr ?_
 refine Zl2 ?_
 refine Zoa M T rfl rfl rfl rfl ?_; clear M T; intro g1 wc ac M T
 refine Zln ?_
 refine Zsr ?_
 refine Zg3 T (Zq (Zrm rfl (T.e 2 rfl))) rfl (fun _ T => Zq (rn_min2 rfl evc (T.e 0 rfl))) rfl (fun _ T => Zq (rn_max2 rfl evc (T.e 0 rfl))) rfl ?_; clear T ac; intro ac T
 refine l_q (v := (.int .i64 (max (-30) (min 30 tone)))) (T.pick [0, 1, 2, 3, 4, 6] rfl) rfl rfl rfl rfl (Zra rfl (T.e 0 rfl)) ?_; clear T ac; intro ac T
 replace T := T.pick [0, 4, 5, 6] rfl
 refine Zln ?_
 refine Zsr ?_
 refine Zg3 T (Zq (Zrm rfl (T.e 2 rfl))) rfl (Zm 1 rfl rfl) rfl (Zm 5 rfl rfl) rfl ?_; clear T ac; intro ac T
 refine Zl2 ?_
 refine Zoc (first := []) (cap := []) T rfl rfl rfl rfl evf (.cons (T.e 2 rfl) (.cons (T.e 1 rfl) (.cons evc (.cons evc (.cons (T.e 0 rfl) .nil))))) Tryz.func102 rfl rfl ?_
 refine Calls.mono (near_pot _ bp (max (-30) (min 30 tone)) (-30) 30 wide _ (by omega) (by omega) (by omega) (by omega) (by omega) (by omega) (M.nth 1 rfl) hs) ?_
 clear T; rintro e wc ⟨xu1, yu1, su1, hxu1, hsu1, rfl, hgr, hbk⟩ ac T
 replace M := M.callC (cs' := [.int .u64 su1]) (.tail .head) hgr hbk
 clear hgr hbk
 refine Zg3 T (Zq (Zrm rfl (T.e 6 rfl))) rfl (Zm 7 rfl rfl) rfl (Zm 8 rfl rfl) rfl ?_; clear T ac; intro ac T
 refine Zl2 ?_
 refine Zoc (first := []) (cap := []) T rfl rfl rfl rfl evf (.cons (T.e 0 rfl) (.cons evc (.cons evc .nil))) Tryz.func52 rfl rfl ?_
 refine Calls.mono (within_pot _ bp (-2) 2 _ (by omega) (by omega) (by omega) (M.nth 1 rfl) hsu1) ?_
 clear T; rintro e wc ⟨xu2, su2, hxu2, hsu2, rfl, hgr, hbk⟩ ac T
 replace M := M.callC (cs' := [.int .u64 su2]) (.tail .head) hgr hbk
 clear hgr hbk
 refine Zl2 ?_
 refine ow_bs (e := 3) [.int .i64 0, .int .i64 0, .int .i64 xu2] M T rfl rfl rfl rfl (.cons evc (.cons evc (.cons (T.e 0 rfl) .nil))) (fun _ => by kernel_rfl) ?_; clear M T; intro g2 wc ac M T
 refine Zl2 ?_
 refine Zoc (first := []) (cap := []) T rfl rfl rfl rfl evf (.cons (T.e 3 rfl) (.cons (T.e 0 rfl) .nil)) Tryz.func103 rfl rfl ?_
 refine Calls.mono (of_any _ bp _ 3 3 [0, 0, xu2] _ (M.rdOwn (Zne (i := 0) rfl) rfl rfl) (M.nee 0 2 rfl rfl rfl) (by decide) (by decide) (M.nth 2 rfl) hsu2) ?_
 clear T; rintro e wc ⟨xu3, su3, hxu3, hsu3, rfl, hgr, hbk⟩ ac T
 replace M := M.callC (cs' := [.int .u64 su3]) (.tail (.tail .head)) hgr hbk
 clear hgr hbk
 simp only [List.mem_cons, List.not_mem_nil, or_false] at hxu3
 refine Zg2 T (Zq (Zrm rfl (T.e 13 rfl))) rfl (fun _ T => Zq (rn_min2 rfl (T.e 0 rfl) evc)) rfl ?_; clear T ac; intro ac T
 refine Zl2 ?_
 refine Zoc (first := []) (cap := []) T rfl rfl rfl rfl evf (.cons (T.e 7 rfl) (.cons (T.e 2 rfl) (.cons evc (.cons evc (.cons (T.e 0 rfl) .nil))))) Tryz.func102 rfl rfl ?_
 refine Calls.mono (near_pot _ bp xu3 (-3) 3 (min wide 1) _ (by omega) (by omega) (by omega) (by omega) (by omega) (by omega) (M.nth 2 rfl) hsu3) ?_
 clear T; rintro e wc ⟨xu4, yu4, su4, hxu4, hsu4, rfl, hgr, hbk⟩ ac T
 replace M := M.callC (cs' := [.int .u64 su4]) (.tail (.tail .head)) hgr hbk
 clear hgr hbk
 refine lq (v := (.agg #[.int .i64 xu1, .int .i64 yu1, .int .i64 xu4, .int .i64 yu4])) T (rn_build rfl (.cons (T.e 9 rfl) (.cons (T.e 0 rfl) .nil)) (fun _ => by kernel_rfl)) ?_; clear T ac; intro ac T
 refine Zl2 ?_
 refine Zos M T rfl rfl (T.e 15 rfl) (T.e 0 rfl) rfl (.tail .head) rfl (by simp) rfl (by kernel_rfl) ?_; clear M T; intro wc ac M T
 refine wpList_nil ?_
 replace T := T.pick [15] rfl
 replace M := M.mask [false, true, true] rfl
 refine Znr ?_
 refine rt_c M T rfl (T.e 0 rfl) (Zne (i := 0) rfl) rfl ?_
 exact ⟨⟨xu1, yu1, xu4, yu4⟩, _, ⟨by (try dsimp only); omega, by (try dsimp only); omega⟩, hsu4, rfl, M.grown, M.nth 1 rfl⟩
theorem Mem.joinW {w0 w w' : World} {ex : Nat → Prop} {L L' I : List (Nat × BA)} {g : Nat} {p p' : BA} (M : Mem w0 ex w L) (hu : Upd L g p p' L') (N : Mem w (fun b => b = g) w' (I ++ [(g, p')])) : Mem w0 ex w' (I ++ L') := by
 have hg := M.blk _ hu.mem
 have hgl := BA.lt hg.2
 have hnd := N.nd
 rw [List.map_append] at hnd
 obtain ⟨n1, n2, n3⟩ := List.nodup_append.1 hnd
 have hI : ∀ q ∈ I, w.heap.size ≤ q.1 := fun q hq => by
  rcases (N.blk q (List.mem_append_left _ hq)).1 with h | h
  ·exact h
  ·exact absurd h (n3 q.1 (List.mem_map.2 ⟨q, hq, rfl⟩) g (by simp))
 refine ⟨N.os.trans M.os, N.tape.trans M.tape, N.output.trans M.output, Nat.le_trans M.size N.size, fun b hb hx => ?_, fun q hq => ?_, ?_⟩
 ·refine (N.block b (Nat.lt_of_lt_of_le hb M.size) fun e => ?_).trans (M.block b hb hx)
  have e : b = g := e
  subst e
  rcases hg.1 with h | h
  ·have h : w0.heap.size ≤ b := h
   omega
  ·exact hx h
 ·rcases List.mem_append.1 hq with hq | hq
  ·exact ⟨.inl (Nat.le_trans M.size (hI q hq)), (N.blk q (List.mem_append_left _ hq)).2⟩
  ·rcases hu.all M.nd q hq with rfl | ⟨h1, h2⟩
   ·exact ⟨hg.1, (N.blk _ (List.mem_append_right _ Zz2)).2⟩
   ·have h3 := M.blk q h1
    exact ⟨h3.1, BA.same h3.2 N.size (N.block _ (BA.lt h3.2) h2)⟩
 ·rw [List.map_append, hu.keys]
  refine List.nodup_append.2 ⟨n1, M.nd, fun a ha b hb e => ?_⟩
  obtain ⟨q, hq, rfl⟩ := List.mem_map.1 ha
  obtain ⟨r, hr, rfl⟩ := List.mem_map.1 hb
  have h1 := hI q hq
  have h2 := BA.lt (M.blk r hr).2
  omega
structure Bx.made (b : Bx) (lo hi : Int) : Prop where
 law : b.law.made 3
 note : 0 ≤ b.note ∧ b.note ≤ 3
 nlo : (b.lows.length : Int) ≤ lo
 nhi : (b.highs.length : Int) ≤ hi
 good : b.good
theorem boxMade {b : Bx} {j : Jb} {lo hi : Int} (hl : b.law.made 3) (hn : 0 ≤ b.note ∧ b.note ≤ 3) (hlo : (b.lows.length : Int) ≤ lo ∧ b.lows.length ≤ 4) (hhi : (b.highs.length : Int) ≤ hi ∧ b.highs.length ≤ 5) (gl : ∀ x ∈ b.lows, x.good) (gh : ∀ x ∈ b.highs, x.good) (hme : 0 ≤ b.me ∧ b.me ≤ 1)
  (hj : j.made 0 1) (e : b.t0 = j.t0 ∧ b.t1 = j.t1 ∧ b.r0 = j.r0 ∧ b.r1 = j.r1 ∧ b.u0 = j.u0 ∧ b.u1 = j.u1 ∧ b.d0 = j.d0 ∧ b.d1 = j.d1 ∧ b.a0 = j.a0 ∧ b.a1 = j.a1 ∧ b.b0 = j.b0 ∧ b.b1 = j.b1 ∧ b.le = j.le) : b.made lo hi := by
 have gj := hj.good
 have hs := step_bd (notes := 3) hl.step hn
 have h1 := hl.first
 have h2 := hl.step
 have h3 := hl.span
 have h4 := hl.press
 have h5 := mostD_bd 3
 dsimp only at h1 h2 h3 h4 hs
 refine ⟨hl, hn, hlo.1, hhi.1, ⟨⟨by dsimp only; omega, by dsimp only; omega, by dsimp only; omega, by dsimp only; omega⟩, by omega, by unfold Bx.due; omega, ⟨hlo.2, gl⟩, ⟨hhi.2, gh⟩, check_of_good ?_⟩⟩
 obtain ⟨e1, e2, e3, e4, e5, e6, e7, e8, e9, e10, e11, e12, e13⟩ := e
 have k1 := gj.t
 have k2 := gj.r
 have k3 := gj.u
 have k4 := gj.d
 have k5 := gj.a
 have k6 := gj.b
 have k7 := gj.le
 exact ⟨by show (-60 : Int) ≤ 0 ∧ (0 : Int) ≤ 0 ∧ (0 : Int) ≤ 60; omega, by show 0 ≤ b.t0 ∧ b.t0 ≤ b.t1 ∧ b.t1 ≤ 100; omega, by show 0 ≤ b.r0 ∧ b.r0 ≤ b.r1 ∧ b.r1 ≤ 100; omega, by show 0 ≤ b.u0 ∧ b.u0 ≤ b.u1 ∧ b.u1 ≤ 12; omega, by show 0 ≤ b.d0 ∧ b.d0 ≤ b.d1 ∧ b.d1 ≤ 12; omega, by show 0 ≤ b.a0 ∧ b.a0 ≤ b.a1 ∧ b.a1 ≤ 12; omega, by show 0 ≤ b.b0 ∧ b.b0 ≤ b.b1 ∧ b.b1 ≤ 12; omega, by show 0 ≤ b.le ∧ b.le ≤ 100; omega, by show ([] : List (Int × Int)).length ≤ 4; simp, fun p hp => (by cases hp), by show 0 ≤ b.span ∧ b.span ≤ 60; omega, by show 0 ≤ b.me ∧ b.me ≤ 6; omega⟩
def BoxOfPost (bp : Nat) (lo hi : Int) (w : World) (e : Ending) (w' : World) : Prop :=
 ∃ (b : Bx) (A : Option Addr) (c : Nat) (B : Option Addr) (d : Nat) (s : Int) (I : List (Nat × BA)), e = .returned (bxV b A c B d) ∧ b.made lo hi ∧ u64ok s ∧ (∃ b1 o1, ∀ (w : World) (ex : Nat → Prop), Sp w ex I A b.lows.length 4 b1 o1 (sc b.lows)) ∧ (∃ b1 o1, ∀ (w : World) (ex : Nat → Prop), Sp w ex I B b.highs.length 4 b1 o1 (sc b.highs)) ∧ Mem w (fun b => b = bp) w' (I ++ [(bp, .cells [.int .u64 s])])
theorem boxOf_any (s : Int) (bp : Nat) (nlo nhi wide : Int) (w : World) (hlo : 0 ≤ nlo ∧ nlo ≤ 40) (hhi : 0 ≤ nhi ∧ nhi ≤ 40) (hw : 0 ≤ wide ∧ wide ≤ 40) (hp : Bk w bp #[.int .u64 s]) (hs : u64ok s) :
   Calls Tryz.prog 7 #[.pointer (some ⟨bp, 0, none⟩), .int .i64 nlo, .int .i64 nhi, .int .i64 wide] w (BoxOfPost bp nlo nhi w) := by
 refine Zpx (fun b => b = bp) Tryz.func7 rfl 115 rfl [.pointer (some ⟨bp, 0, none⟩), .int .i64 nlo, .int .i64 nhi, .int .i64 wide] rfl rfl (Mem.initEx (p := .cells [.int .u64 s]) hp) ?_
 intro ac wc T M
 refine Zsr ?_
 refine Zl2 ?_
 refine Zoa M T rfl rfl rfl rfl ?_; clear M T; intro g1 wc ac M T
 refine Zln ?_
 refine Zsr ?_
 refine lq T (Zrm rfl (T.e 1 rfl)) ?_; clear T ac; intro ac T
 refine Zl2 ?_
 refine Zoc (first := []) (cap := []) T rfl rfl rfl rfl evf (.cons (T.e 0 rfl) (.cons evc .nil)) Tryz.func51 rfl rfl ?_
 refine Calls.mono (lawOf_any _ bp 3 _ (by omega) (M.nth 1 rfl) hs) ?_
 clear T; rintro e wc ⟨lu1, su1, hlu1, hsu1, rfl, hgr, hbk⟩ ac T
 replace M := M.callC (cs' := [.int .u64 su1]) (.tail .head) hgr hbk
 clear hgr hbk
 have hlfu1 := hlu1.first
 have hlsu1 := hlu1.step
 have hlpu1 := hlu1.span
 have hlqu1 := hlu1.press
 have hmdu1 := mostD_bd 3
 refine lq T (Zrm rfl (T.e 3 rfl)) ?_; clear T ac; intro ac T
 refine Zl2 ?_
 refine Zoc (first := []) (cap := []) T rfl rfl rfl rfl evf (.cons (T.e 0 rfl) (.cons evc .nil)) Tryz.func20 rfl rfl ?_
 refine Calls.mono (upto_any _ bp 3 _ (by omega) (by omega) (M.nth 1 rfl) hsu1) ?_
 clear T; rintro e wc ⟨xu2, su2, hxu2, hsu2, rfl, hgr, hbk⟩ ac T
 replace M := M.callC (cs' := [.int .u64 su2]) (.tail .head) hgr hbk
 clear hgr hbk
 have hst := step_bd (notes := 3) (k := xu2) hlu1.step (by omega)
 refine lq T (Zrm rfl (T.e 5 rfl)) ?_; clear T ac; intro ac T
 refine Zl2 ?_
 refine Zoc (first := []) (cap := []) T rfl rfl rfl rfl evf (.cons (T.e 0 rfl) (.cons evc .nil)) Tryz.func20 rfl rfl ?_
 refine Calls.mono (upto_any _ bp 1 _ (by omega) (by omega) (M.nth 1 rfl) hsu2) ?_
 clear T; rintro e wc ⟨xu3, su3, hxu3, hsu3, rfl, hgr, hbk⟩ ac T
 replace M := M.callC (cs' := [.int .u64 su3]) (.tail .head) hgr hbk
 clear hgr hbk
 refine lq (v := (.agg #[.int .i64 lu1.first, .int .i64 lu1.step, .int .i64 lu1.span, .int .i64 lu1.press, .int .i64 xu2, .slice none 0 0, .slice none 0 0, .int .i64 0, .int .i64 0, .int .i64 0, .int .i64 0, .int .i64 0, .int .i64 0, .int .i64 0, .int .i64 0, .int .i64 0, .int .i64 0, .int .i64 0, .int .i64 0, .int .i64 0, .int .i64 xu3])) T (rn_build rfl (.cons (T.e 4 rfl) (.cons (T.e 2 rfl) (.cons (T.e 0 rfl) .nil))) (fun _ => by kernel_rfl)) ?_; clear T ac; intro ac T
 refine Zl2 ?_
 refine Zoa M T rfl rfl rfl rfl ?_; clear M T; intro g2 wc ac M T
 refine Zl2 ?_
 refine Zos M T rfl rfl (T.e 0 rfl) (T.e 1 rfl) rfl .head rfl (by simp) rfl (by kernel_rfl) ?_; clear M T; intro wc ac M T
 replace T := T.pick [0, 8, 9, 10, 11, 12] rfl
 refine Zln ?_
 refine Zsr ?_
 refine Zg8 (v1 := (.pointer (some ⟨g2, 0, none⟩))) (v2 := (.pointer (some ⟨g2, 0, none⟩))) (v4 := (.pointer (some ⟨g2, 0, none⟩))) (v5 := (.pointer (some ⟨g2, 1, none⟩))) (v7 := (.pointer (some ⟨g2, 4, none⟩))) T (Zq (Zrf (off := 0) rfl (T.e 0 rfl) (fun _ _ _ => by kernel_rfl))) rfl (Zf 0 0 rfl rfl) rfl (Zo M 0 0 rfl rfl rfl rfl) rfl (Zf 0 3 rfl rfl) rfl (Zf 1 0 rfl rfl) rfl (Zo M 0 0 rfl rfl rfl rfl) rfl (Zf 4 6 rfl rfl) rfl (Zo M 0 0 rfl rfl rfl rfl) rfl ?_; clear T ac; intro ac T
 refine Zg3 T (Zq (rn_mul rfl (T.e 2 rfl) (T.e 0 rfl) (by omega))) rfl (fun _ T => Zq (rn_add rfl (T.e 6 rfl) (T.e 0 rfl) (by omega))) rfl (Za 0 rfl rfl) rfl ?_; clear T ac; intro ac T
 replace T := T.pick [0, 11, 12, 13, 14, 15, 16] rfl
 refine Zln ?_
 refine Zsr ?_
 refine lq T (Zra rfl evc) ?_; clear T ac; intro ac T
 refine Zln ?_
 refine wp_seq ?_
 refine Zsr ?_
 refine Zg3 T (Zq (Zrm rfl (T.e 4 rfl))) rfl (Zm 6 rfl rfl) rfl (fun _ T => Zq (rn_min2 rfl (T.e 0 rfl) evc)) rfl ?_; clear T ac; intro ac T
 refine Zl2 ?_
 refine Zoc (first := []) (cap := []) T rfl rfl rfl rfl evf (.cons (T.e 2 rfl) (.cons (T.e 0 rfl) .nil)) Tryz.func20 rfl rfl ?_
 refine Calls.mono (upto_any _ bp (min nlo 4) _ (by omega) (by omega) (M.nth 2 rfl) hsu3) ?_
 clear T; rintro e wc ⟨xu4, su4, hxu4, hsu4, rfl, hgr, hbk⟩ ac T
 replace M := M.callC (cs' := [.int .u64 su4]) (.tail (.tail .head)) hgr hbk
 clear hgr hbk
 refine lq T (Zra rfl (T.e 0 rfl)) ?_; clear T ac; intro ac T
 replace T := T.pick [0, 5, 6, 7, 8, 9, 11, 12] rfl
 refine Zln ?_
 refine wp_block ?_
 refine wp_loop_n (fun mz ac wc => ∃ (i : Int) (ol : List Snd) (A3 : Option Addr) (c3 : Nat) (tn : List Int) (A4 : Option Addr) (c4 : Nat) (s : Int) (Ii Io : List (Nat × BA)), mz = i.toNat ∧ (0 ≤ i) ∧ ((ol.length : Int) + i = xu4) ∧ (tn.length = ol.length) ∧ (∀ z ∈ ol, z.good) ∧ (∀ z ∈ tn, -6 ≤ z ∧ z ≤ 6) ∧ (u64ok s) ∧ (Sl 32 4 (.slice A3 ol.length c3) ol.length (sc ol) Io) ∧ (Sl 3 1 (.slice A4 tn.length c4) tn.length (ic tn) Ii) ∧ Tm ac 115 [(0, .pointer (some ⟨bp, 0, none⟩)), (2, .int .i64 nhi), (3, .int .i64 wide), (8, .pointer (some ⟨g1, 0, none⟩)), (9, .pointer (some ⟨g2, 0, none⟩)), (10, .int .i64 (lu1.first + (lu1.step * xu2))), (11, .slice A4 tn.length c4), (12, .int .i64 i)] ∧ Mem w (fun b => b = bp) wc ((g2, .cells [.int .i64 lu1.first, .int .i64 lu1.step, .int .i64 lu1.span, .int .i64 lu1.press, .int .i64 xu2, .slice A3 ol.length c3, .slice none 0 0, .int .i64 0, .int .i64 0, .int .i64 0, .int .i64 0, .int .i64 0, .int .i64 0, .int .i64 0, .int .i64 0, .int .i64 0, .int .i64 0, .int .i64 0, .int .i64 0, .int .i64 0, .int .i64 xu3]) :: (g1, .cells [.int .i64 0, .int .i64 0, .int .i64 0, .int .i64 0, .int .i64 0, .slice none 0 0, .slice none 0 0, .int .i64 0, .int .i64 0, .int .i64 0, .int .i64 0, .int .i64 0, .int .i64 0, .int .i64 0, .int .i64 0, .int .i64 0, .int .i64 0, .int .i64 0, .int .i64 0, .int .i64 0, .int .i64 0]) :: (bp, .cells [.int .u64 s]) :: (Ii ++ Io))) ?_ ?_
 ·exact ⟨_, _, [], none, 0, [], none, 0, _, [], [], rfl, (by omega), (by simp), rfl, (fun z hz => by cases hz), (fun z hz => by cases hz), hsu4, (Sl.nil _ _), (Sl.nil _ _), T.pick [5, 6, 7, 4, 3, 2, 1, 0] rfl, M.mask [true, true, true] rfl⟩
 clear T M
 rintro mz ac wc ⟨i, ol, A3, c3, tn, A4, c4, s, Ii, Io, hmm1, hi, hol, htl, hgo, htn, hs, hsl, hsm, T, M⟩
 refine wp_seq ?_
 refine Zsr ?_
 refine Zg2 T (Zq (Zrm rfl (T.e 7 rfl))) rfl (fun _ T => Zq (rn_gtr rfl (T.e 0 rfl) evc)) rfl ?_; clear T ac; intro ac T
 replace T := T.pick [0, 2, 3, 4, 5, 6, 7, 8, 9] rfl
 refine Zln ?_
 refine wp_if (T.e 0 rfl) ?_ ?_
 ·intro h1
  refine Zsk ?_
  refine wp_seq ?_
  refine wp_block ?_
  refine Zsr ?_
  refine lq T (Zrm rfl (T.e 1 rfl)) ?_; clear T ac; intro ac T
  refine Zl2 ?_
  refine Zoc (first := []) (cap := []) T rfl rfl rfl rfl evf (.cons (T.e 0 rfl) (.cons evc (.cons evc .nil))) Tryz.func52 rfl rfl ?_
  refine Calls.mono (within_pot _ bp (-6) 6 _ (by omega) (by omega) (by omega) (M.nth 2 rfl) hs) ?_
  clear T; rintro e wc ⟨xu5, su5, hxu5, hsu5, rfl, hgr, hbk⟩ ac T
  replace M := M.callC (cs' := [.int .u64 su5]) (.tail (.tail .head)) hgr hbk
  clear hgr hbk
  refine lq T (Zra rfl (T.e 0 rfl)) ?_; clear T ac; intro ac T
  replace T := T.pick [0, 4, 5, 6, 7, 8, 9, 10, 11] rfl
  refine Zln ?_
  refine Zgs M (M.perm [1] rfl rfl) 15 (by kernel_rfl) rfl (by kernel_rfl) ?_
  clear M; intro wc M
  refine g_addG 5 (M.perm [0, 1, 2] rfl rfl) ?_
  refine g_addG 13 (M.perm [0, 1] rfl rfl) ?_
  refine gq (v := (.pointer (some ⟨g2, 5, none⟩))) T 0 1 rfl (fun _ _ _ _ _ => (Zrf (off := 5) rfl (T.e 5 rfl) (fun _ _ _ => by kernel_rfl))) ?_; clear T ac; intro ac T
  refine gq T 1 3 rfl (fun B w' hD hl hS => (Zro (Mem.nth (show Mem w (fun b => b = bp) w' _ from ((MA.lft hS) (hD.wait (i := 1) (m := 13) (by kernel_rfl) hl))) 0 rfl) rfl (T.e 0 rfl) rfl)) ?_; clear T ac; intro ac T
  refine gq T 2 7 rfl (fun _ _ _ _ _ => (Zrm rfl (T.e 3 rfl))) ?_; clear T ac; intro ac T
  refine gq T 3 15 rfl (fun _ _ _ _ _ => (Zrm rfl (T.e 3 rfl))) ?_; clear T ac; intro ac T
  refine gq T 4 31 rfl (fun _ _ _ _ _ => (Zrm rfl (T.e 7 rfl))) ?_; clear T ac; intro ac T
  refine gq T 8 287 rfl (fun _ _ _ _ _ => (Zrm rfl (T.e 12 rfl))) ?_; clear T ac; intro ac T
  refine gq T 9 799 rfl (fun _ _ _ _ _ => (Zrm rfl (T.e 6 rfl))) ?_; clear T ac; intro ac T
  refine g_m2 (i := 5) (j := 10) (by kernel_rfl) ?_ ?_
  ·refine gi 831 ?_; intro K hK
   refine Zoc (first := []) (cap := []) T rfl rfl rfl rfl evf (.cons (T.e 4 rfl) (.cons (T.e 3 rfl) (.cons (T.e 2 rfl) .nil))) Tryz.func53 rfl rfl ?_
   refine Calls.mono (soundOf_any _ bp xu5 wide _ (by omega) (by omega) (M.nth 2 rfl) hsu5) ?_
   clear T; rintro e wc ⟨xur8_5, sur8_5, hxur8_5, hsur8_5, rfl, hgr, hbk⟩ ac T
   replace M := M.callC (cs' := [.int .u64 sur8_5]) (.tail (.tail .head)) hgr hbk
   clear hgr hbk
   refine Zso hK _ _ (MA.mk (fun _ => M.perm [0, 1] rfl rfl) (MA.mk (fun h => (no_of (by kernel_rfl) h).elim) (M.perm [1] rfl rfl))) ?_; clear hK K
   refine g_m2 (i := 6) (j := 10) (by kernel_rfl) ?_ ?_
   ·refine gi 895 ?_; intro K hK
    refine ow_bs (e := 32) [.int .i64 xur8_5.t0, .int .i64 xur8_5.t1, .int .i64 xur8_5.s0, .int .i64 xur8_5.s1] M T rfl rfl rfl rfl (.cons (T.e 0 rfl) .nil) (fun _ => by kernel_rfl) ?_; clear M T; intro gr8_6 wc ac M T
    refine Zso hK _ _ (MA.mk (fun _ => M.perm [1, 2] rfl rfl) (MA.mk (fun h => (no_of (by kernel_rfl) h).elim) (M.perm [2] rfl rfl))) ?_; clear hK K
    refine g_m2 (i := 7) (j := 10) (by kernel_rfl) ?_ ?_
    ·refine gi 1023 ?_; intro K hK
     refine ow_app (((gr8_6, .cells [.int .i64 xur8_5.t0, .int .i64 xur8_5.t1, .int .i64 xur8_5.s0, .int .i64 xur8_5.s1]) :: (g2, .cells [.int .i64 lu1.first, .int .i64 lu1.step, .int .i64 lu1.span, .int .i64 lu1.press, .int .i64 xu2, .slice A3 ol.length c3, .slice none 0 0, .int .i64 0, .int .i64 0, .int .i64 0, .int .i64 0, .int .i64 0, .int .i64 0, .int .i64 0, .int .i64 0, .int .i64 0, .int .i64 0, .int .i64 0, .int .i64 0, .int .i64 0, .int .i64 xu3]) :: (g1, .cells [.int .i64 0, .int .i64 0, .int .i64 0, .int .i64 0, .int .i64 0, .slice none 0 0, .slice none 0 0, .int .i64 0, .int .i64 0, .int .i64 0, .int .i64 0, .int .i64 0, .int .i64 0, .int .i64 0, .int .i64 0, .int .i64 0, .int .i64 0, .int .i64 0, .int .i64 0, .int .i64 0, .int .i64 0]) :: (bp, .cells [.int .u64 sur8_5]) :: Ii)) Tryz.info32 hsl M (by first | rfl | simp) T rfl rfl rfl rfl Tryz.underlying24 rfl rfl rfl (by omega) (T.e 7 rfl) (T.e 0 rfl) (Zne (i := 0) rfl) rfl rfl ?_; clear M T; intro ga1 cga1 wc ac M T
     refine Zso hK _ _ (MA.mk (fun _ => M.perm [2, 3] rfl rfl) (MA.mk (fun h => (no_of (by kernel_rfl) h).elim) (M.perm [3] rfl rfl))) ?_; clear hK K
     refine gq (v := (.pointer (some ⟨g2, 5, none⟩))) T 12 5119 rfl (fun _ _ _ _ _ => (Zrf (off := 5) rfl (T.e 15 rfl) (fun _ _ _ => by kernel_rfl))) ?_; clear T ac; intro ac T
     refine gw 10 6143 ?_; intro K hK
     refine ow_bs (e := 3) [.int .i64 xu5] M T rfl rfl rfl rfl (.cons (T.e 4 rfl) .nil) (fun _ => by kernel_rfl) ?_; clear M T; intro gr8_10 wc ac M T
     refine Zso hK _ _ (MA.mk (fun _ => M.perm [3, 4] rfl rfl) (MA.mk (fun h => (no_of (by kernel_rfl) h).elim) (M.perm [4] rfl rfl))) ?_; clear hK K
     refine gw 11 8191 ?_; intro K hK
     refine ow_app ([(gr8_10, .cells [.int .i64 xu5]), (ga1, .row 32 4 (ol.length + 1) ((sc ol) ++ [.int .i64 xur8_5.t0, .int .i64 xur8_5.t1, .int .i64 xur8_5.s0, .int .i64 xur8_5.s1]) cga1), (gr8_6, .cells [.int .i64 xur8_5.t0, .int .i64 xur8_5.t1, .int .i64 xur8_5.s0, .int .i64 xur8_5.s1]), (g2, .cells [.int .i64 lu1.first, .int .i64 lu1.step, .int .i64 lu1.span, .int .i64 lu1.press, .int .i64 xu2, .slice A3 ol.length c3, .slice none 0 0, .int .i64 0, .int .i64 0, .int .i64 0, .int .i64 0, .int .i64 0, .int .i64 0, .int .i64 0, .int .i64 0, .int .i64 0, .int .i64 0, .int .i64 0, .int .i64 0, .int .i64 0, .int .i64 xu3]), (g1, .cells [.int .i64 0, .int .i64 0, .int .i64 0, .int .i64 0, .int .i64 0, .slice none 0 0, .slice none 0 0, .int .i64 0, .int .i64 0, .int .i64 0, .int .i64 0, .int .i64 0, .int .i64 0, .int .i64 0, .int .i64 0, .int .i64 0, .int .i64 0, .int .i64 0, .int .i64 0, .int .i64 0, .int .i64 0]), (bp, .cells [.int .u64 sur8_5])]) Tryz.info3 hsm M (by first | rfl | simp) T rfl rfl rfl rfl Tryz.underlying33 rfl rfl rfl (by omega) (T.e 6 rfl) (T.e 0 rfl) (Zne (i := 0) rfl) rfl rfl ?_; clear M T; intro ga2 cga2 wc ac M T
     refine Zso hK _ _ (MA.mk (fun _ => M.mask [false, false, false, false, true, true, false] rfl) (MA.mk (fun h => (no_of (by kernel_rfl) h).elim) (M.mask [false, false, false, false, false, true, false] rfl))) ?_; clear hK K
     refine gw 13 16383 ?_; intro K hK
     refine Zos M T rfl rfl (T.e 2 rfl) (T.e 3 rfl) rfl (.tail (.tail (.tail (.tail .head)))) rfl (by simp) rfl (by kernel_rfl) ?_; clear M T; intro wc ac M T
     refine Zso hK _ _ (MA.mk (fun h => (no_of (by kernel_rfl) h).elim) (MA.mk (fun h => (no_of (by kernel_rfl) h).elim) (M.mask [false, false, false, false, false, true, false] rfl))) ?_; clear hK K
     refine g_q (v := (.slice (some ⟨ga2, 0, none⟩) (tn.length + 1) cga2)) (T := T.pick [0, 1, 2, 3, 4, 5, 6, 7, 8, 9, 10, 11, 12, 13, 14, 15, 16, 17, 18, 19, 21] rfl) (i := 14) rfl (by kernel_rfl) (by kernel_rfl : (Zpb 15 16383).setIfInBounds 14 true = Zpb 15 32767) (si_and (si_G rfl) (si_and (si_G rfl) si_U)) (fun _ _ _ h => h) rfl rfl rfl rfl (fun _ _ _ _ _ => (Zra rfl (T.e 0 rfl))) ?_; clear T ac; intro ac T
     refine Zgd (by kernel_rfl) ?_
     replace T := T.pick [0, 15, 16, 17, 18, 19, 20, 21] rfl
     replace M := M.mask [true, false, true, false, true, true, true] rfl
     refine Znb ?_
     refine nm_then ?_
     refine wp_region_lit ?_
     refine Zg2 T (Zq (Zrm rfl (T.e 7 rfl))) rfl (fun _ T => Zq (rn_sub rfl (T.e 0 rfl) evc (by omega))) rfl ?_; clear T ac; intro ac T
     refine l_q (v := (.int .i64 (i - 1))) (T.pick [0, 1, 2, 3, 4, 5, 6, 7, 8] rfl) rfl rfl rfl rfl (Zra rfl (T.e 0 rfl)) ?_; clear T ac; intro ac T
     replace T := T.pick [0, 3, 4, 5, 6, 7, 8, 9] rfl
     refine Zln ?_
     have e9a : ol.length + 1 = (ol ++ [xur8_5]).length := by simp
     have e8a : ((sc ol) ++ [.int .i64 xur8_5.t0, .int .i64 xur8_5.t1, .int .i64 xur8_5.s0, .int .i64 xur8_5.s1]) = sc (ol ++ [xur8_5]) := by rw [← sc_snoc]
     rw [e9a, e8a] at M
     (try rw [e9a] at T)
     have e9b : tn.length + 1 = (tn ++ [xu5]).length := by simp
     have e8b : ((ic tn) ++ [.int .i64 xu5]) = ic (tn ++ [xu5]) := by rw [← ic_snoc]
     rw [e9b, e8b] at M
     (try rw [e9b] at T)
     exact ⟨_, by omega, (i - 1), (ol ++ [xur8_5]), _, _, (tn ++ [xu5]), _, _, sur8_5, [(ga2, .row 3 1 (tn ++ [xu5]).length (ic (tn ++ [xu5])) cga2)], [(ga1, .row 32 4 (ol ++ [xur8_5]).length (sc (ol ++ [xur8_5])) cga1)], rfl, (by omega), (by simp only [List.length_append, List.length_cons, List.length_nil]; omega), (by simp only [List.length_append, List.length_cons, List.length_nil]; omega), (fun z hz => by rcases List.mem_append.1 hz with h9 | h9; exact hgo z h9; simp only [List.mem_cons, List.not_mem_nil, or_false] at h9; subst h9; exact hxur8_5), (fun z hz => by rcases List.mem_append.1 hz with h9 | h9; exact htn z h9; simp only [List.mem_cons, List.not_mem_nil, or_false] at h9; subst h9; omega), hsur8_5, (Sl.row _ _ _ _ _ _), (Sl.row _ _ _ _ _ _), T.pick [2, 3, 4, 5, 6, 7, 1, 0] rfl, M.perm [2, 3, 4, 0, 1] rfl rfl⟩
    refine gi 1919 ?_; intro K hK
    refine ow_bs (e := 3) [.int .i64 xu5] M T rfl rfl rfl rfl (.cons (T.e 2 rfl) .nil) (fun _ => by kernel_rfl) ?_; clear M T; intro gr8_10 wc ac M T
    refine Zso hK _ _ (MA.mk (fun _ => M.perm [2, 3] rfl rfl) (MA.mk (fun h => (no_of (by kernel_rfl) h).elim) (M.perm [3] rfl rfl))) ?_; clear hK K
    refine gw 7 2047 ?_; intro K hK
    refine ow_app (((gr8_10, .cells [.int .i64 xu5]) :: (gr8_6, .cells [.int .i64 xur8_5.t0, .int .i64 xur8_5.t1, .int .i64 xur8_5.s0, .int .i64 xur8_5.s1]) :: (g2, .cells [.int .i64 lu1.first, .int .i64 lu1.step, .int .i64 lu1.span, .int .i64 lu1.press, .int .i64 xu2, .slice A3 ol.length c3, .slice none 0 0, .int .i64 0, .int .i64 0, .int .i64 0, .int .i64 0, .int .i64 0, .int .i64 0, .int .i64 0, .int .i64 0, .int .i64 0, .int .i64 0, .int .i64 0, .int .i64 0, .int .i64 0, .int .i64 xu3]) :: (g1, .cells [.int .i64 0, .int .i64 0, .int .i64 0, .int .i64 0, .int .i64 0, .slice none 0 0, .slice none 0 0, .int .i64 0, .int .i64 0, .int .i64 0, .int .i64 0, .int .i64 0, .int .i64 0, .int .i64 0, .int .i64 0, .int .i64 0, .int .i64 0, .int .i64 0, .int .i64 0, .int .i64 0, .int .i64 0]) :: (bp, .cells [.int .u64 sur8_5]) :: Ii)) Tryz.info32 hsl M (by first | rfl | simp) T rfl rfl rfl rfl Tryz.underlying24 rfl rfl rfl (by omega) (T.e 8 rfl) (T.e 1 rfl) (Zne (i := 1) rfl) rfl rfl ?_; clear M T; intro ga3 cga3 wc ac M T
    refine Zso hK _ _ (MA.mk (fun _ => M.perm [3, 4] rfl rfl) (MA.mk (fun h => (no_of (by kernel_rfl) h).elim) (M.perm [4] rfl rfl))) ?_; clear hK K
    refine gq (v := (.pointer (some ⟨g2, 5, none⟩))) T 12 6143 rfl (fun _ _ _ _ _ => (Zrf (off := 5) rfl (T.e 16 rfl) (fun _ _ _ => by kernel_rfl))) ?_; clear T ac; intro ac T
    refine gw 11 8191 ?_; intro K hK
    refine ow_app ([(ga3, .row 32 4 (ol.length + 1) ((sc ol) ++ [.int .i64 xur8_5.t0, .int .i64 xur8_5.t1, .int .i64 xur8_5.s0, .int .i64 xur8_5.s1]) cga3), (gr8_10, .cells [.int .i64 xu5]), (gr8_6, .cells [.int .i64 xur8_5.t0, .int .i64 xur8_5.t1, .int .i64 xur8_5.s0, .int .i64 xur8_5.s1]), (g2, .cells [.int .i64 lu1.first, .int .i64 lu1.step, .int .i64 lu1.span, .int .i64 lu1.press, .int .i64 xu2, .slice A3 ol.length c3, .slice none 0 0, .int .i64 0, .int .i64 0, .int .i64 0, .int .i64 0, .int .i64 0, .int .i64 0, .int .i64 0, .int .i64 0, .int .i64 0, .int .i64 0, .int .i64 0, .int .i64 0, .int .i64 0, .int .i64 xu3]), (g1, .cells [.int .i64 0, .int .i64 0, .int .i64 0, .int .i64 0, .int .i64 0, .slice none 0 0, .slice none 0 0, .int .i64 0, .int .i64 0, .int .i64 0, .int .i64 0, .int .i64 0, .int .i64 0, .int .i64 0, .int .i64 0, .int .i64 0, .int .i64 0, .int .i64 0, .int .i64 0, .int .i64 0, .int .i64 0]), (bp, .cells [.int .u64 sur8_5])]) Tryz.info3 hsm M (by first | rfl | simp) T rfl rfl rfl rfl Tryz.underlying33 rfl rfl rfl (by omega) (T.e 6 rfl) (T.e 2 rfl) (Zne (i := 1) rfl) rfl rfl ?_; clear M T; intro ga4 cga4 wc ac M T
    refine Zso hK _ _ (MA.mk (fun _ => M.mask [false, false, false, false, true, true, false] rfl) (MA.mk (fun h => (no_of (by kernel_rfl) h).elim) (M.mask [false, false, false, false, false, true, false] rfl))) ?_; clear hK K
    refine gw 13 16383 ?_; intro K hK
    refine Zos M T rfl rfl (T.e 1 rfl) (T.e 2 rfl) rfl (.tail (.tail (.tail (.tail .head)))) rfl (by simp) rfl (by kernel_rfl) ?_; clear M T; intro wc ac M T
    refine Zso hK _ _ (MA.mk (fun h => (no_of (by kernel_rfl) h).elim) (MA.mk (fun h => (no_of (by kernel_rfl) h).elim) (M.mask [false, false, false, false, false, true, false] rfl))) ?_; clear hK K
    refine g_q (v := (.slice (some ⟨ga4, 0, none⟩) (tn.length + 1) cga4)) (T := T.pick [0, 1, 2, 3, 4, 5, 6, 7, 8, 9, 10, 11, 12, 13, 14, 15, 16, 17, 18, 19, 21] rfl) (i := 14) rfl (by kernel_rfl) (by kernel_rfl : (Zpb 15 16383).setIfInBounds 14 true = Zpb 15 32767) (si_and (si_G rfl) (si_and (si_G rfl) si_U)) (fun _ _ _ h => h) rfl rfl rfl rfl (fun _ _ _ _ _ => (Zra rfl (T.e 0 rfl))) ?_; clear T ac; intro ac T
    refine Zgd (by kernel_rfl) ?_
    replace T := T.pick [0, 15, 16, 17, 18, 19, 20, 21] rfl
    replace M := M.mask [true, true, false, false, true, true, true] rfl
    refine Znb ?_
    refine nm_then ?_
    refine wp_region_lit ?_
    refine Zg2 T (Zq (Zrm rfl (T.e 7 rfl))) rfl (fun _ T => Zq (rn_sub rfl (T.e 0 rfl) evc (by omega))) rfl ?_; clear T ac; intro ac T
    refine l_q (v := (.int .i64 (i - 1))) (T.pick [0, 1, 2, 3, 4, 5, 6, 7, 8] rfl) rfl rfl rfl rfl (Zra rfl (T.e 0 rfl)) ?_; clear T ac; intro ac T
    replace T := T.pick [0, 3, 4, 5, 6, 7, 8, 9] rfl
    refine Zln ?_
    have e9a : ol.length + 1 = (ol ++ [xur8_5]).length := by simp
    have e8a : ((sc ol) ++ [.int .i64 xur8_5.t0, .int .i64 xur8_5.t1, .int .i64 xur8_5.s0, .int .i64 xur8_5.s1]) = sc (ol ++ [xur8_5]) := by rw [← sc_snoc]
    rw [e9a, e8a] at M
    (try rw [e9a] at T)
    have e9b : tn.length + 1 = (tn ++ [xu5]).length := by simp
    have e8b : ((ic tn) ++ [.int .i64 xu5]) = ic (tn ++ [xu5]) := by rw [← ic_snoc]
    rw [e9b, e8b] at M
    (try rw [e9b] at T)
    exact ⟨_, by omega, (i - 1), (ol ++ [xur8_5]), _, _, (tn ++ [xu5]), _, _, sur8_5, [(ga4, .row 3 1 (tn ++ [xu5]).length (ic (tn ++ [xu5])) cga4)], [(ga3, .row 32 4 (ol ++ [xur8_5]).length (sc (ol ++ [xur8_5])) cga3)], rfl, (by omega), (by simp only [List.length_append, List.length_cons, List.length_nil]; omega), (by simp only [List.length_append, List.length_cons, List.length_nil]; omega), (fun z hz => by rcases List.mem_append.1 hz with h9 | h9; exact hgo z h9; simp only [List.mem_cons, List.not_mem_nil, or_false] at h9; subst h9; exact hxur8_5), (fun z hz => by rcases List.mem_append.1 hz with h9 | h9; exact htn z h9; simp only [List.mem_cons, List.not_mem_nil, or_false] at h9; subst h9; omega), hsur8_5, (Sl.row _ _ _ _ _ _), (Sl.row _ _ _ _ _ _), T.pick [2, 3, 4, 5, 6, 7, 1, 0] rfl, M.perm [2, 3, 4, 0, 1] rfl rfl⟩
   refine gi 1855 ?_; intro K hK
   refine ow_bs (e := 3) [.int .i64 xu5] M T rfl rfl rfl rfl (.cons (T.e 1 rfl) .nil) (fun _ => by kernel_rfl) ?_; clear M T; intro gr8_10 wc ac M T
   refine Zso hK _ _ (MA.mk (fun _ => M.perm [1, 2] rfl rfl) (MA.mk (fun h => (no_of (by kernel_rfl) h).elim) (M.perm [2] rfl rfl))) ?_; clear hK K
   refine gw 6 1919 ?_; intro K hK
   refine ow_bs (e := 32) [.int .i64 xur8_5.t0, .int .i64 xur8_5.t1, .int .i64 xur8_5.s0, .int .i64 xur8_5.s1] M T rfl rfl rfl rfl (.cons (T.e 1 rfl) .nil) (fun _ => by kernel_rfl) ?_; clear M T; intro gr8_6 wc ac M T
   refine Zso hK _ _ (MA.mk (fun _ => M.perm [2, 3] rfl rfl) (MA.mk (fun h => (no_of (by kernel_rfl) h).elim) (M.perm [3] rfl rfl))) ?_; clear hK K
   refine gw 7 2047 ?_; intro K hK
   refine ow_app (((gr8_6, .cells [.int .i64 xur8_5.t0, .int .i64 xur8_5.t1, .int .i64 xur8_5.s0, .int .i64 xur8_5.s1]) :: (gr8_10, .cells [.int .i64 xu5]) :: (g2, .cells [.int .i64 lu1.first, .int .i64 lu1.step, .int .i64 lu1.span, .int .i64 lu1.press, .int .i64 xu2, .slice A3 ol.length c3, .slice none 0 0, .int .i64 0, .int .i64 0, .int .i64 0, .int .i64 0, .int .i64 0, .int .i64 0, .int .i64 0, .int .i64 0, .int .i64 0, .int .i64 0, .int .i64 0, .int .i64 0, .int .i64 0, .int .i64 xu3]) :: (g1, .cells [.int .i64 0, .int .i64 0, .int .i64 0, .int .i64 0, .int .i64 0, .slice none 0 0, .slice none 0 0, .int .i64 0, .int .i64 0, .int .i64 0, .int .i64 0, .int .i64 0, .int .i64 0, .int .i64 0, .int .i64 0, .int .i64 0, .int .i64 0, .int .i64 0, .int .i64 0, .int .i64 0, .int .i64 0]) :: (bp, .cells [.int .u64 sur8_5]) :: Ii)) Tryz.info32 hsl M (by first | rfl | simp) T rfl rfl rfl rfl Tryz.underlying24 rfl rfl rfl (by omega) (T.e 8 rfl) (T.e 0 rfl) (Zne (i := 0) rfl) rfl rfl ?_; clear M T; intro ga5 cga5 wc ac M T
   refine Zso hK _ _ (MA.mk (fun _ => M.perm [3, 4] rfl rfl) (MA.mk (fun h => (no_of (by kernel_rfl) h).elim) (M.perm [4] rfl rfl))) ?_; clear hK K
   refine gq (v := (.pointer (some ⟨g2, 5, none⟩))) T 12 6143 rfl (fun _ _ _ _ _ => (Zrf (off := 5) rfl (T.e 16 rfl) (fun _ _ _ => by kernel_rfl))) ?_; clear T ac; intro ac T
   refine gw 11 8191 ?_; intro K hK
   refine ow_app ([(ga5, .row 32 4 (ol.length + 1) ((sc ol) ++ [.int .i64 xur8_5.t0, .int .i64 xur8_5.t1, .int .i64 xur8_5.s0, .int .i64 xur8_5.s1]) cga5), (gr8_6, .cells [.int .i64 xur8_5.t0, .int .i64 xur8_5.t1, .int .i64 xur8_5.s0, .int .i64 xur8_5.s1]), (gr8_10, .cells [.int .i64 xu5]), (g2, .cells [.int .i64 lu1.first, .int .i64 lu1.step, .int .i64 lu1.span, .int .i64 lu1.press, .int .i64 xu2, .slice A3 ol.length c3, .slice none 0 0, .int .i64 0, .int .i64 0, .int .i64 0, .int .i64 0, .int .i64 0, .int .i64 0, .int .i64 0, .int .i64 0, .int .i64 0, .int .i64 0, .int .i64 0, .int .i64 0, .int .i64 0, .int .i64 xu3]), (g1, .cells [.int .i64 0, .int .i64 0, .int .i64 0, .int .i64 0, .int .i64 0, .slice none 0 0, .slice none 0 0, .int .i64 0, .int .i64 0, .int .i64 0, .int .i64 0, .int .i64 0, .int .i64 0, .int .i64 0, .int .i64 0, .int .i64 0, .int .i64 0, .int .i64 0, .int .i64 0, .int .i64 0, .int .i64 0]), (bp, .cells [.int .u64 sur8_5])]) Tryz.info3 hsm M (by first | rfl | simp) T rfl rfl rfl rfl Tryz.underlying33 rfl rfl rfl (by omega) (T.e 6 rfl) (T.e 3 rfl) (Zne (i := 2) rfl) rfl rfl ?_; clear M T; intro ga6 cga6 wc ac M T
   refine Zso hK _ _ (MA.mk (fun _ => M.mask [false, false, false, false, true, true, false] rfl) (MA.mk (fun h => (no_of (by kernel_rfl) h).elim) (M.mask [false, false, false, false, false, true, false] rfl))) ?_; clear hK K
   refine gw 13 16383 ?_; intro K hK
   refine Zos M T rfl rfl (T.e 1 rfl) (T.e 2 rfl) rfl (.tail (.tail (.tail (.tail .head)))) rfl (by simp) rfl (by kernel_rfl) ?_; clear M T; intro wc ac M T
   refine Zso hK _ _ (MA.mk (fun h => (no_of (by kernel_rfl) h).elim) (MA.mk (fun h => (no_of (by kernel_rfl) h).elim) (M.mask [false, false, false, false, false, true, false] rfl))) ?_; clear hK K
   refine g_q (v := (.slice (some ⟨ga6, 0, none⟩) (tn.length + 1) cga6)) (T := T.pick [0, 1, 2, 3, 4, 5, 6, 7, 8, 9, 10, 11, 12, 13, 14, 15, 16, 17, 18, 19, 21] rfl) (i := 14) rfl (by kernel_rfl) (by kernel_rfl : (Zpb 15 16383).setIfInBounds 14 true = Zpb 15 32767) (si_and (si_G rfl) (si_and (si_G rfl) si_U)) (fun _ _ _ h => h) rfl rfl rfl rfl (fun _ _ _ _ _ => (Zra rfl (T.e 0 rfl))) ?_; clear T ac; intro ac T
   refine Zgd (by kernel_rfl) ?_
   replace T := T.pick [0, 15, 16, 17, 18, 19, 20, 21] rfl
   replace M := M.mask [true, true, false, false, true, true, true] rfl
   refine Znb ?_
   refine nm_then ?_
   refine wp_region_lit ?_
   refine Zg2 T (Zq (Zrm rfl (T.e 7 rfl))) rfl (fun _ T => Zq (rn_sub rfl (T.e 0 rfl) evc (by omega))) rfl ?_; clear T ac; intro ac T
   refine l_q (v := (.int .i64 (i - 1))) (T.pick [0, 1, 2, 3, 4, 5, 6, 7, 8] rfl) rfl rfl rfl rfl (Zra rfl (T.e 0 rfl)) ?_; clear T ac; intro ac T
   replace T := T.pick [0, 3, 4, 5, 6, 7, 8, 9] rfl
   refine Zln ?_
   have e9a : ol.length + 1 = (ol ++ [xur8_5]).length := by simp
   have e8a : ((sc ol) ++ [.int .i64 xur8_5.t0, .int .i64 xur8_5.t1, .int .i64 xur8_5.s0, .int .i64 xur8_5.s1]) = sc (ol ++ [xur8_5]) := by rw [← sc_snoc]
   rw [e9a, e8a] at M
   (try rw [e9a] at T)
   have e9b : tn.length + 1 = (tn ++ [xu5]).length := by simp
   have e8b : ((ic tn) ++ [.int .i64 xu5]) = ic (tn ++ [xu5]) := by rw [← ic_snoc]
   rw [e9b, e8b] at M
   (try rw [e9b] at T)
   exact ⟨_, by omega, (i - 1), (ol ++ [xur8_5]), _, _, (tn ++ [xu5]), _, _, sur8_5, [(ga6, .row 3 1 (tn ++ [xu5]).length (ic (tn ++ [xu5])) cga6)], [(ga5, .row 32 4 (ol ++ [xur8_5]).length (sc (ol ++ [xur8_5])) cga5)], rfl, (by omega), (by simp only [List.length_append, List.length_cons, List.length_nil]; omega), (by simp only [List.length_append, List.length_cons, List.length_nil]; omega), (fun z hz => by rcases List.mem_append.1 hz with h9 | h9; exact hgo z h9; simp only [List.mem_cons, List.not_mem_nil, or_false] at h9; subst h9; exact hxur8_5), (fun z hz => by rcases List.mem_append.1 hz with h9 | h9; exact htn z h9; simp only [List.mem_cons, List.not_mem_nil, or_false] at h9; subst h9; omega), hsur8_5, (Sl.row _ _ _ _ _ _), (Sl.row _ _ _ _ _ _), T.pick [2, 3, 4, 5, 6, 7, 1, 0] rfl, M.perm [2, 3, 4, 0, 1] rfl rfl⟩
  refine gi 1823 ?_; intro K hK
  refine ow_bs (e := 3) [.int .i64 xu5] M T rfl rfl rfl rfl (.cons (T.e 0 rfl) .nil) (fun _ => by kernel_rfl) ?_; clear M T; intro gr8_10 wc ac M T
  refine Zso hK _ _ (MA.mk (fun _ => M.perm [1, 2] rfl rfl) (MA.mk (fun _ => M.perm [1, 2, 3] rfl rfl) (M.perm [2] rfl rfl))) ?_; clear hK K
  refine gw 5 1855 ?_; intro K hK
  refine Zoc (first := []) (cap := []) T rfl rfl rfl rfl evf (.cons (T.e 5 rfl) (.cons (T.e 4 rfl) (.cons (T.e 3 rfl) .nil))) Tryz.func53 rfl rfl ?_
  refine Calls.mono (soundOf_any _ bp xu5 wide _ (by omega) (by omega) (M.nth 3 rfl) hsu5) ?_
  clear T; rintro e wc ⟨xur8_5, sur8_5, hxur8_5, hsur8_5, rfl, hgr, hbk⟩ ac T
  replace M := M.callC (cs' := [.int .u64 sur8_5]) (.tail (.tail (.tail .head))) hgr hbk
  clear hgr hbk
  refine Zso hK _ _ (MA.mk (fun _ => M.perm [1, 2] rfl rfl) (MA.mk (fun h => (no_of (by kernel_rfl) h).elim) (M.perm [2] rfl rfl))) ?_; clear hK K
  refine gw 6 1919 ?_; intro K hK
  refine ow_bs (e := 32) [.int .i64 xur8_5.t0, .int .i64 xur8_5.t1, .int .i64 xur8_5.s0, .int .i64 xur8_5.s1] M T rfl rfl rfl rfl (.cons (T.e 0 rfl) .nil) (fun _ => by kernel_rfl) ?_; clear M T; intro gr8_6 wc ac M T
  refine Zso hK _ _ (MA.mk (fun _ => M.perm [2, 3] rfl rfl) (MA.mk (fun h => (no_of (by kernel_rfl) h).elim) (M.perm [3] rfl rfl))) ?_; clear hK K
  refine gw 7 2047 ?_; intro K hK
  refine ow_app (((gr8_6, .cells [.int .i64 xur8_5.t0, .int .i64 xur8_5.t1, .int .i64 xur8_5.s0, .int .i64 xur8_5.s1]) :: (gr8_10, .cells [.int .i64 xu5]) :: (g2, .cells [.int .i64 lu1.first, .int .i64 lu1.step, .int .i64 lu1.span, .int .i64 lu1.press, .int .i64 xu2, .slice A3 ol.length c3, .slice none 0 0, .int .i64 0, .int .i64 0, .int .i64 0, .int .i64 0, .int .i64 0, .int .i64 0, .int .i64 0, .int .i64 0, .int .i64 0, .int .i64 0, .int .i64 0, .int .i64 0, .int .i64 0, .int .i64 xu3]) :: (g1, .cells [.int .i64 0, .int .i64 0, .int .i64 0, .int .i64 0, .int .i64 0, .slice none 0 0, .slice none 0 0, .int .i64 0, .int .i64 0, .int .i64 0, .int .i64 0, .int .i64 0, .int .i64 0, .int .i64 0, .int .i64 0, .int .i64 0, .int .i64 0, .int .i64 0, .int .i64 0, .int .i64 0, .int .i64 0]) :: (bp, .cells [.int .u64 sur8_5]) :: Ii)) Tryz.info32 hsl M (by first | rfl | simp) T rfl rfl rfl rfl Tryz.underlying24 rfl rfl rfl (by omega) (T.e 8 rfl) (T.e 0 rfl) (Zne (i := 0) rfl) rfl rfl ?_; clear M T; intro ga7 cga7 wc ac M T
  refine Zso hK _ _ (MA.mk (fun _ => M.perm [3, 4] rfl rfl) (MA.mk (fun h => (no_of (by kernel_rfl) h).elim) (M.perm [4] rfl rfl))) ?_; clear hK K
  refine gq (v := (.pointer (some ⟨g2, 5, none⟩))) T 12 6143 rfl (fun _ _ _ _ _ => (Zrf (off := 5) rfl (T.e 16 rfl) (fun _ _ _ => by kernel_rfl))) ?_; clear T ac; intro ac T
  refine gw 11 8191 ?_; intro K hK
  refine ow_app ([(ga7, .row 32 4 (ol.length + 1) ((sc ol) ++ [.int .i64 xur8_5.t0, .int .i64 xur8_5.t1, .int .i64 xur8_5.s0, .int .i64 xur8_5.s1]) cga7), (gr8_6, .cells [.int .i64 xur8_5.t0, .int .i64 xur8_5.t1, .int .i64 xur8_5.s0, .int .i64 xur8_5.s1]), (gr8_10, .cells [.int .i64 xu5]), (g2, .cells [.int .i64 lu1.first, .int .i64 lu1.step, .int .i64 lu1.span, .int .i64 lu1.press, .int .i64 xu2, .slice A3 ol.length c3, .slice none 0 0, .int .i64 0, .int .i64 0, .int .i64 0, .int .i64 0, .int .i64 0, .int .i64 0, .int .i64 0, .int .i64 0, .int .i64 0, .int .i64 0, .int .i64 0, .int .i64 0, .int .i64 0, .int .i64 xu3]), (g1, .cells [.int .i64 0, .int .i64 0, .int .i64 0, .int .i64 0, .int .i64 0, .slice none 0 0, .slice none 0 0, .int .i64 0, .int .i64 0, .int .i64 0, .int .i64 0, .int .i64 0, .int .i64 0, .int .i64 0, .int .i64 0, .int .i64 0, .int .i64 0, .int .i64 0, .int .i64 0, .int .i64 0, .int .i64 0]), (bp, .cells [.int .u64 sur8_5])]) Tryz.info3 hsm M (by first | rfl | simp) T rfl rfl rfl rfl Tryz.underlying33 rfl rfl rfl (by omega) (T.e 6 rfl) (T.e 4 rfl) (Zne (i := 2) rfl) rfl rfl ?_; clear M T; intro ga8 cga8 wc ac M T
  refine Zso hK _ _ (MA.mk (fun _ => M.mask [false, false, false, false, true, true, false] rfl) (MA.mk (fun h => (no_of (by kernel_rfl) h).elim) (M.mask [false, false, false, false, false, true, false] rfl))) ?_; clear hK K
  refine gw 13 16383 ?_; intro K hK
  refine Zos M T rfl rfl (T.e 1 rfl) (T.e 2 rfl) rfl (.tail (.tail (.tail (.tail .head)))) rfl (by simp) rfl (by kernel_rfl) ?_; clear M T; intro wc ac M T
  refine Zso hK _ _ (MA.mk (fun h => (no_of (by kernel_rfl) h).elim) (MA.mk (fun h => (no_of (by kernel_rfl) h).elim) (M.mask [false, false, false, false, false, true, false] rfl))) ?_; clear hK K
  refine g_q (v := (.slice (some ⟨ga8, 0, none⟩) (tn.length + 1) cga8)) (T := T.pick [0, 1, 2, 3, 4, 5, 6, 7, 8, 9, 10, 11, 12, 13, 14, 15, 16, 17, 18, 19, 21] rfl) (i := 14) rfl (by kernel_rfl) (by kernel_rfl : (Zpb 15 16383).setIfInBounds 14 true = Zpb 15 32767) (si_and (si_G rfl) (si_and (si_G rfl) si_U)) (fun _ _ _ h => h) rfl rfl rfl rfl (fun _ _ _ _ _ => (Zra rfl (T.e 0 rfl))) ?_; clear T ac; intro ac T
  refine Zgd (by kernel_rfl) ?_
  replace T := T.pick [0, 15, 16, 17, 18, 19, 20, 21] rfl
  replace M := M.mask [true, true, false, false, true, true, true] rfl
  refine Znb ?_
  refine nm_then ?_
  refine wp_region_lit ?_
  refine Zg2 T (Zq (Zrm rfl (T.e 7 rfl))) rfl (fun _ T => Zq (rn_sub rfl (T.e 0 rfl) evc (by omega))) rfl ?_; clear T ac; intro ac T
  refine l_q (v := (.int .i64 (i - 1))) (T.pick [0, 1, 2, 3, 4, 5, 6, 7, 8] rfl) rfl rfl rfl rfl (Zra rfl (T.e 0 rfl)) ?_; clear T ac; intro ac T
  replace T := T.pick [0, 3, 4, 5, 6, 7, 8, 9] rfl
  refine Zln ?_
  have e9a : ol.length + 1 = (ol ++ [xur8_5]).length := by simp
  have e8a : ((sc ol) ++ [.int .i64 xur8_5.t0, .int .i64 xur8_5.t1, .int .i64 xur8_5.s0, .int .i64 xur8_5.s1]) = sc (ol ++ [xur8_5]) := by rw [← sc_snoc]
  rw [e9a, e8a] at M
  (try rw [e9a] at T)
  have e9b : tn.length + 1 = (tn ++ [xu5]).length := by simp
  have e8b : ((ic tn) ++ [.int .i64 xu5]) = ic (tn ++ [xu5]) := by rw [← ic_snoc]
  rw [e9b, e8b] at M
  (try rw [e9b] at T)
  exact ⟨_, by omega, (i - 1), (ol ++ [xur8_5]), _, _, (tn ++ [xu5]), _, _, sur8_5, [(ga8, .row 3 1 (tn ++ [xu5]).length (ic (tn ++ [xu5])) cga8)], [(ga7, .row 32 4 (ol ++ [xur8_5]).length (sc (ol ++ [xur8_5])) cga7)], rfl, (by omega), (by simp only [List.length_append, List.length_cons, List.length_nil]; omega), (by simp only [List.length_append, List.length_cons, List.length_nil]; omega), (fun z hz => by rcases List.mem_append.1 hz with h9 | h9; exact hgo z h9; simp only [List.mem_cons, List.not_mem_nil, or_false] at h9; subst h9; exact hxur8_5), (fun z hz => by rcases List.mem_append.1 hz with h9 | h9; exact htn z h9; simp only [List.mem_cons, List.not_mem_nil, or_false] at h9; subst h9; omega), hsur8_5, (Sl.row _ _ _ _ _ _), (Sl.row _ _ _ _ _ _), T.pick [2, 3, 4, 5, 6, 7, 1, 0] rfl, M.perm [2, 3, 4, 0, 1] rfl rfl⟩
 intro h1
 refine wp_exit ?_
 refine Zet ?_
 refine Zet ?_
 refine ex_hit ?_
 refine Zns ?_
 refine Zsr ?_
 refine Zg3 T (Zq (Zrm rfl (T.e 1 rfl))) rfl (Zm 3 rfl rfl) rfl (fun _ T => Zq (rn_min2 rfl (T.e 0 rfl) evc)) rfl ?_; clear T ac; intro ac T
 refine Zl2 ?_
 refine Zoc (first := []) (cap := []) T rfl rfl rfl rfl evf (.cons (T.e 2 rfl) (.cons (T.e 0 rfl) .nil)) Tryz.func20 rfl rfl ?_
 refine Calls.mono (upto_any _ bp (min nhi 5) _ (by omega) (by omega) (M.nth 2 rfl) hs) ?_
 clear T; rintro e wc ⟨xu6, su6, hxu6, hsu6, rfl, hgr, hbk⟩ ac T
 replace M := M.callC (cs' := [.int .u64 su6]) (.tail (.tail .head)) hgr hbk
 clear hgr hbk
 refine lq T (Zra rfl (T.e 0 rfl)) ?_; clear T ac; intro ac T
 replace T := T.pick [0, 6, 8, 9, 10, 11, 12] rfl
 refine Zln ?_
 refine wp_block ?_
 obtain ⟨bt, ot, St0⟩ := hsm.spV (by rw [ic_length]; omega)
 have St := St0 w (fun b => b = bp)
 refine wp_loop_n (fun mz ac wc => ∃ (q : Int) (oh : List Snd) (A5 : Option Addr) (c5 : Nat) (s : Int) (Ih : List (Nat × BA)), mz = q.toNat ∧ (0 ≤ q) ∧ ((oh.length : Int) + q = xu6) ∧ (∀ z ∈ oh, z.good) ∧ (u64ok s) ∧ (Sl 32 4 (.slice A5 oh.length c5) oh.length (sc oh) Ih) ∧ Tm ac 115 [(0, .pointer (some ⟨bp, 0, none⟩)), (3, .int .i64 wide), (8, .pointer (some ⟨g1, 0, none⟩)), (9, .pointer (some ⟨g2, 0, none⟩)), (10, .int .i64 (lu1.first + (lu1.step * xu2))), (11, .slice A4 tn.length c4), (14, .int .i64 q)] ∧ Mem w (fun b => b = bp) wc ((g2, .cells [.int .i64 lu1.first, .int .i64 lu1.step, .int .i64 lu1.span, .int .i64 lu1.press, .int .i64 xu2, .slice A3 ol.length c3, .slice A5 oh.length c5, .int .i64 0, .int .i64 0, .int .i64 0, .int .i64 0, .int .i64 0, .int .i64 0, .int .i64 0, .int .i64 0, .int .i64 0, .int .i64 0, .int .i64 0, .int .i64 0, .int .i64 0, .int .i64 xu3]) :: (g1, .cells [.int .i64 0, .int .i64 0, .int .i64 0, .int .i64 0, .int .i64 0, .slice none 0 0, .slice none 0 0, .int .i64 0, .int .i64 0, .int .i64 0, .int .i64 0, .int .i64 0, .int .i64 0, .int .i64 0, .int .i64 0, .int .i64 0, .int .i64 0, .int .i64 0, .int .i64 0, .int .i64 0, .int .i64 0]) :: (bp, .cells [.int .u64 s]) :: (Ii ++ Io ++ Ih))) ?_ ?_
 ·exact ⟨_, _, [], none, 0, _, [], rfl, (by omega), (by simp), (fun z hz => by cases hz), hsu6, (Sl.nil _ _), T.pick [1, 2, 3, 4, 5, 6, 0] rfl, (by simp only [List.append_nil]; exact M)⟩
 clear T M
 rintro mz ac wc ⟨q, oh, A5, c5, s, Ih, hmm2, hi2, hoh, hgh, hs2, hsh, T, M⟩
 refine wp_seq ?_
 refine Zsr ?_
 refine Zg2 T (Zq (Zrm rfl (T.e 6 rfl))) rfl (fun _ T => Zq (rn_gtr rfl (T.e 0 rfl) evc)) rfl ?_; clear T ac; intro ac T
 replace T := T.pick [0, 2, 3, 4, 5, 6, 7, 8] rfl
 refine Zln ?_
 refine wp_if (T.e 0 rfl) ?_ ?_
 ·intro h2
  refine Zsk ?_
  refine wp_seq ?_
  refine wp_block ?_
  refine Zsr ?_
  refine lq T (Zrm rfl (T.e 1 rfl)) ?_; clear T ac; intro ac T
  refine Zl2 ?_
  refine Zoc (first := []) (cap := []) T rfl rfl rfl rfl evf (.cons (T.e 0 rfl) (.cons evc (.cons evc .nil))) Tryz.func52 rfl rfl ?_
  refine Calls.mono (within_pot _ bp (-5) 5 _ (by omega) (by omega) (by omega) (M.nth 2 rfl) hs2) ?_
  clear T; rintro e wc ⟨xu7, su7, hxu7, hsu7, rfl, hgr, hbk⟩ ac T
  replace M := M.callC (cs' := [.int .u64 su7]) (.tail (.tail .head)) hgr hbk
  clear hgr hbk
  refine lq T (Zra rfl (T.e 0 rfl)) ?_; clear T ac; intro ac T
  replace T := T.pick [0, 4, 5, 6, 7, 8, 9, 10] rfl
  refine Zln ?_
  refine wp_seq ?_
  refine Zsr ?_
  refine Zg3 T (Zq (Zrm rfl (T.e 6 rfl))) rfl (Zl Tryz.underlying33 0 rfl rfl) rfl (fun _ T => Zq (rn_gtr rfl (T.e 0 rfl) evc)) rfl ?_; clear T ac; intro ac T
  replace T := T.pick [0, 3, 4, 5, 6, 7, 8, 9, 10] rfl
  refine Zln ?_
  refine wp_if (T.e 0 rfl) ?_ ?_
  ·intro h3
   refine Zgs M (M.mask [true, true, false] rfl) 21 (by kernel_rfl) rfl (by kernel_rfl) ?_
   clear M; intro wc M
   refine g_addG 5 M ?_
   refine gq T 0 1 rfl (fun _ _ _ _ _ => (Zrm rfl (T.e 7 rfl))) ?_; clear T ac; intro ac T
   refine gq T 1 3 rfl (fun _ _ _ _ _ => (Zrm rfl (T.e 3 rfl))) ?_; clear T ac; intro ac T
   refine gq T 2 7 rfl (fun _ _ _ _ _ => (Zrm rfl (T.e 9 rfl))) ?_; clear T ac; intro ac T
   refine gq T 3 15 rfl (fun _ _ _ _ _ => (Zrl rfl Tryz.underlying33 (T.e 0 rfl))) ?_; clear T ac; intro ac T
   refine gq T 4 31 rfl (fun _ _ _ _ _ => (rn_sub rfl (T.e 0 rfl) evc (by omega))) ?_; clear T ac; intro ac T
   refine gq T 8 287 rfl (fun _ _ _ _ _ => (Zrm rfl (T.e 7 rfl))) ?_; clear T ac; intro ac T
   refine gq (v := (.pointer (some ⟨g2, 0, none⟩))) T 9 799 rfl (fun _ _ _ _ _ => (Zrf (off := 0) rfl (T.e 11 rfl) (fun _ _ _ => by kernel_rfl))) ?_; clear T ac; intro ac T
   refine gq (v := (.pointer (some ⟨g2, 2, none⟩))) T 10 1823 rfl (fun _ _ _ _ _ => (Zrf (off := 2) rfl (T.e 0 rfl) (fun _ _ _ => by kernel_rfl))) ?_; clear T ac; intro ac T
   refine gq T 11 3871 rfl (fun B w' hD hl hS => (Zro (Mem.nth (show Mem w (fun b => b = bp) w' _ from (MA.rgt hS)) 0 rfl) rfl (T.e 0 rfl) rfl)) ?_; clear T ac; intro ac T
   refine gq T 12 7967 rfl (fun _ _ _ _ _ => (rn_neg rfl (T.e 0 rfl) (by omega))) ?_; clear T ac; intro ac T
   refine gq T 13 16159 rfl (fun _ _ _ _ _ => (rn_sub rfl (T.e 0 rfl) evc (by omega))) ?_; clear T ac; intro ac T
   refine gq (v := (.pointer (some ⟨g2, 0, none⟩))) T 14 32543 rfl (fun _ _ _ _ _ => (Zrf (off := 0) rfl (T.e 16 rfl) (fun _ _ _ => by kernel_rfl))) ?_; clear T ac; intro ac T
   refine gq (v := (.pointer (some ⟨g2, 2, none⟩))) T 15 65311 rfl (fun _ _ _ _ _ => (Zrf (off := 2) rfl (T.e 0 rfl) (fun _ _ _ => by kernel_rfl))) ?_; clear T ac; intro ac T
   refine gq T 16 130847 rfl (fun B w' hD hl hS => (Zro (Mem.nth (show Mem w (fun b => b = bp) w' _ from (MA.rgt hS)) 0 rfl) rfl (T.e 0 rfl) rfl)) ?_; clear T ac; intro ac T
   refine gq T 17 261919 rfl (fun _ _ _ _ _ => (rn_add rfl (T.e 0 rfl) evc (by omega))) ?_; clear T ac; intro ac T
   refine gw 5 261951 ?_; intro K hK
   refine Zoc (first := []) (cap := []) T rfl rfl rfl rfl evf (.cons (T.e 13 rfl) (.cons (T.e 10 rfl) .nil)) Tryz.func20 rfl rfl ?_
   refine Calls.mono (upto_any _ bp (((tn.length : Nat) : Int) - 1) _ (by omega) (by omega) (M.nth 2 rfl) hsu7) ?_
   clear T; rintro e wc ⟨xu8, su8, hxu8, hsu8, rfl, hgr, hbk⟩ ac T
   replace M := M.callC (cs' := [.int .u64 su8]) (.tail (.tail .head)) hgr hbk
   clear hgr hbk
   obtain ⟨kuu8, hkuu8⟩ : ∃ k : Nat, xu8 = (k : Int) := ⟨xu8.toNat, by omega⟩
   obtain ⟨ntu8, hntu8, -⟩ := ic_next (l := tn) (k := kuu8) (by omega)
   have hntbu8 := htn _ (List.mem_of_getElem? hntu8)
   refine Zso hK _ _ (MA.mk (fun h => (no_of (by kernel_rfl) h).elim) (M.mask [true, true, false] rfl)) ?_; clear hK K
   refine g_addG 18 M ?_
   refine gq T 6 262015 rfl (fun _ _ _ _ _ => (Zri (size := 1) kuu8 rfl (T.e 15 rfl) (T.e 0 rfl) ⟨_, Tryz.underlying33, by kernel_rfl⟩ hkuu8 (by omega) (St.at0 (by omega)))) ?_; clear T ac; intro ac T
   refine gq T 7 262143 rfl (fun B w' hD hl hS => (rn_cell (Sp.ic0 St (show Mem w (fun b => b = bp) w' _ from (MA.rgt (MA.rgt hS))) (.cons _ (.cons _ (subL (subL (List.Sublist.refl _))))) hntu8) rfl (T.e 0 rfl))) ?_; clear T ac; intro ac T
   refine gw 18 524287 ?_; intro K hK
   refine Zoc (first := []) (cap := []) T rfl rfl rfl rfl evf (.cons (T.e 12 rfl) (.cons (T.e 7 rfl) (.cons (T.e 3 rfl) .nil))) Tryz.func52 rfl rfl ?_
   refine Calls.mono (within_pot _ bp ((-lu1.span) - 3) (lu1.span + 3) _ (by omega) (by omega) (by omega) (M.nth 2 rfl) hsu8) ?_
   clear T; rintro e wc ⟨xu9, su9, hxu9, hsu9, rfl, hgr, hbk⟩ ac T
   replace M := M.callC (cs' := [.int .u64 su9]) (.tail (.tail .head)) hgr hbk
   clear hgr hbk
   refine Zso hK _ _ (MA.mk (fun h => (no_of (by kernel_rfl) h).elim) (MA.mk (fun h => (no_of (by kernel_rfl) h).elim) (M.mask [true, true, false] rfl))) ?_; clear hK K
   refine gq T 19 1048575 rfl (fun _ _ _ _ _ => (rn_add rfl (T.e 1 rfl) (T.e 0 rfl) (by omega))) ?_; clear T ac; intro ac T
   refine g_q (v := (.int .i64 (ntu8 + xu9))) (T := T.pick [0, 1, 2, 3, 4, 5, 6, 7, 8, 9, 10, 11, 12, 13, 14, 15, 16, 17, 18, 19, 20, 22, 23, 24, 25, 26, 27, 28] rfl) (i := 20) rfl (by kernel_rfl) (by kernel_rfl : (Zpb 21 1048575).setIfInBounds 20 true = Zpb 21 2097151) (si_and (si_G rfl) (si_and (si_G rfl) si_U)) (fun _ _ _ h => h) rfl rfl rfl rfl (fun _ _ _ _ _ => (Zra rfl (T.e 0 rfl))) ?_; clear T ac; intro ac T
   refine Zgd (by kernel_rfl) ?_
   replace T := T.pick [0, 22, 23, 24, 25, 26, 27, 28] rfl
   refine nm_then ?_
   refine Zgs M (M.perm [1] rfl rfl) 12 (by kernel_rfl) rfl (by kernel_rfl) ?_
   clear M; intro wc M
   refine g_addG 7 (M.perm [0, 1, 2] rfl rfl) ?_
   refine g_addG 11 (M.perm [0, 1] rfl rfl) ?_
   refine gq (v := (.pointer (some ⟨g2, 6, none⟩))) T 0 1 rfl (fun _ _ _ _ _ => (Zrf (off := 6) rfl (T.e 4 rfl) (fun _ _ _ => by kernel_rfl))) ?_; clear T ac; intro ac T
   refine gq T 1 3 rfl (fun B w' hD hl hS => (Zro (Mem.nth (show Mem w (fun b => b = bp) w' _ from ((MA.lft hS) (hD.wait (i := 1) (m := 11) (by kernel_rfl) hl))) 0 rfl) rfl (T.e 0 rfl) rfl)) ?_; clear T ac; intro ac T
   refine gq T 2 7 rfl (fun _ _ _ _ _ => (Zrm rfl (T.e 3 rfl))) ?_; clear T ac; intro ac T
   refine gq T 3 15 rfl (fun _ _ _ _ _ => (Zrm rfl (T.e 3 rfl))) ?_; clear T ac; intro ac T
   refine gq T 4 31 rfl (fun _ _ _ _ _ => (Zrm rfl (T.e 9 rfl))) ?_; clear T ac; intro ac T
   refine gq T 5 63 rfl (fun _ _ _ _ _ => (rn_add rfl (T.e 1 rfl) (T.e 0 rfl) (by omega))) ?_; clear T ac; intro ac T
   refine gq T 6 127 rfl (fun _ _ _ _ _ => (Zrm rfl (T.e 8 rfl))) ?_; clear T ac; intro ac T
   refine gw 7 255 ?_; intro K hK
   refine Zoc (first := []) (cap := []) T rfl rfl rfl rfl evf (.cons (T.e 4 rfl) (.cons (T.e 1 rfl) (.cons (T.e 0 rfl) .nil))) Tryz.func53 rfl rfl ?_
   refine Calls.mono (soundOf_any _ bp ((ntu8 + xu9) + (lu1.first + (lu1.step * xu2))) wide _ (by omega) (by omega) (M.nth 2 rfl) hsu9) ?_
   clear T; rintro e wc ⟨xu10, su10, hxu10, hsu10, rfl, hgr, hbk⟩ ac T
   replace M := M.callC (cs' := [.int .u64 su10]) (.tail (.tail .head)) hgr hbk
   clear hgr hbk
   refine Zso hK _ _ (MA.mk (fun _ => M.perm [0, 1] rfl rfl) (MA.mk (fun h => (no_of (by kernel_rfl) h).elim) (M.perm [1] rfl rfl))) ?_; clear hK K
   refine gw 8 511 ?_; intro K hK
   refine ow_bs (e := 32) [.int .i64 xu10.t0, .int .i64 xu10.t1, .int .i64 xu10.s0, .int .i64 xu10.s1] M T rfl rfl rfl rfl (.cons (T.e 0 rfl) .nil) (fun _ => by kernel_rfl) ?_; clear M T; intro g3 wc ac M T
   refine Zso hK _ _ (MA.mk (fun _ => M.perm [1, 2] rfl rfl) (MA.mk (fun h => (no_of (by kernel_rfl) h).elim) (M.perm [2] rfl rfl))) ?_; clear hK K
   refine gw 9 1023 ?_; intro K hK
   refine ow_app (((g3, .cells [.int .i64 xu10.t0, .int .i64 xu10.t1, .int .i64 xu10.s0, .int .i64 xu10.s1]) :: (g2, .cells [.int .i64 lu1.first, .int .i64 lu1.step, .int .i64 lu1.span, .int .i64 lu1.press, .int .i64 xu2, .slice A3 ol.length c3, .slice A5 oh.length c5, .int .i64 0, .int .i64 0, .int .i64 0, .int .i64 0, .int .i64 0, .int .i64 0, .int .i64 0, .int .i64 0, .int .i64 0, .int .i64 0, .int .i64 0, .int .i64 0, .int .i64 0, .int .i64 xu3]) :: (g1, .cells [.int .i64 0, .int .i64 0, .int .i64 0, .int .i64 0, .int .i64 0, .slice none 0 0, .slice none 0 0, .int .i64 0, .int .i64 0, .int .i64 0, .int .i64 0, .int .i64 0, .int .i64 0, .int .i64 0, .int .i64 0, .int .i64 0, .int .i64 0, .int .i64 0, .int .i64 0, .int .i64 0, .int .i64 0]) :: (bp, .cells [.int .u64 su10]) :: (Ii ++ Io))) Tryz.info32 hsh M (by first | rfl | simp) T rfl rfl rfl rfl Tryz.underlying24 rfl rfl rfl (by omega) (T.e 7 rfl) (T.e 0 rfl) (Zne (i := 0) rfl) rfl rfl ?_; clear M T; intro ga9 cga9 wc ac M T
   refine Zso hK _ _ (MA.mk (fun _ => M.perm [2, 3] rfl rfl) (MA.mk (fun h => (no_of (by kernel_rfl) h).elim) (M.perm [3] rfl rfl))) ?_; clear hK K
   refine gq (v := (.pointer (some ⟨g2, 6, none⟩))) T 10 2047 rfl (fun _ _ _ _ _ => (Zrf (off := 6) rfl (T.e 14 rfl) (fun _ _ _ => by kernel_rfl))) ?_; clear T ac; intro ac T
   refine gw 11 4095 ?_; intro K hK
   refine Zos M T rfl rfl (T.e 0 rfl) (T.e 1 rfl) rfl (.tail (.tail .head)) rfl (by simp) rfl (by kernel_rfl) ?_; clear M T; intro wc ac M T
   refine Zso hK _ _ (MA.mk (fun h => (no_of (by kernel_rfl) h).elim) (MA.mk (fun h => (no_of (by kernel_rfl) h).elim) (M.perm [3] rfl rfl))) ?_; clear hK K
   refine Zgd (by kernel_rfl) ?_
   replace T := T.pick [12, 13, 14, 15, 16, 17, 18] rfl
   replace M := M.mask [true, false, true, true, true] rfl
   refine Znb ?_
   refine nm_then ?_
   refine wp_region_lit ?_
   refine Zg2 T (Zq (Zrm rfl (T.e 6 rfl))) rfl (fun _ T => Zq (rn_sub rfl (T.e 0 rfl) evc (by omega))) rfl ?_; clear T ac; intro ac T
   refine l_q (v := (.int .i64 (q - 1))) (T.pick [0, 1, 2, 3, 4, 5, 6, 7] rfl) rfl rfl rfl rfl (Zra rfl (T.e 0 rfl)) ?_; clear T ac; intro ac T
   replace T := T.pick [0, 3, 4, 5, 6, 7, 8] rfl
   refine Zln ?_
   have e9a : oh.length + 1 = (oh ++ [xu10]).length := by simp
   have e8a : ((sc oh) ++ [.int .i64 xu10.t0, .int .i64 xu10.t1, .int .i64 xu10.s0, .int .i64 xu10.s1]) = sc (oh ++ [xu10]) := by rw [← sc_snoc]
   rw [e9a, e8a] at M
   (try rw [e9a] at T)
   exact ⟨_, by omega, (q - 1), (oh ++ [xu10]), _, _, su10, [(ga9, .row 32 4 (oh ++ [xu10]).length (sc (oh ++ [xu10])) cga9)], rfl, (by omega), (by simp only [List.length_append, List.length_cons, List.length_nil]; omega), (fun z hz => by rcases List.mem_append.1 hz with h9 | h9; exact hgh z h9; simp only [List.mem_cons, List.not_mem_nil, or_false] at h9; subst h9; exact hxu10), hsu10, (Sl.row _ _ _ _ _ _), T.pick [1, 2, 3, 4, 5, 6, 0] rfl, (Mem.spin [(g2, .cells [.int .i64 lu1.first, .int .i64 lu1.step, .int .i64 lu1.span, .int .i64 lu1.press, .int .i64 xu2, .slice A3 ol.length c3, .slice (some ⟨ga9, 0, none⟩) ((oh ++ [xu10]).length) cga9, .int .i64 0, .int .i64 0, .int .i64 0, .int .i64 0, .int .i64 0, .int .i64 0, .int .i64 0, .int .i64 0, .int .i64 0, .int .i64 0, .int .i64 0, .int .i64 0, .int .i64 0, .int .i64 xu3]), (g1, .cells [.int .i64 0, .int .i64 0, .int .i64 0, .int .i64 0, .int .i64 0, .slice none 0 0, .slice none 0 0, .int .i64 0, .int .i64 0, .int .i64 0, .int .i64 0, .int .i64 0, .int .i64 0, .int .i64 0, .int .i64 0, .int .i64 0, .int .i64 0, .int .i64 0, .int .i64 0, .int .i64 0, .int .i64 0]), (bp, .cells [.int .u64 su10])] [(ga9, .row 32 4 (oh ++ [xu10]).length (sc (oh ++ [xu10])) cga9)] (Ii ++ Io) (M.permT [1, 2, 3, 0] 4 rfl rfl rfl rfl))⟩
  intro h3
  refine Zsk ?_
  refine Zgs M (M.perm [1] rfl rfl) 12 (by kernel_rfl) rfl (by kernel_rfl) ?_
  clear M; intro wc M
  refine g_addG 7 (M.perm [0, 1, 2] rfl rfl) ?_
  refine g_addG 11 (M.perm [0, 1] rfl rfl) ?_
  refine gq (v := (.pointer (some ⟨g2, 6, none⟩))) T 0 1 rfl (fun _ _ _ _ _ => (Zrf (off := 6) rfl (T.e 5 rfl) (fun _ _ _ => by kernel_rfl))) ?_; clear T ac; intro ac T
  refine gq T 1 3 rfl (fun B w' hD hl hS => (Zro (Mem.nth (show Mem w (fun b => b = bp) w' _ from ((MA.lft hS) (hD.wait (i := 1) (m := 11) (by kernel_rfl) hl))) 0 rfl) rfl (T.e 0 rfl) rfl)) ?_; clear T ac; intro ac T
  refine gq T 2 7 rfl (fun _ _ _ _ _ => (Zrm rfl (T.e 4 rfl))) ?_; clear T ac; intro ac T
  refine gq T 3 15 rfl (fun _ _ _ _ _ => (Zrm rfl (T.e 4 rfl))) ?_; clear T ac; intro ac T
  refine gq T 4 31 rfl (fun _ _ _ _ _ => (Zrm rfl (T.e 10 rfl))) ?_; clear T ac; intro ac T
  refine gq T 5 63 rfl (fun _ _ _ _ _ => (rn_add rfl (T.e 1 rfl) (T.e 0 rfl) (by omega))) ?_; clear T ac; intro ac T
  refine gq T 6 127 rfl (fun _ _ _ _ _ => (Zrm rfl (T.e 9 rfl))) ?_; clear T ac; intro ac T
  refine gw 7 255 ?_; intro K hK
  refine Zoc (first := []) (cap := []) T rfl rfl rfl rfl evf (.cons (T.e 4 rfl) (.cons (T.e 1 rfl) (.cons (T.e 0 rfl) .nil))) Tryz.func53 rfl rfl ?_
  refine Calls.mono (soundOf_any _ bp (xu7 + (lu1.first + (lu1.step * xu2))) wide _ (by omega) (by omega) (M.nth 2 rfl) hsu7) ?_
  clear T; rintro e wc ⟨xu11, su11, hxu11, hsu11, rfl, hgr, hbk⟩ ac T
  replace M := M.callC (cs' := [.int .u64 su11]) (.tail (.tail .head)) hgr hbk
  clear hgr hbk
  refine Zso hK _ _ (MA.mk (fun _ => M.perm [0, 1] rfl rfl) (MA.mk (fun h => (no_of (by kernel_rfl) h).elim) (M.perm [1] rfl rfl))) ?_; clear hK K
  refine gw 8 511 ?_; intro K hK
  refine ow_bs (e := 32) [.int .i64 xu11.t0, .int .i64 xu11.t1, .int .i64 xu11.s0, .int .i64 xu11.s1] M T rfl rfl rfl rfl (.cons (T.e 0 rfl) .nil) (fun _ => by kernel_rfl) ?_; clear M T; intro g4 wc ac M T
  refine Zso hK _ _ (MA.mk (fun _ => M.perm [1, 2] rfl rfl) (MA.mk (fun h => (no_of (by kernel_rfl) h).elim) (M.perm [2] rfl rfl))) ?_; clear hK K
  refine gw 9 1023 ?_; intro K hK
  refine ow_app (((g4, .cells [.int .i64 xu11.t0, .int .i64 xu11.t1, .int .i64 xu11.s0, .int .i64 xu11.s1]) :: (g2, .cells [.int .i64 lu1.first, .int .i64 lu1.step, .int .i64 lu1.span, .int .i64 lu1.press, .int .i64 xu2, .slice A3 ol.length c3, .slice A5 oh.length c5, .int .i64 0, .int .i64 0, .int .i64 0, .int .i64 0, .int .i64 0, .int .i64 0, .int .i64 0, .int .i64 0, .int .i64 0, .int .i64 0, .int .i64 0, .int .i64 0, .int .i64 0, .int .i64 xu3]) :: (g1, .cells [.int .i64 0, .int .i64 0, .int .i64 0, .int .i64 0, .int .i64 0, .slice none 0 0, .slice none 0 0, .int .i64 0, .int .i64 0, .int .i64 0, .int .i64 0, .int .i64 0, .int .i64 0, .int .i64 0, .int .i64 0, .int .i64 0, .int .i64 0, .int .i64 0, .int .i64 0, .int .i64 0, .int .i64 0]) :: (bp, .cells [.int .u64 su11]) :: (Ii ++ Io))) Tryz.info32 hsh M (by first | rfl | simp) T rfl rfl rfl rfl Tryz.underlying24 rfl rfl rfl (by omega) (T.e 7 rfl) (T.e 0 rfl) (Zne (i := 0) rfl) rfl rfl ?_; clear M T; intro ga10 cga10 wc ac M T
  refine Zso hK _ _ (MA.mk (fun _ => M.perm [2, 3] rfl rfl) (MA.mk (fun h => (no_of (by kernel_rfl) h).elim) (M.perm [3] rfl rfl))) ?_; clear hK K
  refine gq (v := (.pointer (some ⟨g2, 6, none⟩))) T 10 2047 rfl (fun _ _ _ _ _ => (Zrf (off := 6) rfl (T.e 15 rfl) (fun _ _ _ => by kernel_rfl))) ?_; clear T ac; intro ac T
  refine gw 11 4095 ?_; intro K hK
  refine Zos M T rfl rfl (T.e 0 rfl) (T.e 1 rfl) rfl (.tail (.tail .head)) rfl (by simp) rfl (by kernel_rfl) ?_; clear M T; intro wc ac M T
  refine Zso hK _ _ (MA.mk (fun h => (no_of (by kernel_rfl) h).elim) (MA.mk (fun h => (no_of (by kernel_rfl) h).elim) (M.perm [3] rfl rfl))) ?_; clear hK K
  refine Zgd (by kernel_rfl) ?_
  replace T := T.pick [13, 14, 15, 16, 17, 18, 19] rfl
  replace M := M.mask [true, false, true, true, true] rfl
  refine Znb ?_
  refine nm_then ?_
  refine wp_region_lit ?_
  refine Zg2 T (Zq (Zrm rfl (T.e 6 rfl))) rfl (fun _ T => Zq (rn_sub rfl (T.e 0 rfl) evc (by omega))) rfl ?_; clear T ac; intro ac T
  refine l_q (v := (.int .i64 (q - 1))) (T.pick [0, 1, 2, 3, 4, 5, 6, 7] rfl) rfl rfl rfl rfl (Zra rfl (T.e 0 rfl)) ?_; clear T ac; intro ac T
  replace T := T.pick [0, 3, 4, 5, 6, 7, 8] rfl
  refine Zln ?_
  have e9a : oh.length + 1 = (oh ++ [xu11]).length := by simp
  have e8a : ((sc oh) ++ [.int .i64 xu11.t0, .int .i64 xu11.t1, .int .i64 xu11.s0, .int .i64 xu11.s1]) = sc (oh ++ [xu11]) := by rw [← sc_snoc]
  rw [e9a, e8a] at M
  (try rw [e9a] at T)
  exact ⟨_, by omega, (q - 1), (oh ++ [xu11]), _, _, su11, [(ga10, .row 32 4 (oh ++ [xu11]).length (sc (oh ++ [xu11])) cga10)], rfl, (by omega), (by simp only [List.length_append, List.length_cons, List.length_nil]; omega), (fun z hz => by rcases List.mem_append.1 hz with h9 | h9; exact hgh z h9; simp only [List.mem_cons, List.not_mem_nil, or_false] at h9; subst h9; exact hxu11), hsu11, (Sl.row _ _ _ _ _ _), T.pick [1, 2, 3, 4, 5, 6, 0] rfl, (Mem.spin [(g2, .cells [.int .i64 lu1.first, .int .i64 lu1.step, .int .i64 lu1.span, .int .i64 lu1.press, .int .i64 xu2, .slice A3 ol.length c3, .slice (some ⟨ga10, 0, none⟩) ((oh ++ [xu11]).length) cga10, .int .i64 0, .int .i64 0, .int .i64 0, .int .i64 0, .int .i64 0, .int .i64 0, .int .i64 0, .int .i64 0, .int .i64 0, .int .i64 0, .int .i64 0, .int .i64 0, .int .i64 0, .int .i64 xu3]), (g1, .cells [.int .i64 0, .int .i64 0, .int .i64 0, .int .i64 0, .int .i64 0, .slice none 0 0, .slice none 0 0, .int .i64 0, .int .i64 0, .int .i64 0, .int .i64 0, .int .i64 0, .int .i64 0, .int .i64 0, .int .i64 0, .int .i64 0, .int .i64 0, .int .i64 0, .int .i64 0, .int .i64 0, .int .i64 0]), (bp, .cells [.int .u64 su11])] [(ga10, .row 32 4 (oh ++ [xu11]).length (sc (oh ++ [xu11])) cga10)] (Ii ++ Io) (M.permT [1, 2, 3, 0] 4 rfl rfl rfl rfl))⟩
 intro h2
 refine wp_exit ?_
 refine Zet ?_
 refine Zet ?_
 refine ex_hit ?_
 refine nm_then ?_
 refine Zsr ?_
 refine lq T (Zrm rfl (T.e 1 rfl)) ?_; clear T ac; intro ac T
 refine Zl2 ?_
 refine Zoc (first := []) (cap := []) T rfl rfl rfl rfl evf (.cons (T.e 0 rfl) (.cons evc (.cons evc .nil))) Tryz.func54 rfl rfl ?_
 refine Calls.mono (jobOf_any _ bp 0 1 _ (by omega) (by omega) (by omega) (by omega) (M.nth 2 rfl) hs2) ?_
 clear T; rintro e wc ⟨ju12, Au12, cu12, su12, Iu12, rfl, hmu12, hsu12, hslu12, N⟩ ac T
 obtain ⟨bu12, ou12, SVu12⟩ := hslu12.spV (rc_length _)
 have Su12 := SVu12 w (fun b => b = bp)
 replace M := (M.joinW (.tail (.tail .head)) N).swapI
 replace M := M.mask [true, true, true] rfl
 clear N hslu12
 have hgu12 := hmu12.good
 have hfewu12 := hgu12.few
 have hpu12 := hgu12.p
 have hmeu12 := hgu12.me
 refine Zl2 ?_
 refine Zoa M T rfl rfl rfl rfl ?_; clear M T; intro g5 wc ac M T
 refine Zl2 ?_
 refine Zos M T rfl rfl (T.e 0 rfl) (T.e 1 rfl) rfl .head rfl (by simp) rfl (by kernel_rfl) ?_; clear M T; intro wc ac M T
 replace T := T.pick [0, 6, 7] rfl
 refine Zln ?_
 refine wp_seq ?_
 refine Zgs M (M.mask [true, false, true, true] rfl) 14 (by kernel_rfl) rfl (by kernel_rfl) ?_
 clear M; intro wc M
 refine g_addG 9 M ?_
 refine gq (v := (.pointer (some ⟨g5, 0, none⟩))) T 0 1 rfl (fun _ _ _ _ _ => (Zrf (off := 0) rfl (T.e 0 rfl) (fun _ _ _ => by kernel_rfl))) ?_; clear T ac; intro ac T
 refine gq (v := (.pointer (some ⟨g5, 2, none⟩))) T 1 3 rfl (fun _ _ _ _ _ => (Zrf (off := 2) rfl (T.e 0 rfl) (fun _ _ _ => by kernel_rfl))) ?_; clear T ac; intro ac T
 refine gq T 2 7 rfl (fun B w' hD hl hS => (Zrr (Mem.nth (show Mem w (fun b => b = bp) w' _ from ((MA.lft hS) (hD.wait (i := 2) (m := 9) (by kernel_rfl) hl))) 0 rfl) rfl (T.e 0 rfl) rfl)) ?_; clear T ac; intro ac T
 refine gq (v := (.pointer (some ⟨g5, 0, none⟩))) T 3 15 rfl (fun _ _ _ _ _ => (Zrf (off := 0) rfl (T.e 3 rfl) (fun _ _ _ => by kernel_rfl))) ?_; clear T ac; intro ac T
 refine gq (v := (.pointer (some ⟨g5, 4, none⟩))) T 4 31 rfl (fun _ _ _ _ _ => (Zrf (off := 4) rfl (T.e 0 rfl) (fun _ _ _ => by kernel_rfl))) ?_; clear T ac; intro ac T
 refine gq T 5 63 rfl (fun B w' hD hl hS => (Zrr (Mem.nth (show Mem w (fun b => b = bp) w' _ from (MA.rgt hS)) 0 rfl) rfl (T.e 0 rfl) rfl)) ?_; clear T ac; intro ac T
 refine gq (v := (.pointer (some ⟨g5, 6, none⟩))) T 6 127 rfl (fun _ _ _ _ _ => (Zrf (off := 6) rfl (T.e 6 rfl) (fun _ _ _ => by kernel_rfl))) ?_; clear T ac; intro ac T
 refine gq T 7 255 rfl (fun B w' hD hl hS => (Zrr (Mem.nth (show Mem w (fun b => b = bp) w' _ from (MA.rgt hS)) 0 rfl) rfl (T.e 0 rfl) rfl)) ?_; clear T ac; intro ac T
 refine gq (v := (.pointer (some ⟨g2, 7, none⟩))) T 8 511 rfl (fun _ _ _ _ _ => (Zrf (off := 7) rfl (T.e 10 rfl) (fun _ _ _ => by kernel_rfl))) ?_; clear T ac; intro ac T
 refine gw 9 1023 ?_; intro K hK
 refine Zos M T rfl rfl (T.e 0 rfl) (T.e 6 rfl) rfl (.tail .head) rfl (by simp) rfl (by kernel_rfl) ?_; clear M T; intro wc ac M T
 refine Zso hK _ _ (MA.mk (fun h => (no_of (by kernel_rfl) h).elim) (M.mask [true, false, true, true] rfl)) ?_; clear hK K
 refine gq (v := (.pointer (some ⟨g2, 9, none⟩))) T 10 2047 rfl (fun _ _ _ _ _ => (Zrf (off := 9) rfl (T.e 11 rfl) (fun _ _ _ => by kernel_rfl))) ?_; clear T ac; intro ac T
 refine gw 11 4095 ?_; intro K hK
 refine Zos M T rfl rfl (T.e 0 rfl) (T.e 4 rfl) rfl (.tail .head) rfl (by simp) rfl (by kernel_rfl) ?_; clear M T; intro wc ac M T
 refine Zso hK _ _ (MA.mk (fun h => (no_of (by kernel_rfl) h).elim) (M.mask [true, false, true, true] rfl)) ?_; clear hK K
 refine gq (v := (.pointer (some ⟨g2, 11, none⟩))) T 12 8191 rfl (fun _ _ _ _ _ => (Zrf (off := 11) rfl (T.e 12 rfl) (fun _ _ _ => by kernel_rfl))) ?_; clear T ac; intro ac T
 refine gw 13 16383 ?_; intro K hK
 refine Zos M T rfl rfl (T.e 0 rfl) (T.e 3 rfl) rfl (.tail .head) rfl (by simp) rfl (by kernel_rfl) ?_; clear M T; intro wc ac M T
 refine Zso hK _ _ (MA.mk (fun h => (no_of (by kernel_rfl) h).elim) (M.mask [true, false, true, true] rfl)) ?_; clear hK K
 refine Zgd (by kernel_rfl) ?_
 replace T := T.pick [12, 13] rfl
 replace M := M.mask [false, true, true, true] rfl
 replace M : Mem w (fun b => b = bp) wc ((g2, .cells [.int .i64 lu1.first, .int .i64 lu1.step, .int .i64 lu1.span, .int .i64 lu1.press, .int .i64 xu2, .slice A3 ol.length c3, .slice A5 oh.length c5, .int .i64 ju12.t0, .int .i64 ju12.t1, .int .i64 ju12.r0, .int .i64 ju12.r1, .int .i64 ju12.u0, .int .i64 ju12.u1, .int .i64 ju12.d0, .int .i64 ju12.d1, .int .i64 ju12.a0, .int .i64 ju12.a1, .int .i64 ju12.b0, .int .i64 ju12.b1, .int .i64 ju12.le, .int .i64 xu3]) :: (g1, .cells [.int .i64 0, .int .i64 0, .int .i64 0, .int .i64 0, .int .i64 0, .slice none 0 0, .slice none 0 0, .int .i64 0, .int .i64 0, .int .i64 0, .int .i64 0, .int .i64 0, .int .i64 0, .int .i64 0, .int .i64 0, .int .i64 0, .int .i64 0, .int .i64 0, .int .i64 0, .int .i64 0, .int .i64 0]) :: (bp, .cells [.int .u64 su12]) :: (Ii ++ Io ++ Ih ++ Iu12)) := M
 refine nm_then ?_
 refine Zsr ?_
 refine lq T (Zrr (Mem.nth M 0 rfl) rfl (T.e 1 rfl) rfl) ?_; clear T ac; intro ac T
 refine Zl2 ?_
 refine Zos M T rfl rfl (T.e 1 rfl) (T.e 0 rfl) rfl (.tail .head) rfl (by simp) rfl (by kernel_rfl) ?_; clear M T; intro wc ac M T
 refine wpList_nil ?_
 replace T := T.pick [1] rfl
 replace M := M.mask [false, true, true] rfl
 replace M : Mem w (fun b => b = bp) wc ((g1, .cells [.int .i64 lu1.first, .int .i64 lu1.step, .int .i64 lu1.span, .int .i64 lu1.press, .int .i64 xu2, .slice A3 ol.length c3, .slice A5 oh.length c5, .int .i64 ju12.t0, .int .i64 ju12.t1, .int .i64 ju12.r0, .int .i64 ju12.r1, .int .i64 ju12.u0, .int .i64 ju12.u1, .int .i64 ju12.d0, .int .i64 ju12.d1, .int .i64 ju12.a0, .int .i64 ju12.a1, .int .i64 ju12.b0, .int .i64 ju12.b1, .int .i64 ju12.le, .int .i64 xu3]) :: (bp, .cells [.int .u64 su12]) :: (Ii ++ Io ++ Ih ++ Iu12)) := M
 refine Znr ?_
 refine rt_c M T rfl (T.e 0 rfl) (Zne (i := 0) rfl) rfl ?_
 obtain ⟨bs1, os1, hS1⟩ := hsl.spV (sc_length _)
 obtain ⟨bs2, os2, hS2⟩ := hsh.spV (sc_length _)
 have hmd := boxMade (b := ({ first := lu1.first, step := lu1.step, span := lu1.span, press := lu1.press, note := xu2, lows := ol, highs := oh, t0 := ju12.t0, t1 := ju12.t1, r0 := ju12.r0, r1 := ju12.r1, u0 := ju12.u0, u1 := ju12.u1, d0 := ju12.d0, d1 := ju12.d1, a0 := ju12.a0, a1 := ju12.a1, b0 := ju12.b0, b1 := ju12.b1, le := ju12.le, me := xu3 } : Bx)) (lo := nlo) (hi := nhi) (j := ju12) hlu1 (by dsimp only; omega) (by dsimp only; omega) (by dsimp only; omega) hgo hgh (by dsimp only; omega) hmu12 ⟨rfl, rfl, rfl, rfl, rfl, rfl, rfl, rfl, rfl, rfl, rfl, rfl, rfl⟩
 refine ⟨_, A3, c3, A5, c5, _, Io ++ Ih, rfl, hmd, hsu12, ⟨bs1, os1, fun w ex => (hS1 w ex).mono (Zsl _ _)⟩, ⟨bs2, os2, fun w ex => (hS2 w ex).mono (Zsq _ _)⟩, Mem.swapI (I := [(bp, .cells [.int .u64 su12])]) (L := Io ++ Ih) ?_⟩
 have M9 : Mem w (fun b => b = bp) wc ((bp, .cells [.int .u64 su12]) :: (Ii ++ Io ++ Ih ++ Iu12)) := M.permT [1] 2 rfl rfl rfl rfl
 refine M9.sub (.cons_cons _ ?_)
 refine List.Sublist.trans ?_ (Zsl _ _)
 rw [List.append_assoc]
 exact Zsq _ _
theorem Mem.swap3 {w0 w : World} {ex : Nat → Prop} (H X Y Z : List (Nat × BA)) (M : Mem w0 ex w (H ++ (X ++ Y ++ Z))) : Mem w0 ex w (H ++ (X ++ Z ++ Y)) := by
 have hp : (H ++ (X ++ Y ++ Z)).Perm (H ++ (X ++ Z ++ Y)) := List.Perm.append_left H (by rw [List.append_assoc, List.append_assoc]; exact List.Perm.append_left X List.perm_append_comm)
 exact ⟨M.os, M.tape, M.output, M.size, M.block, fun p h => M.blk p (hp.mem_iff.2 h), (hp.map _).nodup_iff.1 M.nd⟩
open Go.RowKit
open Go.RowKit
open Go.RowKit
section
variable {P : Program} {op : Oper} {a : Act} {K : Act → World → Prop} {Q : Exit → Act → World → Prop} {w0 w : World} {ex : Nat → Prop} {L : List (Nat × BA)} {E : List (Nat × Value)} {df : List Deferred} {t n : Nat}
end
open Go.RowKit
def placeF (v : Int) : List Int → Nat → Int
 | [], _ => -1
 | x :: r, k => if x = v then (k : Int) else placeF v r (k + 1)
def placeP (l : List Int) (v : Int) : Int := placeF v l 0
theorem eqT32 {x y : Operand} {a0 a1 a2 a3 b0 b1 b2 b3 : Int} {w : World} : (do eqGuard .eql 32 x y (.agg #[.int .i64 a0, .int .i64 a1, .int .i64 a2, .int .i64 a3]) (.agg #[.int .i64 b0, .int .i64 b1, .int .i64 b2, .int .i64 b3]); binOp .eql 32 (.agg #[.int .i64 a0, .int .i64 a1, .int .i64 a2, .int .i64 a3]) (.agg #[.int .i64 b0, .int .i64 b1, .int .i64 b2, .int .i64 b3]) : Sem Value).run Tryz.prog w = .ok (.bool ((decide (a0 = b0) && (decide (a1 = b1) && (decide (a2 = b2) && decide (a3 = b3)))))) w := by
 go_simp
 (repeat' split) <;> simp_all
theorem eqT23 {x y : Operand} {a0 a1 a2 a3 b0 b1 b2 b3 : Int} {w : World} : (do eqGuard .eql 23 x y (.agg #[.int .i64 a0, .int .i64 a1, .int .i64 a2, .int .i64 a3]) (.agg #[.int .i64 b0, .int .i64 b1, .int .i64 b2, .int .i64 b3]); binOp .eql 23 (.agg #[.int .i64 a0, .int .i64 a1, .int .i64 a2, .int .i64 a3]) (.agg #[.int .i64 b0, .int .i64 b1, .int .i64 b2, .int .i64 b3]) : Sem Value).run Tryz.prog w = .ok (.bool ((decide (a0 = b0) && (decide (a1 = b1) && (decide (a2 = b2) && decide (a3 = b3)))))) w := by
 go_simp
 (repeat' split) <;> simp_all
theorem sameSounds_same (A D : Option Addr) (n c d : Nat) (l : List Snd) (w : World) (hr : Rd w w.heap.size 4 A n (sc l)) (hs : Rd w w.heap.size 4 D n (sc l)) (hn : n ≤ 1000000) :
   Calls Tryz.prog 68 #[.slice A n c, .slice D n d] w fun e w' => e = .returned (.bool true) ∧ Below w.heap.size w w' := by
 have hl := hr.len4
 obtain ⟨bJ, oJ, SJ⟩ := Sp.old hr
 obtain ⟨bI, oI, SI⟩ := Sp.old hs
 refine Zpx noEx Tryz.func68 rfl 31 rfl [.slice A n c, .slice D n d] rfl rfl (Mem.init w _) ?_
 intro ac wc T M
 refine Zsr ?_
 refine lq T (Zra rfl evc) ?_; clear T ac; intro ac T
 replace T := T.pick [1, 2] rfl
 refine Zln ?_
 refine Zsr ?_
 refine Zg6 (v5 := (.bool true)) T (Zq (Zrm rfl (T.e 0 rfl))) rfl (Zl Tryz.underlying24 0 rfl rfl) rfl (Zm 3 rfl rfl) rfl (Zl Tryz.underlying24 0 rfl rfl) rfl (fun _ T => Zq (Zrq (rn_eql rfl (T.e 2 rfl) (T.e 0 rfl)) (by simp))) rfl (Za 0 rfl rfl) rfl ?_; clear T ac; intro ac T
 replace T := T.pick [0, 6, 7] rfl
 refine Zln ?_
 refine wp_seq ?_
 refine Zsr ?_
 refine lq T (Zra rfl evc) ?_; clear T ac; intro ac T
 refine Zln ?_
 refine wp_block ?_
 refine wp_loop_n (fun mz ac wc => ∃ (k : Nat), mz = n - k ∧ (k ≤ n) ∧ Tm ac 31 [(0, .slice A n c), (1, .slice D n d), (5, .bool true), (6, .int .i64 (k : Int))] ∧ Mem w noEx wc []) ?_ ?_
 ·exact ⟨_, 0, rfl, (Nat.zero_le _), T.pick [2, 3, 1, 0] rfl, M.mask [] rfl⟩
 clear T M
 rintro mz ac wc ⟨k, hmm1, hk, T, M⟩
 refine wp_seq ?_
 refine Zsr ?_
 refine Zg7 T (Zq (Zrm rfl (T.e 2 rfl))) rfl (Zm 0 rfl rfl) rfl (fun _ T => Zw (Zwy rfl rfl (T.e 0 rfl) rfl) (Zrm rfl (T.e 5 rfl))) rfl (fun _ T => Zw (Zwy rfl rfl (T.e 1 rfl) rfl) (Zrm rfl (T.e 3 rfl))) rfl (fun _ T => Zw (Zwy rfl rfl (T.e 2 rfl) rfl) (Zrl rfl Tryz.underlying24 (T.e 0 rfl))) rfl (fun _ T => Zw (Zwy rfl rfl (T.e 3 rfl) rfl) (rn_lss rfl (T.e 2 rfl) (T.e 0 rfl))) rfl (fun _ T => Zq (Zr1 rfl (T.e 4 rfl) rfl (T.e 0 rfl))) rfl ?_; clear T ac; intro ac T
 replace T := T.pick [0, 1, 2, 3, 4, 7, 8, 9, 10] rfl
 refine Zln ?_
 refine wp_if (T.e 0 rfl) ?_ ?_
 ·intro h1
  obtain ⟨x, hkx, -⟩ := sc_next (l := l) (k := k) (by omega)
  refine Zsk ?_
  refine wp_seq ?_
  refine wp_block ?_
  refine Zgs M (M.mask [] rfl) 10 (by kernel_rfl) rfl (by kernel_rfl) ?_
  clear M; intro wc M
  refine gq T 0 1 rfl (fun _ _ _ _ _ => (Zrm rfl (T.e 5 rfl))) ?_; clear T ac; intro ac T
  refine gq T 1 3 rfl (fun _ _ _ _ _ => (Zrm rfl (T.e 9 rfl))) ?_; clear T ac; intro ac T
  refine gq T 2 7 rfl (fun _ _ _ _ _ => (Zri (size := 4) k rfl (T.e 1 rfl) (T.e 0 rfl) ⟨_, Tryz.underlying24, by kernel_rfl⟩ rfl (by omega) (SJ.at0 (by omega)))) ?_; clear T ac; intro ac T
  refine gq (v := (.agg #[.int .i64 x.t0, .int .i64 x.t1, .int .i64 x.s0, .int .i64 x.s1])) T 3 15 rfl (fun B w' hD hl hS => (rn_rowat (Sp.scR4 SJ (show Mem w noEx w' _ from hS) (Zz9 _) hkx) rfl (T.e 0 rfl) rfl)) ?_; clear T ac; intro ac T
  refine gq T 4 31 rfl (fun _ _ _ _ _ => (Zrm rfl (T.e 10 rfl))) ?_; clear T ac; intro ac T
  refine gq T 5 63 rfl (fun _ _ _ _ _ => (Zrm rfl (T.e 13 rfl))) ?_; clear T ac; intro ac T
  refine gq T 6 127 rfl (fun _ _ _ _ _ => (Zri (size := 4) k rfl (T.e 1 rfl) (T.e 0 rfl) ⟨_, Tryz.underlying24, by kernel_rfl⟩ rfl (by omega) (SI.at0 (by omega)))) ?_; clear T ac; intro ac T
  refine gq (v := (.agg #[.int .i64 x.t0, .int .i64 x.t1, .int .i64 x.s0, .int .i64 x.s1])) T 7 255 rfl (fun B w' hD hl hS => (rn_rowat (Sp.scR4 SI (show Mem w noEx w' _ from hS) (Zz9 _) hkx) rfl (T.e 0 rfl) rfl)) ?_; clear T ac; intro ac T
  refine gq (v := (.bool true)) T 8 511 rfl (fun _ _ _ _ _ => (Zrq (rn_bin rfl (T.e 4 rfl) (T.e 0 rfl) eqT32) (by simp))) ?_; clear T ac; intro ac T
  refine g_q (v := (.bool true)) (T := T.pick [0, 1, 2, 3, 4, 5, 6, 7, 8, 9, 10, 11, 12, 13, 14, 15, 17] rfl) (i := 9) rfl (by kernel_rfl) (by kernel_rfl : (Zpb 10 511).setIfInBounds 9 true = Zpb 10 1023) si_U (fun _ _ _ h => h) rfl rfl rfl rfl (fun _ _ _ _ _ => (Zra rfl (T.e 0 rfl))) ?_; clear T ac; intro ac T
  refine Zgd (by kernel_rfl) ?_
  replace T := T.pick [0, 11, 12, 13, 14, 15, 16, 17] rfl
  refine Znb ?_
  refine nm_then ?_
  refine wp_region_lit ?_
  refine Zg2 T (Zq (Zrm rfl (T.e 7 rfl))) rfl (fun _ T => Zq (rn_add rfl (T.e 0 rfl) evc (by omega))) rfl ?_; clear T ac; intro ac T
  refine l_q (v := (.int .i64 ((k : Int) + 1))) (T.pick [0, 1, 2, 3, 4, 5, 6, 7, 8] rfl) rfl rfl rfl rfl (Zra rfl (T.e 0 rfl)) ?_; clear T ac; intro ac T
  replace T := T.pick [0, 3, 4, 5, 6, 7, 8, 9] rfl
  refine Zln ?_
  exact ⟨_, by omega, k + 1, rfl, (by omega), T.pick [6, 7, 1, 0] rfl, M.mask [] rfl⟩
 intro h1
 refine wp_exit ?_
 refine Zet ?_
 refine Zet ?_
 refine ex_hit ?_
 refine nm_then ?_
 refine Zsr ?_
 refine Zg2 T (Zq (Zrm rfl (T.e 7 rfl))) rfl (Za 0 rfl rfl) rfl ?_; clear T ac; intro ac T
 replace T := T.pick [0] rfl
 refine Zln ?_
 refine wp_ret ?_
 refine rt_1 T rfl (T.e 0 rfl) ?_
 exact ⟨rfl, M.below⟩
theorem sameBoxes_same (b : Bx) (A : Option Addr) (c : Nat) (B : Option Addr) (d : Nat) (A2 : Option Addr) (c2 : Nat) (B2 : Option Addr) (d2 : Nat) (w : World) (hA : Rd w w.heap.size 4 A b.lows.length (sc b.lows)) (hB : Rd w w.heap.size 4 B b.highs.length (sc b.highs)) (hA2 : Rd w w.heap.size 4 A2 b.lows.length (sc b.lows)) (hB2 : Rd w w.heap.size 4 B2 b.highs.length (sc b.highs)) (nA : b.lows.length ≤ 1000000) (nB : b.highs.length ≤ 1000000)  :
  Calls Tryz.prog 17 #[bxV b A c B d, bxV b A2 c2 B2 d2] w fun e w' => e = .returned (.bool true) ∧ Below w.heap.size w w' := by
 have hlA := hA.len4
 have hlB := hB.len4
 obtain ⟨bA, oA, SA⟩ := Sp.old hA
 obtain ⟨bB, oB, SB⟩ := Sp.old hB
 obtain ⟨bA2, oA2, SA2⟩ := Sp.old hA2
 obtain ⟨bB2, oB2, SB2⟩ := Sp.old hB2
 refine Zpx noEx Tryz.func17 rfl 59 rfl [.agg #[.int .i64 b.first, .int .i64 b.step, .int .i64 b.span, .int .i64 b.press, .int .i64 b.note, .slice A b.lows.length c, .slice B b.highs.length d, .int .i64 b.t0, .int .i64 b.t1, .int .i64 b.r0, .int .i64 b.r1, .int .i64 b.u0, .int .i64 b.u1, .int .i64 b.d0, .int .i64 b.d1, .int .i64 b.a0, .int .i64 b.a1, .int .i64 b.b0, .int .i64 b.b1, .int .i64 b.le, .int .i64 b.me], .agg #[.int .i64 b.first, .int .i64 b.step, .int .i64 b.span, .int .i64 b.press, .int .i64 b.note, .slice A2 b.lows.length c2, .slice B2 b.highs.length d2, .int .i64 b.t0, .int .i64 b.t1, .int .i64 b.r0, .int .i64 b.r1, .int .i64 b.u0, .int .i64 b.u1, .int .i64 b.d0, .int .i64 b.d1, .int .i64 b.a0, .int .i64 b.a1, .int .i64 b.b0, .int .i64 b.b1, .int .i64 b.le, .int .i64 b.me]] rfl rfl (Mem.init w _) ?_
 intro ac wc T M
 refine Zsr ?_
 refine Zl2 ?_
 refine Zob M T rfl rfl rfl rfl (T.e 0 rfl) rfl ?_; clear M T; intro g1 wc ac M T
 refine Zl2 ?_
 refine Zob M T rfl rfl rfl rfl (T.e 2 rfl) rfl ?_; clear M T; intro g2 wc ac M T
 refine lq T (Zra rfl evc) ?_; clear T ac; intro ac T
 replace T := T.pick [1, 2] rfl
 refine Zln ?_
 refine Zsr ?_
 refine Zg8 (v1 := (.pointer (some ⟨g1, 0, none⟩))) (v3 := (.pointer (some ⟨g2, 0, none⟩))) (v5 := (.bool true)) (v7 := (.pointer (some ⟨g1, 4, none⟩))) T (Zq (Zrf (off := 0) rfl (T.e 1 rfl) (fun _ _ _ => by kernel_rfl))) rfl (Zr M 1 0 rfl rfl rfl rfl) rfl (Zf 0 2 rfl rfl) rfl (Zr M 0 0 rfl rfl rfl rfl) rfl (fun _ T => Zq (Zrq (rn_bin rfl (T.e 2 rfl) (T.e 0 rfl) eqT23) (by simp))) rfl (Zm 0 rfl rfl) rfl (fun _ T => Zw (Zwy rfl rfl (T.e 0 rfl) rfl) (Zrf (off := 4) rfl (T.e 7 rfl) (fun _ _ _ => by kernel_rfl))) rfl (fun _ T => Zw (Zwy rfl rfl (T.e 1 rfl) rfl) (Zro (Mem.nth M 1 rfl) rfl (T.e 0 rfl) rfl)) rfl ?_; clear T ac; intro ac T
 refine Zg8 (v1 := (.pointer (some ⟨g2, 4, none⟩))) (v3 := (.bool true)) (v6 := (.pointer (some ⟨g1, 7, none⟩))) (v8 := (.pointer (some ⟨g2, 7, none⟩))) T (Zw (Zwy rfl rfl (T.e 2 rfl) rfl) (Zrf (off := 4) rfl (T.e 8 rfl) (fun _ _ _ => by kernel_rfl))) rfl (fun _ T => Zw (Zwy rfl rfl (T.e 3 rfl) rfl) (Zro (Mem.nth M 0 rfl) rfl (T.e 0 rfl) rfl)) rfl (fun _ T => Zw (Zwy rfl rfl (T.e 4 rfl) rfl) (Zrq (rn_eql rfl (T.e 2 rfl) (T.e 0 rfl)) (by simp))) rfl (fun _ T => Zq (Zr1 rfl (T.e 5 rfl) rfl (T.e 0 rfl))) rfl (Zm 0 rfl rfl) rfl (fun _ T => Zw (Zwy rfl rfl (T.e 0 rfl) rfl) (Zrf (off := 7) rfl (T.e 14 rfl) (fun _ _ _ => by kernel_rfl))) rfl (fun _ T => Zw (Zwy rfl rfl (T.e 1 rfl) rfl) (Zrr (Mem.nth M 1 rfl) rfl (T.e 0 rfl) rfl)) rfl (fun _ T => Zw (Zwy rfl rfl (T.e 2 rfl) rfl) (Zrf (off := 7) rfl (T.e 15 rfl) (fun _ _ _ => by kernel_rfl))) rfl ?_; clear T ac; intro ac T
 refine Zg8 (v2 := (.bool true)) (v5 := (.pointer (some ⟨g1, 9, none⟩))) (v7 := (.pointer (some ⟨g2, 9, none⟩))) T (Zw (Zwy rfl rfl (T.e 3 rfl) rfl) (Zrr (Mem.nth M 0 rfl) rfl (T.e 0 rfl) rfl)) rfl (fun _ T => Zw (Zwy rfl rfl (T.e 4 rfl) rfl) (Zrq (rn_bin rfl (T.e 2 rfl) (T.e 0 rfl) eqT26) (by simp))) rfl (fun _ T => Zq (Zr1 rfl (T.e 5 rfl) rfl (T.e 0 rfl))) rfl (Zm 0 rfl rfl) rfl (fun _ T => Zw (Zwy rfl rfl (T.e 0 rfl) rfl) (Zrf (off := 9) rfl (T.e 21 rfl) (fun _ _ _ => by kernel_rfl))) rfl (fun _ T => Zw (Zwy rfl rfl (T.e 1 rfl) rfl) (Zrr (Mem.nth M 1 rfl) rfl (T.e 0 rfl) rfl)) rfl (fun _ T => Zw (Zwy rfl rfl (T.e 2 rfl) rfl) (Zrf (off := 9) rfl (T.e 22 rfl) (fun _ _ _ => by kernel_rfl))) rfl (fun _ T => Zw (Zwy rfl rfl (T.e 3 rfl) rfl) (Zrr (Mem.nth M 0 rfl) rfl (T.e 0 rfl) rfl)) rfl ?_; clear T ac; intro ac T
 refine Zg8 (v1 := (.bool true)) (v4 := (.pointer (some ⟨g1, 11, none⟩))) (v6 := (.pointer (some ⟨g2, 11, none⟩))) (v8 := (.bool true)) T (Zw (Zwy rfl rfl (T.e 4 rfl) rfl) (Zrq (rn_bin rfl (T.e 2 rfl) (T.e 0 rfl) eqT26) (by simp))) rfl (fun _ T => Zq (Zr1 rfl (T.e 5 rfl) rfl (T.e 0 rfl))) rfl (Zm 0 rfl rfl) rfl (fun _ T => Zw (Zwy rfl rfl (T.e 0 rfl) rfl) (Zrf (off := 11) rfl (T.e 28 rfl) (fun _ _ _ => by kernel_rfl))) rfl (fun _ T => Zw (Zwy rfl rfl (T.e 1 rfl) rfl) (Zrr (Mem.nth M 1 rfl) rfl (T.e 0 rfl) rfl)) rfl (fun _ T => Zw (Zwy rfl rfl (T.e 2 rfl) rfl) (Zrf (off := 11) rfl (T.e 29 rfl) (fun _ _ _ => by kernel_rfl))) rfl (fun _ T => Zw (Zwy rfl rfl (T.e 3 rfl) rfl) (Zrr (Mem.nth M 0 rfl) rfl (T.e 0 rfl) rfl)) rfl (fun _ T => Zw (Zwy rfl rfl (T.e 4 rfl) rfl) (Zrq (rn_bin rfl (T.e 2 rfl) (T.e 0 rfl) eqT28) (by simp))) rfl ?_; clear T ac; intro ac T
 refine Zg8 (v3 := (.pointer (some ⟨g1, 20, none⟩))) (v5 := (.pointer (some ⟨g2, 20, none⟩))) (v7 := (.bool true)) T (Zq (Zr1 rfl (T.e 5 rfl) rfl (T.e 0 rfl))) rfl (Zm 0 rfl rfl) rfl (fun _ T => Zw (Zwy rfl rfl (T.e 0 rfl) rfl) (Zrf (off := 20) rfl (T.e 35 rfl) (fun _ _ _ => by kernel_rfl))) rfl (fun _ T => Zw (Zwy rfl rfl (T.e 1 rfl) rfl) (Zro (Mem.nth M 1 rfl) rfl (T.e 0 rfl) rfl)) rfl (fun _ T => Zw (Zwy rfl rfl (T.e 2 rfl) rfl) (Zrf (off := 20) rfl (T.e 36 rfl) (fun _ _ _ => by kernel_rfl))) rfl (fun _ T => Zw (Zwy rfl rfl (T.e 3 rfl) rfl) (Zro (Mem.nth M 0 rfl) rfl (T.e 0 rfl) rfl)) rfl (fun _ T => Zw (Zwy rfl rfl (T.e 4 rfl) rfl) (Zrq (rn_eql rfl (T.e 2 rfl) (T.e 0 rfl)) (by simp))) rfl (fun _ T => Zq (Zr1 rfl (T.e 5 rfl) rfl (T.e 0 rfl))) rfl ?_; clear T ac; intro ac T
 refine Zg5 (v2 := (.pointer (some ⟨g1, 5, none⟩))) (v4 := (.pointer (some ⟨g2, 5, none⟩))) T (Zq (Zrm rfl (T.e 0 rfl))) rfl (fun _ T => Zw (Zwy rfl rfl (T.e 0 rfl) rfl) (Zrf (off := 5) rfl (T.e 42 rfl) (fun _ _ _ => by kernel_rfl))) rfl (fun _ T => Zw (Zwy rfl rfl (T.e 1 rfl) rfl) (Zro (Mem.nth M 1 rfl) rfl (T.e 0 rfl) rfl)) rfl (fun _ T => Zw (Zwy rfl rfl (T.e 2 rfl) rfl) (Zrf (off := 5) rfl (T.e 43 rfl) (fun _ _ _ => by kernel_rfl))) rfl (fun _ T => Zw (Zwy rfl rfl (T.e 3 rfl) rfl) (Zro (Mem.nth M 0 rfl) rfl (T.e 0 rfl) rfl)) rfl ?_; clear T ac; intro ac T
 refine l_w (Zwy rfl rfl (T.e 4 rfl) rfl) ?_; intro K hK
 refine Zoc (first := []) (cap := []) T rfl rfl rfl rfl evf (.cons (T.e 2 rfl) (.cons (T.e 0 rfl) .nil)) Tryz.func68 rfl rfl ?_
 refine Calls.mono (sameSounds_same _ _ _ _ _ b.lows _ (SA.rd M (Zz9 _)) (SA2.rd M (Zz9 _)) (by omega)) ?_
 clear T; rintro e wc ⟨rfl, hb⟩ ac T
 replace M := M.call hb; clear hb
 refine Zso hK _ _ ?_; clear hK K
 refine Zg6 (v3 := (.pointer (some ⟨g1, 6, none⟩))) (v5 := (.pointer (some ⟨g2, 6, none⟩))) T (Zq (Zr1 rfl (T.e 5 rfl) rfl (T.e 0 rfl))) rfl (Zm 0 rfl rfl) rfl (fun _ T => Zw (Zwy rfl rfl (T.e 0 rfl) rfl) (Zrf (off := 6) rfl (T.e 49 rfl) (fun _ _ _ => by kernel_rfl))) rfl (fun _ T => Zw (Zwy rfl rfl (T.e 1 rfl) rfl) (Zro (Mem.nth M 1 rfl) rfl (T.e 0 rfl) rfl)) rfl (fun _ T => Zw (Zwy rfl rfl (T.e 2 rfl) rfl) (Zrf (off := 6) rfl (T.e 50 rfl) (fun _ _ _ => by kernel_rfl))) rfl (fun _ T => Zw (Zwy rfl rfl (T.e 3 rfl) rfl) (Zro (Mem.nth M 0 rfl) rfl (T.e 0 rfl) rfl)) rfl ?_; clear T ac; intro ac T
 refine l_w (Zwy rfl rfl (T.e 4 rfl) rfl) ?_; intro K hK
 refine Zoc (first := []) (cap := []) T rfl rfl rfl rfl evf (.cons (T.e 2 rfl) (.cons (T.e 0 rfl) .nil)) Tryz.func68 rfl rfl ?_
 refine Calls.mono (sameSounds_same _ _ _ _ _ b.highs _ (SB.rd M (Zz9 _)) (SB2.rd M (Zz9 _)) (by omega)) ?_
 clear T; rintro e wc ⟨rfl, hb⟩ ac T
 replace M := M.call hb; clear hb
 refine Zso hK _ _ ?_; clear hK K
 refine Zg2 T (Zq (Zr1 rfl (T.e 5 rfl) rfl (T.e 0 rfl))) rfl (Za 0 rfl rfl) rfl ?_; clear T ac; intro ac T
 refine wpList_nil ?_
 replace T := T.pick [0] rfl
 replace M := M.mask [false, false] rfl
 refine Znr ?_
 refine rt_1 T rfl (T.e 0 rfl) ?_
 exact ⟨rfl, M.below⟩
theorem ow_appX {P : Program} {op : Oper} {a : Act} {K : Act → World → Prop} {Q : Exit → Act → World → Prop} {s x : Operand} {ty e size bytes d m k cc nn t' : Nat} {A B : Option Addr} {z : Value} {cs xs : List Value} {w0 w : World} {ex : Nat → Prop} {L0 I : List (Nat × BA)} {E : List (Nat × Value)} (L1 : List (Nat × BA))
  (hinfo : (P.info? e).map (fun i => (i.zero, i.size, i.bytes)) = some (some z, size, bytes)) (hS : Sl e size (.slice A m d) m xs I) (M : Mem w0 ex w L0) (hsp : L0 = L1 ++ I) (T : Tm a nn E)
  (ho : op.op = .call { callee := .builtin .append, args := #[s, x], argTypes := #[ty, ty] }) (hd : op.dst = some t') (hf : freshE E t' = true) (hnn : Nat.blt t' nn = true)
  (ht : P.underlying ty = some (.slice e)) (hzs : z.cells.size = size) (hsz : Nat.blt 0 size = true) (hby : Nat.ble bytes 1000 = true) (hm : m ≤ 1000000) (hk0 : 0 < k) (hk : k ≤ 1000000)
  (hs : a.eval s = .slice A m d) (hx : a.eval x = .slice B k cc) (hr : Rd w w.heap.size size B k cs) (h1 : ∀ u ∈ cs, u.oneCell' = true)
  (h : ∀ g cap w' a', Mem w0 ex w' ((g, .row e size (m + k) (xs ++ cs) cap) :: L1) → Tm a' nn ((t', .slice (some ⟨g, 0, none⟩) (m + k) cap) :: E) → K a' w') : op.wp P a w K Q := by
 subst hsp
 have M := Mem.swapI (I := L1) (L := I) M
 have hsz := Nat.le_of_ble_eq_true hsz
 have hby := Nat.le_of_ble_eq_true hby
 obtain ⟨i, hi, hz0, hz1, hz2⟩ := info_parts hinfo
 obtain ⟨g2, o2, rfl, hlt, hc⟩ := hr.cells hk0
 have hnews : ∀ j u, cs[j]? = some u → w.cell? ((⟨g2, o2, none⟩ : Addr).add j) = some u := fun j u hu => by rw [Addr.add_mid]; exact hc j u hu
 have hbb : (m + k) * bytes ≤ 140737488355328 := by
  have : (m + k) * bytes ≤ 2000000 * 1000 := Nat.mul_le_mul (by omega) hby
  omega
 have key : ∀ g cap w', Mem w0 ex w' ((g, .row e size (m + k) (xs ++ cs) cap) :: L1) → K (a.put op.dst (.slice (some ⟨g, 0, none⟩) (m + k) cap)) w' := fun g cap w' M' => h g cap w' _ M' (by rw [hd]; exact T.put hnn hf _)
 rcases hS with ⟨h2, rfl, rfl, rfl⟩ | ⟨g0, cap0, h2, rfl⟩
 ·injection h2 with h2 _ h3
  subst h2 h3
  refine wp_append_lies w s x ty ho w.heap.size e i z size bytes ht hi hz0 hz1 hz2 hzs hsz (.slice none 0 0) 0 [] hs ⟨by simp, .inl ⟨rfl, rfl⟩⟩ ⟨g2, o2, none⟩ k cc cs hx hr.1 hnews h1 hk0 (by unfold maxLen; omega) hbb (Nat.le_refl _) w.heap.size rfl ?_
  intro g cap w' hown hgr hat hlt
  have hg : g = w.heap.size := by
   rcases hat with h | h
   ·cases h
   ·exact h
  have M1 : Mem w0 ex w' L1 := M.call ⟨hgr.os, hgr.tape, hgr.output, hgr.size, fun k hk => hgr.block k hk (fun e => by cases e)⟩
  exact key g cap w' (M1.add (by rw [hg]; exact M.size) (own_rebase hown (by omega)) (fun q hq e => by have := BA.lt (M.blk q hq).2; omega))
 ·injection h2 with h2 _ h3
  subst h2 h3
  have hrow := (M.blk (g0, .row e size m xs d) (by simp)).2
  have hnp : 0 < m := hrow.2
  refine wp_append_lies w s x ty ho g0 e i z size bytes ht hi hz0 hz1 hz2 hzs hsz _ m xs hs hrow.1 ⟨g2, o2, none⟩ k cc cs hx hr.1 hnews h1 hk0 (by unfold maxLen; omega) hbb (Nat.le_of_lt (BA.lt hrow)) w.heap.size rfl ?_
  intro g cap w' hown hgr hat hlt
  have hgr : w.grownBy w' (some g0) := hgr
  rcases hat with h2 | h2
  ·have h2 : some g0 = some g := h2
   injection h2 with h2
   subst h2
   exact key g0 cap w' (M.callW (L' := (g0, .row e size (m + k) (xs ++ cs) cap) :: L1) .head hgr (own_rebase hown (by omega)))
  ·have M1 := M.callW (L' := (g0, .any (fun _ => True)) :: L1) .head hgr (by
    have hl0 : g0 < w'.heap.size := Nat.lt_of_lt_of_le (BA.lt hrow) hgr.size
    exact ⟨w'.heap[g0], Array.getElem?_eq_getElem hl0, trivial⟩)
   exact key g cap w' (M1.forget.add (by rw [h2]; exact M.size) (own_rebase hown (by omega)) (fun q hq e => by have := BA.lt (M.blk q (List.mem_append_right _ hq)).2; omega))
theorem Mem.turn4 {w0 w : World} {ex : Nat → Prop} (K G R Ie I : List (Nat × BA)) (M : Mem w0 ex w (K ++ (G ++ (R ++ (Ie ++ I))))) : Mem w0 ex w (K ++ ((Ie ++ (R ++ I)) ++ G)) :=
 have hp : (K ++ (G ++ (R ++ (Ie ++ I)))).Perm (K ++ ((Ie ++ (R ++ I)) ++ G)) := List.Perm.append_left K (List.perm_append_comm.trans (List.Perm.append_right G (List.perm_append_comm_assoc R Ie I)))
 ⟨M.os, M.tape, M.output, M.size, M.block, fun p h => M.blk p (hp.mem_iff.2 h), (hp.map _).nodup_iff.1 M.nd⟩
theorem lc_one (l : List LE) : ∀ u ∈ lc l, u.oneCell' = true := by
 intro u hu
 obtain ⟨p, _, rfl⟩ := List.mem_map.1 hu
 rfl
theorem lc_append (l r : List LE) : lc l ++ lc r = lc (l ++ r) := by simp [lc]
theorem Els.append {l r : List LE} {I J : List (Nat × BA)} (h : Els l I) (k : Els r J) : Els (l ++ r) (I ++ J) := fun x hx => by
 rcases List.mem_append.1 hx with hx | hx
 · exact h.mono (Zsl _ _) x hx
 · exact k.mono (Zsq _ _) x hx
def anyP (_ _ : Nat) : Bool := true
theorem prsP_len (may : Nat → Nat → Bool) (highs : Nat) : ∀ (r : Nat) (l : List Int), 0 < (prsP may highs r l).length ∧ (prsP may highs r l).length ≤ (highs + 1) ^ r
 | 0, l => by simp [prsP]
 | r + 1, l => by
  unfold prsP
  have key : ∀ k, ((List.range k).flatMap fun h => if goP may l h then prsP may highs r (l ++ [(h : Int)]) else []).length ≤ k * (highs + 1) ^ r := fun k => by
   induction k with
   | zero => simp
   | succ k ih =>
    rw [List.range_succ, List.flatMap_append, List.length_append, Nat.succ_mul]
    have : ([k].flatMap fun h => if goP may l h then prsP may highs r (l ++ [(h : Int)]) else []).length ≤ (highs + 1) ^ r := by
     simp only [List.flatMap_cons, List.flatMap_nil, List.append_nil]
     split
     ·exact (prsP_len may highs r _).2
     ·simp
    omega
  have h2 := prsP_len may highs r (l ++ [-1])
  have h3 := key highs
  rw [List.length_append, Nat.pow_succ, Nat.mul_add, Nat.mul_one, Nat.mul_comm]
  omega
theorem prsP_bd (may : Nat → Nat → Bool) {highs r : Nat} (hh : highs ≤ 5) (hr : r ≤ 4) (l : List Int) : 0 < (prsP may highs r l).length ∧ (prsP may highs r l).length ≤ 1296 := by
 have h := prsP_len may highs r l
 refine ⟨h.1, Nat.le_trans h.2 ?_⟩
 exact Nat.le_trans (Nat.pow_le_pow_left (by omega : highs + 1 ≤ 6) r) (Nat.pow_le_pow_right (by omega) hr : 6 ^ r ≤ 6 ^ 4)
def preP (highs r : Nat) (l : List Int) (k : Nat) : List (List Int) := (List.range k).flatMap fun h => if goP anyP l h then prsP anyP highs r (l ++ [(h : Int)]) else []
theorem preP_skip {highs r : Nat} {l : List Int} {k : Nat} (h : l.contains (k : Int) = true) : preP highs r l (k + 1) = preP highs r l k := by
 have hm : (k : Int) ∈ l := List.contains_iff_mem.1 h
 unfold preP
 rw [List.range_succ, List.flatMap_append]
 simp [goP, hm]
theorem preP_go {highs r : Nat} {l : List Int} {k : Nat} (h : l.contains (k : Int) = false) : preP highs r l (k + 1) = preP highs r l k ++ prsP anyP highs r (l ++ [(k : Int)]) := by
 have hm : (k : Int) ∉ l := fun hm => by rw [List.contains_iff_mem.2 hm] at h; cases h
 unfold preP
 rw [List.range_succ, List.flatMap_append]
 simp [goP, hm, anyP]
def PrsPost (R : List (List Int)) (Il : List (Nat × BA)) (w : World) (e : Ending) (w' : World) : Prop := ∃ (A : Option Addr) (c : Nat) (LL : List LE) (I : List (Nat × BA)), e = .returned (.slice A LL.length c) ∧ LL.map (·.1) = R ∧ (∃ b o, ∀ (w : World) (ex : Nat → Prop), Sp w ex I A LL.length 1 b o (lc LL)) ∧ Els LL (Il ++ I) ∧ Mem w noEx w' I
def PrsSpec (lows highs r : Nat) : Prop := ∀ (w : World) (l : List Int) (A : Option Addr) (m c : Nat) (Il : List (Nat × BA)), m = l.length → l.length + r = lows → Rd w w.heap.size 1 A m (ic l) → (∃ b o, ∀ (w : World) (ex : Nat → Prop), Sp w ex Il A m 1 b o (ic l)) →
 Calls Tryz.prog 109 #[.int .i64 (lows : Int), .int .i64 (highs : Int), .slice A m c] w (PrsPost (prsP anyP highs r l) Il w)
theorem has5_any (A : Option Addr) (m c : Nat) (l : List Int) (v : Int) (w : World) (hr : Rd w w.heap.size 1 A m (ic l)) (hm : m ≤ 1000000) :
   Calls Tryz.prog 134 #[.slice A m c, .int .i64 v] w fun e w' => e = .returned (.bool (l.contains v)) ∧ Below w.heap.size w w' := by
 have hml := hr.len1
 obtain ⟨bA, oA, SA⟩ := Sp.old hr
 refine Zpx noEx Tryz.func134 rfl 18 rfl [.slice A m c, .int .i64 v] rfl rfl (Mem.init w _) ?_
 intro ac wc T M
 refine Zsr ?_
 refine lq T (Zra rfl evc) ?_; clear T ac; intro ac T
 replace T := T.pick [1, 2] rfl
 refine Zln ?_
 refine wp_seq ?_
 refine Zsr ?_
 refine lq T (Zra rfl evc) ?_; clear T ac; intro ac T
 refine Zln ?_
 refine wp_block ?_
 refine wp_loop_n (fun mz ac wc => ∃ (k : Nat), mz = m - k ∧ (k ≤ m) ∧ (l.contains v = (l.drop k).contains v) ∧ Tm ac 18 [(0, .slice A m c), (1, .int .i64 v), (5, .int .i64 (k : Int))] ∧ Mem w noEx wc []) ?_ ?_
 ·exact ⟨_, 0, rfl, (Nat.zero_le _), rfl, T.pick [1, 2, 0] rfl, M.mask [] rfl⟩
 clear T M
 rintro mz ac wc ⟨k, hmm1, hk, H, T, M⟩
 refine wp_seq ?_
 refine Zsr ?_
 refine Zg4 T (Zq (Zrm rfl (T.e 2 rfl))) rfl (Zm 1 rfl rfl) rfl (Zl Tryz.underlying33 0 rfl rfl) rfl (fun _ T => Zq (rn_lss rfl (T.e 2 rfl) (T.e 0 rfl))) rfl ?_; clear T ac; intro ac T
 replace T := T.pick [0, 4, 5, 6] rfl
 refine Zln ?_
 refine wp_if (T.e 0 rfl) ?_ ?_
 ·intro h1
  obtain ⟨x, hkx, hdx⟩ := ic_next (l := l) (k := k) (by omega)
  rw [hdx, List.contains_cons] at H
  refine Zsk ?_
  refine wp_seq ?_
  refine wp_block ?_
  refine Zsr ?_
  refine Zg6 T (Zq (Zrm rfl (T.e 1 rfl))) rfl (Zm 4 rfl rfl) rfl (fun _ T => Zq (Zri (size := 1) k rfl (T.e 1 rfl) (T.e 0 rfl) ⟨_, Tryz.underlying33, by kernel_rfl⟩ rfl (by omega) (SA.at0 (by omega)))) rfl (fun _ T => Zq (rn_cell (Sp.ic0 SA M (Zz9 _) hkx) rfl (T.e 0 rfl))) rfl (Zm 6 rfl rfl) rfl (fun _ T => Zq (rn_eql rfl (T.e 1 rfl) (T.e 0 rfl))) rfl ?_; clear T ac; intro ac T
  replace T := T.pick [0, 7, 8, 9] rfl
  refine Zln ?_
  refine wp_if (T.e 0 rfl) ?_ ?_
  ·intro h2
   refine Zsr ?_
   refine lq T (Zra rfl evc) ?_; clear T ac; intro ac T
   replace T := T.pick [0] rfl
   refine Zln ?_
   refine wp_ret ?_
   refine Zrb ?_
   refine Zrt ?_
   refine Zrt ?_
   refine Zrb ?_
   refine Zrt ?_
   refine rt_1 T rfl (T.e 0 rfl) ?_
   rw [show (v == x) = true by rw [beq_iff_eq]; omega, Bool.true_or] at H
   exact ⟨ret_bool H.symm, M.below⟩
  intro h2
  refine wp_skip ?_
  refine Znb ?_
  refine nm_then ?_
  refine wp_region_lit ?_
  refine Zg2 T (Zq (Zrm rfl (T.e 3 rfl))) rfl (fun _ T => Zq (rn_add rfl (T.e 0 rfl) evc (by omega))) rfl ?_; clear T ac; intro ac T
  refine l_q (v := (.int .i64 ((k : Int) + 1))) (T.pick [0, 1, 2, 3, 4] rfl) rfl rfl rfl rfl (Zra rfl (T.e 0 rfl)) ?_; clear T ac; intro ac T
  replace T := T.pick [0, 4, 5] rfl
  refine Zln ?_
  exact ⟨_, by omega, k + 1, rfl, (by omega), (by rw [beq_false_of_ne (show v ≠ x by omega), Bool.false_or] at H; exact H), T.pick [1, 2, 0] rfl, M.mask [] rfl⟩
 intro h1
 rw [List.drop_of_length_le (by omega)] at H
 refine wp_exit ?_
 refine Zet ?_
 refine Zet ?_
 refine ex_hit ?_
 refine nm_then ?_
 refine Zsr ?_
 refine lq T (Zra rfl evc) ?_; clear T ac; intro ac T
 replace T := T.pick [0] rfl
 refine Zln ?_
 refine wp_ret ?_
 refine rt_1 T rfl (T.e 0 rfl) ?_
 exact ⟨ret_bool H.symm, M.below⟩
theorem pairings5_step (lows highs r : Nat) (l : List Int) (A : Option Addr) (c : Nat) (Il : List (Nat × BA)) (w : World) (hlo : lows ≤ 4) (hhi : highs ≤ 5) (ih : ∀ r', r = r' + 1 → PrsSpec lows highs r') (hlr : l.length + r = lows) (hr : Rd w w.heap.size 1 A l.length (ic l)) (hl : ∃ b o, ∀ (w : World) (ex : Nat → Prop), Sp w ex Il A l.length 1 b o (ic l)) :
   Calls Tryz.prog 109 #[.int .i64 (lows : Int), .int .i64 (highs : Int), .slice A l.length c] w (PrsPost (prsP anyP highs r l) Il w) := by
 obtain ⟨bA, oA, SA⟩ := Sp.old hr
 refine Zpx noEx Tryz.func109 rfl 45 rfl [.int .i64 (lows : Int), .int .i64 (highs : Int), .slice A l.length c] rfl rfl (Mem.init w _) ?_
 intro ac wc T M
 refine Zsr ?_
 refine lq T (Zra rfl evc) ?_; clear T ac; intro ac T
 replace T := T.pick [1, 2, 3] rfl
 refine Zln ?_
 refine wp_seq ?_
 refine Zsr ?_
 refine Zg4 T (Zq (Zrm rfl (T.e 2 rfl))) rfl (Zl Tryz.underlying33 0 rfl rfl) rfl (Zm 2 rfl rfl) rfl (fun _ T => Zq (rn_eql rfl (T.e 1 rfl) (T.e 0 rfl))) rfl ?_; clear T ac; intro ac T
 replace T := T.pick [0, 4, 5, 6] rfl
 refine Zln ?_
 refine wp_if (T.e 0 rfl) ?_ ?_
 ·intro h1
  obtain rfl : r = 0 := by omega
  refine Zsr ?_
  refine lq T (Zrm rfl (T.e 3 rfl)) ?_; clear T ac; intro ac T
  refine Zl2 ?_
  refine ow_bs (e := 33) [.slice A l.length c] M T rfl rfl rfl rfl (.cons (T.e 0 rfl) .nil) (fun _ => by kernel_rfl) ?_; clear M T; intro g1 wc ac M T
  refine lq T (Zra rfl (T.e 0 rfl)) ?_; clear T ac; intro ac T
  replace T := T.pick [0] rfl
  refine Zln ?_
  refine wp_ret ?_
  refine Zrt ?_
  refine rt_1 T rfl (T.e 0 rfl) ?_
  exact ⟨some ⟨g1, 0, none⟩, 1, [(l, A, c)], [(g1, .cells (lc [(l, A, c)]))], rfl, rfl, ⟨g1, 0, fun w ex => Sp.cells rfl⟩, (fun x hx => by simp only [List.mem_cons, List.not_mem_nil, or_false] at hx; subst hx; obtain ⟨b9, o9, h9⟩ := hl; exact ⟨b9, o9, fun w ex => (h9 w ex).mono (Zsl _ _)⟩), M.perm [0] rfl rfl⟩
 intro h1
 obtain ⟨r1, rfl⟩ : ∃ k, r = k + 1 := ⟨r - 1, by omega⟩
 have ih1 := ih r1 rfl
 refine Zsk ?_
 refine Zsr ?_
 refine lq T (Zra rfl evc) ?_; clear T ac; intro ac T
 replace T := T.pick [0, 2, 3, 4] rfl
 refine Zln ?_
 refine wp_seq ?_
 refine Zsr ?_
 refine lq T (Zra rfl evc) ?_; clear T ac; intro ac T
 refine Zln ?_
 refine wp_block ?_
 refine wp_loop_n (fun mz ac wc => ∃ (h : Nat) (OL : List LE) (A3 : Option Addr) (c3 : Nat) (Ie Io : List (Nat × BA)), mz = highs - h ∧ (h ≤ highs) ∧ (OL.map (·.1) = preP highs r1 l h) ∧ (OL.length ≤ 1296 * h) ∧ (Els OL Ie) ∧ (Sl 33 1 (.slice A3 OL.length c3) OL.length (lc OL) Io) ∧ Tm ac 45 [(0, .int .i64 (lows : Int)), (1, .int .i64 (highs : Int)), (2, .slice A l.length c), (7, .slice A3 OL.length c3), (8, .int .i64 (h : Int))] ∧ Mem w noEx wc ((Ie ++ Io))) ?_ ?_
 ·exact ⟨_, 0, [], none, 0, [], [], rfl, (Nat.zero_le _), rfl, (by simp), (fun x hx => by cases hx), (Sl.nil _ _), T.pick [2, 3, 4, 1, 0] rfl, (by simp only [List.append_nil]; exact M)⟩
 clear T M
 rintro mz ac wc ⟨h, OL, A3, c3, Ie, Io, hmm1, hh, hO, hOl, hE, hsl, T, M⟩
 refine wp_seq ?_
 refine Zsr ?_
 refine Zg3 T (Zq (Zrm rfl (T.e 4 rfl))) rfl (Zm 2 rfl rfl) rfl (fun _ T => Zq (rn_lss rfl (T.e 1 rfl) (T.e 0 rfl))) rfl ?_; clear T ac; intro ac T
 replace T := T.pick [0, 3, 4, 5, 6, 7] rfl
 refine Zln ?_
 refine wp_if (T.e 0 rfl) ?_ ?_
 ·intro h2
  refine Zsk ?_
  refine wp_seq ?_
  refine wp_block ?_
  refine Zsr ?_
  refine Zg2 T (Zq (Zrm rfl (T.e 3 rfl))) rfl (Zm 6 rfl rfl) rfl ?_; clear T ac; intro ac T
  refine Zl2 ?_
  refine Zoc (first := []) (cap := []) T rfl rfl rfl rfl evf (.cons (T.e 1 rfl) (.cons (T.e 0 rfl) .nil)) Tryz.func134 rfl rfl ?_
  refine Calls.mono (has5_any _ _ _ l (h : Int) _ (SA.rd M (Zz9 _)) (by omega)) ?_
  clear T; rintro e wc ⟨rfl, hb⟩ ac T
  replace M := M.call hb; clear hb
  refine lq T (rn_not rfl (T.e 0 rfl)) ?_; clear T ac; intro ac T
  replace T := T.pick [0, 5, 6, 7, 8, 9] rfl
  refine Zln ?_
  refine wp_cond_split (T.e 0 rfl) ?_ ?_
  ·intro h3
   (have h3' := h3; try simp only [Zb1, Zb2, Zb3, Zb4, Zb5, Zb6, Zb7] at h3')
   refine wp_region_lit ?_
   refine Zg3 T (Zq (Zrm rfl (T.e 4 rfl))) rfl (Zm 2 rfl rfl) rfl (Zm 4 rfl rfl) rfl ?_; clear T ac; intro ac T
   refine Zl2 ?_
   refine ow_bs0 (e := 3) M T rfl rfl rfl rfl (fun _ => by kernel_rfl) ?_; clear M T; intro g2 wc ac M T
   refine lq T (Zrm rfl (T.e 7 rfl)) ?_; clear T ac; intro ac T
   refine Zl2 ?_
   refine ow_appS Tryz.info3 M T rfl rfl rfl rfl (fun g w => Tryz.append0i _ _ g _ w) Tryz.underlying33 rfl rfl rfl (by omega) (T.e 1 rfl) (T.e 0 rfl) (SA.rd M (Zz9 _)) (ic_one _) ?_; clear M T; intro Augo1 cugo1 Iugo1 wc ac hSmgo1 M T
   replace M : Mem w noEx wc ((Ie ++ Io ++ Iugo1)) := M.swapI
   refine lq T (Zrm rfl (T.e 11 rfl)) ?_; clear T ac; intro ac T
   refine Zl2 ?_
   refine ow_bs (e := 3) [.int .i64 (h : Int)] M T rfl rfl rfl rfl (.cons (T.e 0 rfl) .nil) (fun _ => by kernel_rfl) ?_; clear M T; intro g3 wc ac M T
   refine Zl2 ?_
   refine ow_appM (((g3, .cells [.int .i64 (h : Int)]) :: (Ie ++ Io))) Tryz.info3 hSmgo1 M (by first | rfl | simp) T rfl rfl rfl rfl Tryz.underlying33 rfl rfl rfl (by omega) (T.e 2 rfl) (T.e 0 rfl) (Zne (i := 0) rfl) rfl rfl ?_; clear M T; intro gago2 cago2 wc ac M T
   refine Zl2 ?_
   refine Zoc (first := []) (cap := []) T rfl rfl rfl rfl evf (.cons (T.e 7 rfl) (.cons (T.e 6 rfl) (.cons (T.e 0 rfl) .nil))) Tryz.func109 rfl rfl ?_
   refine Calls.mono (ih1 wc (l ++ [(h : Int)]) _ _ _ [(gago2, .row 3 1 (l.length + 1) (ic l ++ [.int .i64 (h : Int)]) cago2)] (by simp) (by simp only [List.length_append, List.length_cons, List.length_nil]; omega) (by rw [← ic_snoc]; exact M.rdRow (Zne (i := 0) rfl)) ⟨_, _, fun w ex => by rw [← ic_snoc]; exact Sp.row (by simp [ic_length])⟩) ?_
   clear T; rintro e wc ⟨Au2, cu2, LLu2, Iu2, rfl, hLu2, SVu2, Eu2, N⟩ ac T
   obtain ⟨bu2, ou2, SVu2⟩ := SVu2
   have Su2 := SVu2 w noEx
   have hlbu2 : 0 < LLu2.length ∧ LLu2.length ≤ 1296 := by rw [show LLu2.length = (LLu2.map (·.1)).length from (List.length_map _).symm, hLu2]; exact prsP_bd _ hhi (by omega) _
   replace M : Mem w noEx wc ((gago2, .row 3 1 (l.length + 1) (ic l ++ [.int .i64 (h : Int)]) cago2) :: (g3, .cells [.int .i64 (h : Int)]) :: (Ie ++ Iu2 ++ Io)) := Mem.swap3 [(gago2, .row 3 1 (l.length + 1) (ic l ++ [.int .i64 (h : Int)]) cago2), (g3, .cells [.int .i64 (h : Int)])] Ie Io Iu2 (M.join N).swapI
   clear N
   refine Zl2 ?_
   refine ow_appX (((gago2, .row 3 1 (l.length + 1) (ic l ++ [.int .i64 (h : Int)]) cago2) :: (g3, .cells [.int .i64 (h : Int)]) :: (Ie ++ Iu2))) Tryz.info33 hsl M (by first | rfl | simp) T rfl rfl rfl rfl Tryz.underlying55 rfl rfl rfl (by omega) (by omega) (by omega) (T.e 9 rfl) (T.e 0 rfl) (Su2.rd M (.cons _ (.cons _ (subL (Zsq _ _))))) (lc_one _) ?_; clear M T; intro gx1 cgx1 wc ac M T
   refine l_q (v := (.slice (some ⟨gx1, 0, none⟩) (OL.length + LLu2.length) cgx1)) (T.pick [0, 1, 2, 3, 4, 5, 6, 7, 8, 9, 10, 11, 12, 13, 14, 16] rfl) rfl rfl rfl rfl (Zra rfl (T.e 0 rfl)) ?_; clear T ac; intro ac T
   refine wpList_nil ?_
   replace T := T.pick [0, 13, 14, 15, 16] rfl
   replace M := M.mask [true, true, false] rfl
   refine Znb ?_
   refine nm_then ?_
   refine wp_region_lit ?_
   refine Zg2 T (Zq (Zrm rfl (T.e 4 rfl))) rfl (fun _ T => Zq (rn_add rfl (T.e 0 rfl) evc (by omega))) rfl ?_; clear T ac; intro ac T
   refine l_q (v := (.int .i64 ((h : Int) + 1))) (T.pick [0, 1, 2, 3, 4, 5] rfl) rfl rfl rfl rfl (Zra rfl (T.e 0 rfl)) ?_; clear T ac; intro ac T
   replace T := T.pick [0, 3, 4, 5, 6] rfl
   refine Zln ?_
   have e9 : OL.length + LLu2.length = (OL ++ LLu2).length := by simp
   have e8 : (lc OL) ++ lc LLu2 = lc (OL ++ LLu2) := lc_append _ _
   rw [e9, e8] at M
   rw [e9] at T
   clear e9 e8
   exact ⟨_, by omega, h + 1, (OL ++ LLu2), _, _, (Ie ++ ([(gago2, .row 3 1 (l.length + 1) (ic l ++ [.int .i64 (h : Int)]) cago2)] ++ Iu2)), [(gx1, .row 33 1 (OL ++ LLu2).length (lc (OL ++ LLu2)) cgx1)], rfl, (by omega), (by rw [preP_go (by simpa using h3), List.map_append, hO, hLu2]), (by simp only [List.length_append]; omega), (hE.append Eu2), (Sl.row _ _ _ _ _ _), T.pick [2, 3, 4, 1, 0] rfl, (Mem.turn4 [] [(gx1, .row 33 1 (OL ++ LLu2).length (lc (OL ++ LLu2)) cgx1)] [(gago2, .row 3 1 (l.length + 1) (ic l ++ [.int .i64 (h : Int)]) cago2)] Ie Iu2 (M.permT [0, 1] 2 rfl rfl rfl rfl))⟩
  intro h3
  (have h3' := h3; try simp only [Zb1, Zb2, Zb3, Zb4, Zb5, Zb6, Zb7] at h3')
  refine wp_skip ?_
  refine Znb ?_
  refine nm_then ?_
  refine wp_region_lit ?_
  refine Zg2 T (Zq (Zrm rfl (T.e 5 rfl))) rfl (fun _ T => Zq (rn_add rfl (T.e 0 rfl) evc (by omega))) rfl ?_; clear T ac; intro ac T
  refine l_q (v := (.int .i64 ((h : Int) + 1))) (T.pick [0, 1, 2, 3, 4, 5, 6] rfl) rfl rfl rfl rfl (Zra rfl (T.e 0 rfl)) ?_; clear T ac; intro ac T
  replace T := T.pick [0, 4, 5, 6, 7] rfl
  refine Zln ?_
  exact ⟨_, by omega, h + 1, OL, _, _, Ie, Io, rfl, (by omega), (by rw [preP_skip (by simpa using h3)]; exact hO), (by omega), hE, hsl, T.pick [1, 2, 3, 4, 0] rfl, M⟩
 intro h2
 refine wp_exit ?_
 refine Zet ?_
 refine Zet ?_
 refine ex_hit ?_
 refine nm_then ?_
 refine Zsr ?_
 refine Zg3 T (Zq (Zrm rfl (T.e 4 rfl))) rfl (Zm 2 rfl rfl) rfl (Zm 4 rfl rfl) rfl ?_; clear T ac; intro ac T
 refine Zl2 ?_
 refine ow_bs0 (e := 3) M T rfl rfl rfl rfl (fun _ => by kernel_rfl) ?_; clear M T; intro g4 wc ac M T
 refine lq T (Zrm rfl (T.e 7 rfl)) ?_; clear T ac; intro ac T
 refine Zl2 ?_
 refine ow_appS Tryz.info3 M T rfl rfl rfl rfl (fun g w => Tryz.append0i _ _ g _ w) Tryz.underlying33 rfl rfl rfl (by omega) (T.e 1 rfl) (T.e 0 rfl) (SA.rd M (Zz9 _)) (ic_one _) ?_; clear M T; intro Augo3 cugo3 Iugo3 wc ac hSmgo3 M T
 replace M : Mem w noEx wc ((Ie ++ Io ++ Iugo3)) := M.swapI
 refine Zl2 ?_
 refine ow_bs (e := 3) [.int .i64 (-1)] M T rfl rfl rfl rfl (.cons evc .nil) (fun _ => by kernel_rfl) ?_; clear M T; intro g5 wc ac M T
 refine Zl2 ?_
 refine ow_appM (((g5, .cells [.int .i64 (-1)]) :: (Ie ++ Io))) Tryz.info3 hSmgo3 M (by first | rfl | simp) T rfl rfl rfl rfl Tryz.underlying33 rfl rfl rfl (by omega) (T.e 1 rfl) (T.e 0 rfl) (Zne (i := 0) rfl) rfl rfl ?_; clear M T; intro gago4 cago4 wc ac M T
 refine Zl2 ?_
 refine Zoc (first := []) (cap := []) T rfl rfl rfl rfl evf (.cons (T.e 6 rfl) (.cons (T.e 5 rfl) (.cons (T.e 0 rfl) .nil))) Tryz.func109 rfl rfl ?_
 refine Calls.mono (ih1 wc (l ++ [-1]) _ _ _ [(gago4, .row 3 1 (l.length + 1) (ic l ++ [.int .i64 (-1)]) cago4)] (by simp) (by simp only [List.length_append, List.length_cons, List.length_nil]; omega) (by rw [← ic_snoc]; exact M.rdRow (Zne (i := 0) rfl)) ⟨_, _, fun w ex => by rw [← ic_snoc]; exact Sp.row (by simp [ic_length])⟩) ?_
 clear T; rintro e wc ⟨Au3, cu3, LLu3, Iu3, rfl, hLu3, SVu3, Eu3, N⟩ ac T
 obtain ⟨bu3, ou3, SVu3⟩ := SVu3
 have Su3 := SVu3 w noEx
 have hlbu3 : 0 < LLu3.length ∧ LLu3.length ≤ 1296 := by rw [show LLu3.length = (LLu3.map (·.1)).length from (List.length_map _).symm, hLu3]; exact prsP_bd _ hhi (by omega) _
 replace M : Mem w noEx wc ((gago4, .row 3 1 (l.length + 1) (ic l ++ [.int .i64 (-1)]) cago4) :: (g5, .cells [.int .i64 (-1)]) :: (Ie ++ Iu3 ++ Io)) := Mem.swap3 [(gago4, .row 3 1 (l.length + 1) (ic l ++ [.int .i64 (-1)]) cago4), (g5, .cells [.int .i64 (-1)])] Ie Io Iu3 (M.join N).swapI
 clear N
 refine Zl2 ?_
 refine ow_appX (((gago4, .row 3 1 (l.length + 1) (ic l ++ [.int .i64 (-1)]) cago4) :: (g5, .cells [.int .i64 (-1)]) :: (Ie ++ Iu3))) Tryz.info33 hsl M (by first | rfl | simp) T rfl rfl rfl rfl Tryz.underlying55 rfl rfl rfl (by omega) (by omega) (by omega) (T.e 8 rfl) (T.e 0 rfl) (Su3.rd M (.cons _ (.cons _ (subL (Zsq _ _))))) (lc_one _) ?_; clear M T; intro gx2 cgx2 wc ac M T
 refine lq T (Zra rfl (T.e 0 rfl)) ?_; clear T ac; intro ac T
 refine wpList_nil ?_
 replace T := T.pick [0] rfl
 replace M := M.mask [true, true, false] rfl
 refine Znr ?_
 refine rt_1 T rfl (T.e 0 rfl) ?_
 refine ⟨some ⟨gx2, 0, none⟩, _, OL ++ LLu3, (Ie ++ ([(gago4, .row 3 1 (l.length + 1) (ic l ++ [.int .i64 (-1)]) cago4)] ++ Iu3)) ++ [(gx2, .row 33 1 (OL.length + LLu3.length) (lc OL ++ lc LLu3) cgx2)], by rw [List.length_append], by rw [List.map_append, hO, hLu3, show h = highs by omega]; rfl, ⟨gx2, 0, fun w ex => ?_⟩, (hE.append Eu3).mono ((Zsl _ _).trans (Zsq _ _)), Mem.turn4 [] [(gx2, .row 33 1 (OL.length + LLu3.length) (lc OL ++ lc LLu3) cgx2)] [(gago4, .row 3 1 (l.length + 1) (ic l ++ [.int .i64 (-1)]) cago4)] Ie Iu3 (M.permT [0, 1] 2 rfl rfl rfl rfl)⟩
 rw [List.length_append, ← lc_append]
 exact (Sp.row (by simp [lc_length])).mono (Zsq _ _)
theorem pairings5_any (lows highs : Nat) (hlo : lows ≤ 4) (hhi : highs ≤ 5) : ∀ r : Nat, PrsSpec lows highs r
 | 0 => fun w l A m c Il hm hlr hr hl => by
  subst hm
  exact pairings5_step lows highs 0 l A c Il w hlo hhi (fun _ h => by cases h) hlr hr hl
 | r + 1 => fun w l A m c Il hm hlr hr hl => by
  subst hm
  exact pairings5_step lows highs (r + 1) l A c Il w hlo hhi (fun r' h => by injection h with h; subst h; exact pairings5_any lows highs hlo hhi _) hlr hr hl
def validT (T : List (List Int)) (ok : Int → Bool) (p : List Int) : Bool := (List.range p.length).all fun i => decide (p.getD i 0 < 0) || tabP T ok i (p.getD i 0).toNat
def cnt8 (T : List (List Int)) (ok : Int → Bool) (p : List Int) : Int := if validT T ok p = true then pairsP p else -1
def bst8 (T : List (List Int)) (ok : Int → Bool) (b : List Int) (AL : List (List Int)) : List Int := AL.foldl (fun b x => if cnt8 T ok b < cnt8 T ok x then x else b) b
theorem getD_app {l : List Int} {x : Int} {i : Nat} (h : i < l.length) : (l ++ [x]).getD i 0 = l.getD i 0 := by
 rw [List.getD_eq_getElem?_getD, List.getD_eq_getElem?_getD, List.getElem?_append_left h]
theorem validT_snoc {T : List (List Int)} {ok : Int → Bool} {l : List Int} {x : Int} : validT T ok (l ++ [x]) = (validT T ok l && (decide (x < 0) || tabP T ok l.length x.toNat)) := by
 unfold validT
 rw [List.length_append, List.length_cons, List.length_nil, List.range_succ, List.all_append]
 congr 1
 ·apply Bool.eq_iff_iff.2
  simp only [List.all_eq_true, List.mem_range]
  exact forall_congr' fun i => forall_congr' fun hi => by rw [getD_app hi]
 ·rw [List.all_cons, List.all_nil, Bool.and_true]
  have : (l ++ [x]).getD l.length 0 = x := by rw [List.getD_eq_getElem?_getD, List.getElem?_append_right (Nat.le_refl _), Nat.sub_self]; rfl
  rw [this]
theorem prsP_pre {may : Nat → Nat → Bool} {highs : Nat} : ∀ (r : Nat) (l x : List Int), x ∈ prsP may highs r l → l <+: x
 | 0, l, x, h => by
  rw [prsP, List.mem_singleton] at h
  rw [h]; exact List.prefix_refl _
 | r + 1, l, x, h => by
  rw [prsP, List.mem_append] at h
  rcases h with h | h
  ·obtain ⟨k, -, hk⟩ := List.mem_flatMap.1 h
   split at hk
   ·exact (List.prefix_append _ _).trans (prsP_pre r _ x hk)
   ·cases hk
  ·exact (List.prefix_append _ _).trans (prsP_pre r _ x h)
theorem validT_pre {T : List (List Int)} {ok : Int → Bool} {l x : List Int} (h : l <+: x) (hv : validT T ok x = true) : validT T ok l = true := by
 obtain ⟨t, rfl⟩ := h
 unfold validT at *
 rw [List.all_eq_true] at *
 intro i hi
 have hi := List.mem_range.1 hi
 have := hv i (List.mem_range.2 (by rw [List.length_append]; omega))
 rwa [show (l ++ t).getD i 0 = l.getD i 0 by rw [List.getD_eq_getElem?_getD, List.getD_eq_getElem?_getD, List.getElem?_append_left hi]] at this
theorem prsP_filter {T : List (List Int)} {ok : Int → Bool} {highs : Nat} : ∀ (r : Nat) (l : List Int), validT T ok l = true → prsP (tabP T ok) highs r l = (prsP (fun _ _ => true) highs r l).filter (validT T ok)
 | 0, l, h => by
  rw [prsP, prsP, List.filter_cons, if_pos h]; rfl
 | r + 1, l, h => by
  rw [prsP, prsP, List.filter_append]
  have h1 : prsP (tabP T ok) highs r (l ++ [-1]) = (prsP (fun _ _ => true) highs r (l ++ [-1])).filter (validT T ok) := prsP_filter r _ (by rw [validT_snoc, h]; rfl)
  rw [h1]
  congr 1
  rw [List.filter_flatMap]
  have key : ∀ k : Nat, (if goP (tabP T ok) l k = true then prsP (tabP T ok) highs r (l ++ [(k : Int)]) else []) = ((if goP (fun _ _ => true) l k = true then prsP (fun _ _ => true) highs r (l ++ [(k : Int)]) else []).filter (validT T ok)) := fun k => by
   unfold goP
   cases hc : l.contains (k : Int) with
   | true => simp
   | false =>
    cases hm : tabP T ok l.length k with
    | true =>
     simp only [Bool.not_false, Bool.true_and, if_true]
     exact prsP_filter r _ (by rw [validT_snoc, h, Int.toNat_natCast, hm]; simp)
    | false =>
     simp only [Bool.not_false, Bool.true_and, if_true, Bool.false_eq_true, if_false]
     symm
     rw [List.filter_eq_nil_iff]
     intro x hx hv
     have := validT_pre (prsP_pre r _ x hx) hv
     rw [validT_snoc, Int.toNat_natCast, hm, h] at this
     simp at this
     omega
  have : ∀ (L : List Nat), (L.flatMap fun k => if goP (tabP T ok) l k = true then prsP (tabP T ok) highs r (l ++ [(k : Int)]) else []) = L.flatMap fun k => (if goP (fun _ _ => true) l k = true then prsP (fun _ _ => true) highs r (l ++ [(k : Int)]) else []).filter (validT T ok) := fun L => by
   induction L with
   | nil => rfl
   | cons k L ih => rw [List.flatMap_cons, List.flatMap_cons, ih, key k]
  exact this _
theorem bst8_rel {T : List (List Int)} {ok : Int → Bool} : ∀ (AL : List (List Int)) (b : List Int) (o : Option (List Int)), (o = none ∧ validT T ok b = false ∨ o = some b ∧ validT T ok b = true) →
  ((AL.filter (validT T ok)).foldl offerP o = none ∧ validT T ok (bst8 T ok b AL) = false ∨ (AL.filter (validT T ok)).foldl offerP o = some (bst8 T ok b AL) ∧ validT T ok (bst8 T ok b AL) = true)
 | [], b, o, h => h
 | x :: AL, b, o, h => by
  have hst : bst8 T ok b (x :: AL) = bst8 T ok (if cnt8 T ok b < cnt8 T ok x then x else b) AL := rfl
  rw [hst]
  have hbd := fun l => (pairsP_bd l).1
  cases hx : validT T ok x with
  | false =>
   have e1 : cnt8 T ok x = -1 := if_neg (by rw [hx]; decide)
   have e2 : ¬ cnt8 T ok b < cnt8 T ok x := by
    rw [e1]
    unfold cnt8
    split
    ·have := hbd b; omega
    ·omega
   rw [if_neg e2, List.filter_cons, if_neg (by rw [hx]; decide)]
   exact bst8_rel AL b o h
  | true =>
   have e1 : cnt8 T ok x = pairsP x := if_pos hx
   rw [List.filter_cons, if_pos hx, List.foldl_cons]
   rcases h with ⟨rfl, hb⟩ | ⟨rfl, hb⟩
   ·have e2 : cnt8 T ok b = -1 := if_neg (by rw [hb]; decide)
    rw [if_pos (by rw [e1, e2]; have := hbd x; omega)]
    rw [show offerP none x = some x from rfl]
    exact bst8_rel AL x _ (.inr ⟨rfl, hx⟩)
   ·have e2 : cnt8 T ok b = pairsP b := if_pos hb
    rw [e1, e2]
    by_cases hlt : pairsP b < pairsP x
    ·rw [if_pos hlt, show offerP (some b) x = some x from if_pos hlt]
     exact bst8_rel AL x _ (.inr ⟨rfl, hx⟩)
    ·rw [if_neg hlt, show offerP (some b) x = some b from if_neg hlt]
     exact bst8_rel AL b _ (.inr ⟨rfl, hb⟩)
theorem prsP_none {may : Nat → Nat → Bool} {highs : Nat} : ∀ (r : Nat) (l : List Int), l ++ List.replicate r (-1) ∈ prsP may highs r l
 | 0, l => by rw [prsP, List.replicate_zero, List.append_nil]; exact List.mem_singleton.2 rfl
 | r + 1, l => by
  rw [prsP]
  have h := prsP_none (may := may) (highs := highs) r (l ++ [-1])
  rw [List.append_assoc] at h
  exact List.mem_append_right _ (by rw [List.replicate_succ]; exact h)
theorem bst8_most {T : List (List Int)} {ok : Int → Bool} {lows highs : Nat} {b : List Int} {AL : List (List Int)} (h : prsP (fun _ _ => true) highs lows [] = b :: AL) : bst8 T ok b AL = mostP T ok lows highs := by
 have hf := prsP_filter (T := T) (ok := ok) (highs := highs) lows [] rfl
 have hr := bst8_rel (T := T) (ok := ok) AL b (if validT T ok b = true then some b else none) (by
  cases hv : validT T ok b with
  | true => exact .inr ⟨rfl, rfl⟩
  | false => exact .inl ⟨rfl, rfl⟩)
 have e : (AL.filter (validT T ok)).foldl offerP (if validT T ok b = true then some b else none) = mostO T ok lows highs := by
  unfold mostO growP
  rw [hf, h, List.filter_cons]
  split <;> rfl
 rw [e] at hr
 rcases hr with ⟨h1, -⟩ | ⟨h1, -⟩
 ·exfalso
  have hm : List.replicate lows (-1 : Int) ∈ prsP (tabP T ok) highs lows [] := by
   have := prsP_none (may := tabP T ok) (highs := highs) lows []
   rwa [List.nil_append] at this
  unfold mostO growP at h1
  have some_ : ∀ (L : List (List Int)) (o : Option (List Int)), o ≠ none → L.foldl offerP o ≠ none := by
   intro L
   induction L with
   | nil => exact fun o h => h
   | cons y L ih => exact fun o h => ih _ (by obtain ⟨q, hq⟩ := offerP_some o y; rw [hq]; exact Option.some_ne_none _)
  cases hL : prsP (tabP T ok) highs lows [] with
  | nil => rw [hL] at hm; cases hm
  | cons y L =>
   rw [hL, List.foldl_cons] at h1
   exact some_ L _ (by obtain ⟨q, hq⟩ := offerP_some none y; rw [hq]; exact Option.some_ne_none _) h1
 ·unfold mostP
  rw [h1]; rfl
theorem prsP_congr {may may' : Nat → Nat → Bool} {highs n : Nat} (hm : ∀ i h, i < n → h < highs → may i h = may' i h) : ∀ (r : Nat) (l : List Int), l.length + r ≤ n → prsP may highs r l = prsP may' highs r l
 | 0, l, _ => rfl
 | r + 1, l, hl => by
  rw [prsP, prsP, prsP_congr hm r (l ++ [-1]) (by simp; omega)]
  congr 1
  have key : ∀ (L : List Nat), (∀ k ∈ L, k < highs) → (L.flatMap fun k => if goP may l k = true then prsP may highs r (l ++ [(k : Int)]) else []) = L.flatMap fun k => if goP may' l k = true then prsP may' highs r (l ++ [(k : Int)]) else [] := fun L => by
   induction L with
   | nil => exact fun _ => rfl
   | cons k L ih =>
    intro hk
    rw [List.flatMap_cons, List.flatMap_cons, ih fun q hq => hk q (Zz1 hq), prsP_congr hm r (l ++ [(k : Int)]) (by simp; omega)]
    have : goP may l k = goP may' l k := by unfold goP; rw [hm l.length k (by omega) (hk k Zz2)]
    rw [this]
  exact key _ fun k hk => List.mem_range.1 hk
def okList (may : Nat → Nat → Bool) : Nat → List Int → Bool
 | _, [] => true
 | i, h :: r => (decide (h < 0) || may i h.toNat) && okList may (i + 1) r
theorem prs_prefix (may : Nat → Nat → Bool) (highs : Nat) : ∀ (r : Nat) (l p : List Int), p ∈ prsP may highs r l → ∃ t, p = l ++ t ∧ t.length = r
 | 0, l, p, h => by
  simp only [prsP, List.mem_cons, List.not_mem_nil, or_false] at h
  exact ⟨[], by simp [h], rfl⟩
 | r + 1, l, p, h => by
  unfold prsP at h
  rcases List.mem_append.1 h with h | h
  ·obtain ⟨k, _, hk⟩ := List.mem_flatMap.1 h
   split at hk
   ·obtain ⟨t, rfl, ht⟩ := prs_prefix may highs r _ p hk
    exact ⟨(k : Int) :: t, by simp, by simp [ht]⟩
   ·cases hk
  ·obtain ⟨t, rfl, ht⟩ := prs_prefix may highs r _ p h
   exact ⟨-1 :: t, by simp, by simp [ht]⟩
theorem filter_flatMap' {α β : Type} (f : α → List β) (p : β → Bool) : ∀ l : List α, (l.flatMap f).filter p = l.flatMap fun a => (f a).filter p
 | [] => rfl
 | a :: l => by rw [List.flatMap_cons, List.filter_append, filter_flatMap' f p l, List.flatMap_cons]
theorem okDrop {may : Nat → Nat → Bool} {highs r : Nat} {l p : List Int} {x : Int} (h : p ∈ prsP anyP highs r (l ++ [x])) : okList may l.length (p.drop l.length) = ((decide (x < 0) || may l.length x.toNat) && okList may (l ++ [x]).length (p.drop (l ++ [x]).length)) := by
 obtain ⟨t, rfl, _⟩ := prs_prefix anyP highs r _ p h
 have e1 : ((l ++ [x]) ++ t).drop l.length = x :: t := by rw [List.append_assoc, List.drop_left]; rfl
 have e2 : ((l ++ [x]) ++ t).drop (l ++ [x]).length = t := List.drop_left
 rw [e1, e2, okList, List.length_append]
 rfl
theorem prs_filter (may : Nat → Nat → Bool) (highs : Nat) : ∀ (r : Nat) (l : List Int), prsP may highs r l = (prsP anyP highs r l).filter fun p => okList may l.length (p.drop l.length)
 | 0, l => by simp [prsP, okList]
 | r + 1, l => by
  have key : ∀ x : Int, (prsP anyP highs r (l ++ [x])).filter (fun p => okList may l.length (p.drop l.length)) = if (decide (x < 0) || may l.length x.toNat) = true then prsP may highs r (l ++ [x]) else [] := fun x => by
   rw [List.filter_congr (q := fun p => (decide (x < 0) || may l.length x.toNat) && okList may (l ++ [x]).length (p.drop (l ++ [x]).length)) (fun p hp => okDrop hp)]
   split
   ·rename_i h
    rw [prs_filter may highs r (l ++ [x])]
    simp only [h, Bool.true_and]
   ·rename_i h
    simp only [Bool.not_eq_true] at h
    simp only [h, Bool.false_and]
    exact List.filter_eq_nil_iff.2 (by simp)
  conv => lhs; unfold prsP
  conv => rhs; unfold prsP
  rw [List.filter_append, filter_flatMap', key (-1)]
  congr 1
  congr 1
  funext h
  by_cases hm : (h : Int) ∈ l
  ·have g1 : goP may l h = false := by simp [goP, hm]
   have g2 : goP anyP l h = false := by simp [goP, hm]
   rw [if_neg (by simp [g1]), if_neg (by simp [g2])]
   rfl
  ·have g1 : goP may l h = may l.length h := by simp [goP, hm]
   have g2 : goP anyP l h = true := by simp [goP, hm, anyP]
   have e1 : decide ((h : Int) < 0) = false := by rw [decide_eq_false_iff_not]; omega
   rw [g1, if_pos g2, key (h : Int), e1, Bool.false_or, Int.toNat_natCast]
def okTp (T : List (List Int)) (ok : Int → Bool) (p : List Int) : Bool := okList (tabP T ok) 0 p
theorem mostO_eq (T : List (List Int)) (ok : Int → Bool) (lows highs : Nat) : mostO T ok lows highs = ((prsP anyP highs lows []).filter (okTp T ok)).foldl offerP none := by
 unfold mostO growP
 rw [prs_filter]
 rfl
theorem fold_mem : ∀ (L : List (List Int)) (o : Option (List Int)) (b : List Int), L.foldl offerP o = some b → b ∈ L ∨ o = some b
 | [], o, b, h => .inr h
 | p :: L, o, b, h => by
  rw [List.foldl_cons] at h
  rcases fold_mem L _ b h with h1 | h1
  ·exact .inl (Zz1 h1)
  ·cases o with
   | none => simp only [offerP, Option.some.injEq] at h1; exact .inl (by rw [h1]; exact Zz2)
   | some q =>
    by_cases h2 : pairsP q < pairsP p
    ·simp only [offerP, h2, if_true, Option.some.injEq] at h1; exact .inl (by rw [h1]; exact Zz2)
    ·simp only [offerP, h2, if_false] at h1; exact .inr h1
theorem fold_some : ∀ (L : List (List Int)) (o : Option (List Int)), (L ≠ [] ∨ o.isSome = true) → ∃ b, L.foldl offerP o = some b
 | [], o, h => by
  rcases h with h | h
  ·exact absurd rfl h
  ·exact Option.isSome_iff_exists.1 h
 | p :: L, o, _ => by
  rw [List.foldl_cons]
  obtain ⟨x, hx⟩ := offerP_some o p
  exact fold_some L _ (.inr (by rw [hx]; rfl))
theorem mostO_some (T : List (List Int)) (ok : Int → Bool) (lows highs : Nat) : ∃ b, mostO T ok lows highs = some b ∧ b ∈ prsP (tabP T ok) highs lows [] := by
 have h := (prsP_len (tabP T ok) highs lows []).1
 obtain ⟨b, hb⟩ := fold_some (prsP (tabP T ok) highs lows []) none (.inl (List.ne_nil_of_length_pos h))
 refine ⟨b, hb, ?_⟩
 rcases fold_mem _ _ b hb with h1 | h1
 · exact h1
 · cases h1
structure PairOk (highs : Nat) (p : List Int) : Prop where
 rng : ∀ x ∈ p, -1 ≤ x ∧ x < highs
 dif : p.Pairwise fun a b => 0 ≤ a → a ≠ b
theorem PairOk.nil (highs : Nat) : PairOk highs [] := ⟨fun x hx => (by cases hx), List.Pairwise.nil⟩
theorem PairOk.snoc {highs : Nat} {l : List Int} {x : Int} (h : PairOk highs l) (hx : -1 ≤ x ∧ x < highs) (hn : 0 ≤ x → x ∉ l) : PairOk highs (l ++ [x]) := by
 refine ⟨fun y hy => ?_, List.pairwise_append.2 ⟨h.dif, List.pairwise_singleton _ _, fun a ha b hb h0 e => ?_⟩⟩
 ·rcases List.mem_append.1 hy with hy | hy
  ·exact h.rng y hy
  ·simp only [List.mem_cons, List.not_mem_nil, or_false] at hy
   subst hy
   exact hx
 ·simp only [List.mem_cons, List.not_mem_nil, or_false] at hb
  subst hb
  subst e
  exact hn h0 ha
theorem prs_ok (may : Nat → Nat → Bool) (highs : Nat) : ∀ (r : Nat) (l : List Int), PairOk highs l → ∀ p ∈ prsP may highs r l, PairOk highs p
 | 0, l, h, p, hp => by
  simp only [prsP, List.mem_cons, List.not_mem_nil, or_false] at hp
  subst hp
  exact h
 | r + 1, l, h, p, hp => by
  unfold prsP at hp
  rcases List.mem_append.1 hp with hp | hp
  ·obtain ⟨k, hk, hp⟩ := List.mem_flatMap.1 hp
   split at hp
   ·rename_i hg
    have hk2 := List.mem_range.1 hk
    refine prs_ok may highs r _ (h.snoc (by omega) fun _ hm => ?_) p hp
    unfold goP at hg
    rw [List.contains_iff_mem.2 hm] at hg
    simp at hg
   ·cases hp
  ·exact prs_ok may highs r _ (h.snoc (by omega) fun h0 => by omega) p hp
theorem most_ok (T : List (List Int)) (ok : Int → Bool) (lows highs : Nat) : PairOk highs (mostP T ok lows highs) ∧ (mostP T ok lows highs).length = lows ∧ okTp T ok (mostP T ok lows highs) = true := by
 obtain ⟨b, hb, hm⟩ := mostO_some T ok lows highs
 have e : mostP T ok lows highs = b := by unfold mostP; rw [hb]; rfl
 rw [e]
 refine ⟨prs_ok _ highs lows [] (PairOk.nil highs) b hm, ?_, ?_⟩
 ·obtain ⟨t, rfl, ht⟩ := prs_prefix _ highs lows [] b hm
  simpa using ht
 ·rw [prs_filter] at hm
  exact (List.mem_filter.1 hm).2
theorem place_from (v : Int) : ∀ (l : List Int) (k i : Nat), l[i]? = some v → (∀ j, j < i → l[j]? ≠ some v) → placeF v l k = (k + i : Nat)
 | [], k, i, h, _ => by simp at h
 | x :: l, k, 0, h, _ => by
  simp at h
  rw [placeF, if_pos h]
  simp
 | x :: l, k, i + 1, h, hn => by
  have h0 := hn 0 (by omega)
  simp at h0
  rw [placeF, if_neg h0, place_from v l (k + 1) i (by simpa using h) (fun j hj => by have := hn (j + 1) (by omega); simpa using this)]
  congr 1
  omega
theorem PairOk.place {highs : Nat} {p : List Int} {i : Nat} {v : Int} (h : PairOk highs p) (hv : p[i]? = some v) (h0 : 0 ≤ v) : placeP p v = (i : Int) := by
 unfold placeP
 rw [place_from v p 0 i hv (fun j hj e => ?_)]
 ·simp
 ·have h1 := (List.getElem?_eq_some_iff.1 hv).1
  have h2 := List.pairwise_iff_getElem.1 h.dif j i (by omega) h1 hj
  rw [List.getElem?_eq_getElem (by omega)] at e hv
  injection e with e
  injection hv with hv
  rw [e, hv] at h2
  exact h2 h0 rfl
theorem fold_max : ∀ (L : List (List Int)) (o : Option (List Int)) (b : List Int), L.foldl offerP o = some b → (∀ p ∈ L, pairsP p ≤ pairsP b) ∧ ∀ q, o = some q → pairsP q ≤ pairsP b
 | [], o, b, h => ⟨fun p hp => (by cases hp), fun q hq => by rw [hq] at h; injection h with h; rw [h]; omega⟩
 | p :: L, o, b, h => by
  rw [List.foldl_cons] at h
  obtain ⟨h1, h2⟩ := fold_max L _ b h
  have key : pairsP p ≤ pairsP b ∧ ∀ q, o = some q → pairsP q ≤ pairsP b := by
   cases o with
   | none => exact ⟨h2 p rfl, fun q hq => by cases hq⟩
   | some r =>
    by_cases h3 : pairsP r < pairsP p
    ·have h4 := h2 p (by simp [offerP, h3])
     exact ⟨h4, fun q hq => by injection hq with hq; subst hq; omega⟩
    ·have h4 := h2 r (by simp [offerP, h3])
     exact ⟨by omega, fun q hq => by injection hq with hq; subst hq; exact h4⟩
  refine ⟨fun z hz => ?_, key.2⟩
  rcases List.mem_cons.1 hz with rfl | hz
  ·exact key.1
  ·exact h1 z hz
theorem most_max (T : List (List Int)) (ok : Int → Bool) (lows highs : Nat) {p : List Int} (hp : p ∈ prsP anyP highs lows []) (ho : okTp T ok p = true) : pairsP p ≤ pairsP (mostP T ok lows highs) := by
 obtain ⟨b, hb, _⟩ := mostO_some T ok lows highs
 have e : mostP T ok lows highs = b := by unfold mostP; rw [hb]; rfl
 rw [e]
 rw [mostO_eq] at hb
 exact (fold_max _ _ b hb).1 p (List.mem_filter.2 ⟨hp, ho⟩)
theorem tabP_table {b : Bx} {i k : Nat} : tabP (tableP b) okA i k = true ↔ ∃ x y, b.lows[i]? = some x ∧ b.highs[k]? = some y ∧ keepsP b.law b.due [x, y] = 1 := by
 unfold tabP tableP
 rw [List.getD_eq_getElem?_getD (l := b.lows.map (rowP b)), List.getElem?_map]
 cases hx : b.lows[i]? with
 | none => simp [okA]
 | some x =>
  show okA ((rowP b x).getD k 0) = true ↔ _
  unfold rowP
  rw [List.getD_eq_getElem?_getD, List.getElem?_map]
  cases hy : b.highs[k]? with
  | none => simp [okA]
  | some y => simp [okA]
theorem sub_count {α : Type} [DecidableEq α] : ∀ {V L : List α}, V.Sublist L → L.Nodup → L.countP (fun i => decide (i ∈ V)) = V.length
 | _, _, .slnil, _ => rfl
 | V, x :: L, .cons _ h, hn => by
  have hn2 := List.nodup_cons.1 hn
  have hx : x ∉ V := fun hm => hn2.1 (h.subset hm)
  rw [List.countP_cons, sub_count h hn2.2]
  simp [hx]
 | x :: V, _ :: L, .cons_cons _ h, hn => by
  have hn2 := List.nodup_cons.1 hn
  have hx : x ∉ L := hn2.1
  rw [List.countP_cons, List.length_cons]
  have e : L.countP (fun i => decide (i ∈ x :: V)) = L.countP (fun i => decide (i ∈ V)) := List.countP_congr fun i hi => by
   have : i ≠ x := fun e => hx (e ▸ hi)
   simp [this]
  rw [e, sub_count h hn2.2]
  simp
theorem countP_or {α : Type} {p q : α → Bool} : ∀ (L : List α), (∀ i ∈ L, ¬ (p i = true ∧ q i = true)) → L.countP (fun i => p i || q i) = L.countP p + L.countP q
 | [], _ => rfl
 | x :: L, h => by
  have h1 := h x Zz2
  rw [List.countP_cons, List.countP_cons, List.countP_cons, countP_or L fun i hi => h i (Zz1 hi)]
  cases hp : p x <;> cases hq : q x
  ·simp
  ·simp; omega
  ·simp; omega
  ·exact absurd ⟨hp, hq⟩ h1
theorem countP_le_or {α : Type} {p q r : α → Bool} (L : List α) (h : ∀ i ∈ L, r i = true → p i = true ∨ q i = true) : L.countP r ≤ L.countP p + L.countP q := by
 induction L with
 | nil => simp
 | cons x L ih =>
  have h1 := h x Zz2
  have h2 := ih fun i hi => h i (Zz1 hi)
  rw [List.countP_cons, List.countP_cons, List.countP_cons]
  cases hr : r x with
  | false => simp; omega
  | true =>
   rcases h1 hr with h3 | h3
   ·simp [h3]; omega
   ·simp [h3]; omega
def cntN (m : Nat) (a : Nat → Nat → Bool) (av : Nat → Bool) (U : List Nat) : Nat := (List.range m).countP fun k => av k && U.any fun i => a i k
theorem cntN_pos {m : Nat} {a : Nat → Nat → Bool} {av : Nat → Bool} {x : Nat} (h : 1 ≤ cntN m a av [x]) : ∃ k, k < m ∧ av k = true ∧ a x k = true := by
 unfold cntN at h
 obtain ⟨k, hk, hp⟩ := List.countP_pos_iff.1 h
 simp at hp
 exact ⟨k, List.mem_range.1 hk, hp.1, hp.2⟩
theorem cntN_less {m : Nat} {a : Nat → Nat → Bool} {av : Nat → Bool} {U : List Nat} (z : Nat) : cntN m a av U ≤ cntN m a (fun k => av k && decide (k ≠ z)) U + 1 := by
 unfold cntN
 have h1 : (List.range m).countP (fun k => decide (k = z)) ≤ 1 := by
  have := List.nodup_range (n := m)
  have h2 := List.nodup_iff_count.1 this z
  unfold List.count at h2
  have e : (List.range m).countP (fun k => decide (k = z)) = (List.range m).countP (fun k => k == z) := List.countP_congr fun i _ => by simp
  rw [e]
  exact h2
 have h2 := countP_le_or (p := fun k => (av k && decide (k ≠ z)) && U.any fun i => a i k) (q := fun k => decide (k = z)) (r := fun k => av k && U.any fun i => a i k) (List.range m) (fun k _ hr => by
  by_cases hz : k = z
  ·right; simp [hz]
  ·left
   rw [Bool.and_eq_true] at hr
   rw [Bool.and_eq_true, Bool.and_eq_true]
   exact ⟨⟨hr.1, by simp [hz]⟩, hr.2⟩)
 exact Nat.le_trans h2 (Nat.add_le_add_left h1 _)
theorem hall (m : Nat) (a : Nat → Nat → Bool) : ∀ (n : Nat) (L : List Nat) (av : Nat → Bool), L.length ≤ n → L.Nodup → (∀ U, U.Sublist L → U.length ≤ cntN m a av U) →
  ∃ g : Nat → Nat, (∀ i ∈ L, g i < m ∧ av (g i) = true ∧ a i (g i) = true) ∧ ∀ i ∈ L, ∀ j ∈ L, i ≠ j → g i ≠ g j
 | _, [], av, _, _, _ => ⟨fun _ => 0, ⟨fun i hi => (by cases hi), fun i hi => (by cases hi)⟩⟩
 | 0, x :: L, av, hl, _, _ => by simp at hl
 | n + 1, x :: L, av, hl, hn, hh => by
  have hn2 := List.nodup_cons.1 hn
  have hl2 : L.length ≤ n := by rw [List.length_cons] at hl; omega
  by_cases hc : ∃ U, U.Sublist L ∧ U ≠ [] ∧ cntN m a av U ≤ U.length
  ·obtain ⟨U, hU, hU0, hUc⟩ := hc
   have hUl : 0 < U.length := List.length_pos_iff.2 hU0
   have hUn : U.Nodup := hn2.2.sublist hU
   obtain ⟨g1, g1a, g1b⟩ := hall m a n U av (Nat.le_trans hU.length_le hl2) hUn fun V hV => hh V ((hV.trans hU).cons x)
   have key : ∃ g : Nat → Nat, (∀ i ∈ (x :: L).filter (fun i => decide (i ∉ U)), g i < m ∧ (av (g i) && !(U.any fun i' => a i' (g i))) = true ∧ a i (g i) = true) ∧ ∀ i ∈ (x :: L).filter (fun i => decide (i ∉ U)), ∀ j ∈ (x :: L).filter (fun i => decide (i ∉ U)), i ≠ j → g i ≠ g j := by
    refine hall m a n ((x :: L).filter fun i => decide (i ∉ U)) (fun k => av k && !(U.any fun i' => a i' k)) ?_ (hn.filter _) fun V hV => ?_
    ·have h1 := sub_count (hU.cons x) hn
     have h2 : ((x :: L).filter fun i => decide (i ∉ U)).length = (x :: L).countP fun i => decide (i ∉ U) := by rw [List.countP_eq_length_filter]
     have h3 := List.length_eq_countP_add_countP (fun i => decide (i ∈ U)) (l := x :: L)
     have h4 : (x :: L).countP (fun i => decide (i ∉ U)) = (x :: L).countP (fun i => decide ¬ (decide (i ∈ U)) = true) := List.countP_congr fun i _ => by simp
     rw [List.length_cons] at hl h3
     omega
    ·have hVL : V.Sublist (x :: L) := hV.trans List.filter_sublist
     have hdis : ∀ i ∈ V, i ∉ U := fun i hi => by
      have := (List.mem_filter.1 (hV.subset hi)).2
      simpa using this
     have hW := hh ((x :: L).filter fun i => decide (i ∈ V) || decide (i ∈ U)) List.filter_sublist
     have e1 : ((x :: L).filter fun i => decide (i ∈ V) || decide (i ∈ U)).length = V.length + U.length := by
      rw [← List.countP_eq_length_filter, countP_or, sub_count hVL hn, sub_count (hU.cons x) hn]
      intro i _ h
      simp at h
      exact hdis i h.1 h.2
     have e2 : cntN m a av ((x :: L).filter fun i => decide (i ∈ V) || decide (i ∈ U)) ≤ cntN m a av U + cntN m a (fun k => av k && !(U.any fun i' => a i' k)) V := by
      unfold cntN
      refine countP_le_or _ fun k _ hr => ?_
      rw [Bool.and_eq_true] at hr
      obtain ⟨hr1, hr2⟩ := hr
      cases hu : U.any fun i' => a i' k with
      | true => left; rw [hr1]; rfl
      | false =>
       right
       obtain ⟨i, hi, hai⟩ := List.any_eq_true.1 hr2
       have hi2 := (List.mem_filter.1 hi).2
       rw [Bool.or_eq_true, decide_eq_true_eq, decide_eq_true_eq] at hi2
       have hiV : i ∈ V := by
        rcases hi2 with h | h
        ·exact h
        ·exact absurd (List.any_eq_true.2 ⟨i, h, hai⟩) (by rw [hu]; simp)
       have : (V.any fun i => a i k) = true := List.any_eq_true.2 ⟨i, hiV, hai⟩
       show (av k && !(U.any fun i' => a i' k) && V.any fun i => a i k) = true
       rw [hr1, hu, this]
       rfl
     omega
   obtain ⟨g2, g2a, g2b⟩ := key
   have hin : ∀ i ∈ x :: L, i ∉ U → i ∈ (x :: L).filter fun i => decide (i ∉ U) := fun i hi hu => List.mem_filter.2 ⟨hi, by simpa using hu⟩
   refine ⟨fun i => if i ∈ U then g1 i else g2 i, fun i hi => ?_, fun i hi j hj hij => ?_⟩
   ·by_cases hu : i ∈ U
    ·simp only [hu, if_true]; exact g1a i hu
    ·simp only [hu, if_false]
     have h := g2a i (hin i hi hu)
     rw [Bool.and_eq_true] at h
     exact ⟨h.1, h.2.1.1, h.2.2⟩
   ·by_cases hu : i ∈ U <;> by_cases hv : j ∈ U
    ·simp only [hu, hv, if_true]; exact g1b i hu j hv hij
    ·simp only [hu, hv, if_true, if_false]
     intro e
     have h := (g2a j (hin j hj hv)).2.1
     rw [Bool.and_eq_true, Bool.not_eq_true'] at h
     have h2 : (U.any fun i' => a i' (g2 j)) = true := List.any_eq_true.2 ⟨i, hu, by rw [← e]; exact (g1a i hu).2.2⟩
     rw [h.2] at h2
     cases h2
    ·simp only [hu, hv, if_true, if_false]
     intro e
     have h := (g2a i (hin i hi hu)).2.1
     rw [Bool.and_eq_true, Bool.not_eq_true'] at h
     have h2 : (U.any fun i' => a i' (g2 i)) = true := List.any_eq_true.2 ⟨j, hv, by rw [e]; exact (g1a j hv).2.2⟩
     rw [h.2] at h2
     cases h2
    ·simp only [hu, hv, if_false]; exact g2b i (hin i hi hu) j (hin j hj hv) hij
  ·obtain ⟨z, hz1, hz2, hz3⟩ := cntN_pos (hh [x] (List.Sublist.cons_cons x (Zz9 L)))
   obtain ⟨g, ga, gb⟩ := hall m a n L (fun k => av k && decide (k ≠ z)) hl2 hn2.2 fun U hU => by
    by_cases hU0 : U = []
    ·simp [hU0]
    ·have h1 := cntN_less (m := m) (a := a) (av := av) (U := U) z
     have h2 : ¬ cntN m a av U ≤ U.length := fun h => hc ⟨U, hU, hU0, h⟩
     omega
   refine ⟨fun i => if i = x then z else g i, fun i hi => ?_, fun i hi j hj hij => ?_⟩
   ·by_cases hx : i = x
    ·subst hx; simp only [if_true]; exact ⟨hz1, hz2, hz3⟩
    ·simp only [hx, if_false]
     have h := ga i (by rcases List.mem_cons.1 hi with h | h; exact absurd h hx; exact h)
     rw [Bool.and_eq_true] at h
     exact ⟨h.1, h.2.1.1, h.2.2⟩
   ·have mem : ∀ i ∈ x :: L, i ≠ x → i ∈ L := fun i hi hx => by rcases List.mem_cons.1 hi with h | h; exact absurd h hx; exact h
    have gz : ∀ i ∈ L, g i ≠ z := fun i hi => by
     have h := (ga i hi).2.1
     rw [Bool.and_eq_true, decide_eq_true_eq] at h
     exact h.2
    by_cases hx : i = x <;> by_cases hy : j = x
    ·exact absurd (hx.trans hy.symm) hij
    ·simp only [hx, hy, if_true, if_false]; exact fun e => gz j (mem j hj hy) e.symm
    ·simp only [hx, hy, if_true, if_false]; exact gz i (mem i hi hx)
    ·simp only [hx, hy, if_false]; exact gb i (mem i hi hx) j (mem j hj hy) hij
def upsP (T : List (List Int)) (up : Int) (t : List Nat) : Int := t.foldl (fun u i => moreP u (T.getD i []) 0) up
theorem shortP_spec (T : List (List Int)) (n : Nat) : ∀ (k : Nat) (l : List Int) (first : Nat) (up : Int),
   (∀ r, shortP T n k l first up = some r → ∃ t : List Nat, r = l ++ t.map (fun i : Nat => (i : Int)) ∧ t.length = k ∧ t.Pairwise (· < ·) ∧ (∀ i ∈ t, first ≤ i ∧ i < n) ∧ sizeI (upsP T up t) < r.length) ∧
   (shortP T n k l first up = none → ∀ t : List Nat, t.length = k → t.Pairwise (· < ·) → (∀ i ∈ t, first ≤ i ∧ i < n) → l.length + k ≤ sizeI (upsP T up t))
 | 0, l, first, up => by
   refine ⟨fun r h => ?_, fun h t ht _ _ => ?_⟩
   · unfold shortP at h
     split at h
     · injection h with h
       subst h
       rename_i h2
       exact ⟨[], by simp, rfl, List.Pairwise.nil, (fun i hi => (by cases hi)), h2⟩
     · cases h
   · unfold shortP at h
     split at h
     · cases h
     · rename_i h2
       obtain rfl := List.length_eq_zero_iff.1 ht
       show l.length + 0 ≤ sizeI up
       omega
 | k + 1, l, first, up => by
   refine ⟨fun r h => ?_, fun h t ht hp hr => ?_⟩
   · unfold shortP at h
     obtain ⟨i, hi, h2⟩ := List.exists_of_findSome?_eq_some h
     have hi2 := List.mem_range'_1.1 hi
     obtain ⟨t, rfl, h3, h4, h5, h6⟩ := (shortP_spec T n k (l ++ [(i : Int)]) (i + 1) (moreP up (T.getD i []) 0)).1 r h2
     refine ⟨i :: t, by simp, by simp [h3], List.pairwise_cons.2 ⟨fun j hj => (by have := (h5 j hj).1; omega), h4⟩, fun j hj => ?_, h6⟩
     rcases List.mem_cons.1 hj with rfl | hj
     · omega
     · have := h5 j hj; omega
   · cases t with
     | nil => cases ht
     | cons i t =>
       unfold shortP at h
       have hi := hr i Zz2
       have hp2 := List.pairwise_cons.1 hp
       have h2 := List.findSome?_eq_none_iff.1 h i (List.mem_range'_1.2 (by omega))
       have h3 := (shortP_spec T n k (l ++ [(i : Int)]) (i + 1) (moreP up (T.getD i []) 0)).2 h2 t (by simpa using ht) hp2.2 fun j hj => ⟨hp2.1 j hj, (hr j (Zz1 hj)).2⟩
       rw [List.length_append, List.length_cons, List.length_nil] at h3
       show l.length + (k + 1) ≤ sizeI (upsP T (moreP up (T.getD i []) 0) t)
       omega
theorem sizeF_spec (T : List (List Int)) (n : Nat) : ∀ (d s : Nat), n + 1 - s = d →
  (∀ r, sizeF T n s = some r → ∃ q, s ≤ q ∧ 0 < q ∧ q ≤ n ∧ shortP T n q [] 0 0 = some r ∧ ∀ q', s ≤ q' → q' < q → 0 < q' → shortP T n q' [] 0 0 = none) ∧
  (sizeF T n s = none → ∀ q', s ≤ q' → q' ≤ n → 0 < q' → shortP T n q' [] 0 0 = none)
 | 0, s, hd => ⟨fun r h => (by rw [sizeF_end (by omega)] at h; cases h), fun _ q' h1 h2 _ => (by omega)⟩
 | d + 1, s, hd => by
  have ih := sizeF_spec T n d (s + 1) (by omega)
  by_cases h0 : s = 0
  ·subst h0
   rw [sizeF_zero]
   refine ⟨fun r h => ?_, fun h q' h1 h2 h3 => ih.2 h q' (by omega) h2 h3⟩
   obtain ⟨q, h1, h2, h3, h4, h5⟩ := ih.1 r h
   exact ⟨q, by omega, h2, h3, h4, fun q' _ hb hc => h5 q' (by omega) hb hc⟩
  ·cases hs : shortP T n s [] 0 0 with
   | some r0 =>
    rw [sizeF_some (by omega) (by omega) (by rw [hs]; rfl)]
    refine ⟨fun r h => ⟨s, Nat.le_refl _, by omega, by omega, h, fun q' h1 h2 => by omega⟩, fun h => by rw [hs] at h; cases h⟩
   | none =>
    rw [sizeF_none (by omega) (by omega) (by rw [hs]; rfl)]
    have key : ∀ (P : Nat → Prop), (∀ q', s + 1 ≤ q' → P q') → P s → ∀ q', s ≤ q' → P q' := fun P h1 h2 q' hq => by
     by_cases e : q' = s
     ·rw [e]; exact h2
     ·exact h1 q' (by omega)
    refine ⟨fun r h => ?_, fun h q' h1 h2 h3 => ?_⟩
    ·obtain ⟨q, h1, h2, h3, h4, h5⟩ := ih.1 r h
     refine ⟨q, by omega, h2, h3, h4, fun q' ha hb hc => ?_⟩
     by_cases e : q' = s
     ·rw [e]; exact hs
     ·exact h5 q' (by omega) hb hc
    ·by_cases e : q' = s
     ·rw [e]; exact hs
     ·exact ih.2 h q' (by omega) h2 h3
theorem moreP_has : ∀ (r : List Int) (up : Int) (h k : Nat), 0 ≤ up ∧ up < 32 → h + r.length ≤ 5 → k < 5 → hasI (moreP up r h) (k : Int) = (hasI up (k : Int) || (decide (h ≤ k) && okA (r.getD (k - h) 0)))
 | [], up, h, k, _, _, _ => by simp [moreP, okA]
 | v :: r, up, h, k, hu, hl, hk => by
  rw [List.length_cons] at hl
  unfold moreP
  have hu2 : 0 ≤ (if v = 1 then withI up h else up) ∧ (if v = 1 then withI up h else up) < 32 := by
   split
   ·exact with_bd hu (by omega)
   ·exact hu
  rw [moreP_has r _ (h + 1) k hu2 (by omega) hk]
  rcases Nat.lt_trichotomy k h with h1 | h1 | h1
  ·have e1 : decide (h + 1 ≤ k) = false := Zdf (by omega)
   have e2 : decide (h ≤ k) = false := Zdf (by omega)
   rw [e1, e2, Bool.false_and, Bool.or_false, Bool.false_and, Bool.or_false]
   split
   ·rw [with_has hu (by omega) (by omega), Zdf (show ¬ (k : Int) = h by omega), Bool.or_false]
   ·rfl
  ·subst h1
   have e1 : decide (k + 1 ≤ k) = false := Zdf (by omega)
   rw [e1, Bool.false_and, Bool.or_false, Nat.sub_self, Zdt (Nat.le_refl k), Bool.true_and]
   show _ = (hasI up k || okA v)
   unfold okA
   by_cases hv : v = 1
   ·rw [if_pos hv, with_has hu (by omega) (by omega), Zdt hv, Zdt rfl]
   ·rw [if_neg hv, Zdf hv, Bool.or_false]
  ·have e1 : decide (h + 1 ≤ k) = true := Zdt (by omega)
   have e2 : decide (h ≤ k) = true := Zdt (by omega)
   rw [e1, e2, Bool.true_and, Bool.true_and, show k - h = (k - (h + 1)) + 1 by omega]
   have e3 : (v :: r).getD (k - (h + 1) + 1) 0 = r.getD (k - (h + 1)) 0 := rfl
   rw [e3]
   congr 1
   split
   ·rw [with_has hu (by omega) (by omega), Zdf (show ¬ (k : Int) = h by omega), Bool.or_false]
   ·rfl
theorem upsP_has {T : List (List Int)} (hT : ∀ x ∈ T, x.length ≤ 5) : ∀ (t : List Nat) (up : Int) (k : Nat), 0 ≤ up ∧ up < 32 → k < 5 → hasI (upsP T up t) (k : Int) = (hasI up (k : Int) || t.any fun i => tabP T okA i k)
 | [], up, k, _, _ => by simp [upsP]
 | i :: t, up, k, hu, hk => by
  have hr : (T.getD i []).length ≤ 5 := by
   rw [List.getD_eq_getElem?_getD]
   cases h : T[i]? with
   | none => simp
   | some x => exact hT x (List.mem_of_getElem? h)
  show hasI (upsP T (moreP up (T.getD i []) 0) t) (k : Int) = _
  rw [upsP_has hT t _ k (moreP_bd _ _ 0 hu (by omega)) hk, moreP_has _ _ 0 k hu (by omega) hk, List.any_cons, Zdt (Nat.zero_le k), Bool.true_and, Nat.sub_zero, Bool.or_assoc]
  rfl
def nearN (T : List (List Int)) (t : List Nat) : Nat := cntN 5 (tabP T okA) (fun _ => true) t
theorem upsP_size {T : List (List Int)} (hT : ∀ x ∈ T, x.length ≤ 5) (t : List Nat) : sizeI (upsP T 0 t) = nearN T t := by
 unfold sizeI nearN cntN
 refine List.countP_congr fun k hk => ?_
 have hk := List.mem_range.1 hk
 rw [upsP_has hT t 0 k (by omega) hk, has0 (by omega), Bool.false_or, Bool.true_and]
theorem prs_mem {m : Nat} : ∀ (r : Nat) (l t : List Int), t.length = r → PairOk m (l ++ t) → l ++ t ∈ prsP anyP m r l
 | 0, l, t, h, _ => by
  obtain rfl := List.length_eq_zero_iff.1 h
  simp [prsP]
 | r + 1, l, t, h, ok => by
  cases t with
  | nil => cases h
  | cons x t =>
   have hr := ok.rng x (by simp)
   have ok2 : PairOk m ((l ++ [x]) ++ t) := by simpa using ok
   have h2 := prs_mem r (l ++ [x]) t (by simpa using h) ok2
   rw [List.append_assoc] at h2
   unfold prsP
   rw [List.mem_append]
   rcases Int.lt_or_le x 0 with hx | hx
   ·obtain rfl : x = -1 := by omega
    exact .inr h2
   ·left
    rw [List.mem_flatMap]
    refine ⟨x.toNat, List.mem_range.2 (by omega), ?_⟩
    have e : ((x.toNat : Nat) : Int) = x := Int.toNat_of_nonneg hx
    rw [e]
    have hn : x ∉ l := fun hm => by
     have := List.pairwise_append.1 ok.dif
     exact this.2.2 x hm x (by simp) hx rfl
    have hg : goP anyP l x.toNat = true := by
     unfold goP anyP
     rw [e]
     simp [hn]
    rw [if_pos hg]
    exact h2
theorem okList_of {may : Nat → Nat → Bool} : ∀ (i : Nat) (l : List Int), (∀ (j : Nat) (h : Int), l[j]? = some h → h < 0 ∨ may (i + j) h.toNat = true) → okList may i l = true
 | _, [], _ => rfl
 | i, x :: l, h => by
  unfold okList
  rw [Bool.and_eq_true, Bool.or_eq_true]
  refine ⟨?_, okList_of (i + 1) l fun j y hy => ?_⟩
  ·rcases h 0 x rfl with h1 | h1
   ·exact .inl (Zdt h1)
   ·exact .inr h1
  ·have := h (j + 1) y (by simpa using hy)
   rw [show i + 1 + j = i + (j + 1) by omega]
   exact this
theorem pairsP_full : ∀ {p : List Int}, (∀ x ∈ p, 0 ≤ x) → pairsP p = p.length
 | [], _ => rfl
 | x :: p, h => by
  unfold pairsP
  rw [if_pos (h x Zz2), pairsP_full fun y hy => h y (Zz1 hy), List.length_cons]
  omega
theorem pairsP_notfull : ∀ {p : List Int}, pairsP p = p.length → ∀ x ∈ p, 0 ≤ x
 | [], _, x, hx => by cases hx
 | y :: p, h, x, hx => by
  unfold pairsP at h
  have hb := pairsP_bd p
  rw [List.length_cons] at h
  by_cases hy : 0 ≤ y
  ·rw [if_pos hy] at h
   rcases List.mem_cons.1 hx with rfl | hx
   ·exact hy
   ·exact pairsP_notfull (by omega) x hx
  ·rw [if_neg hy] at h
   omega
theorem full_of_hall {T : List (List Int)} {n m : Nat} (htab : ∀ i k, tabP T okA i k = true → k < m) (hc : ∀ U : List Nat, U.Sublist (List.range n) → U.length ≤ nearN T U) : pairsP (mostP T okA n m) = n := by
 obtain ⟨g, ga, gb⟩ := hall 5 (tabP T okA) n (List.range n) (fun _ => true) (by simp) List.nodup_range hc
 have hlen : ((List.range n).map fun i => (g i : Int)).length = n := by simp
 have hat : ∀ (j : Nat) (h : Int), ((List.range n).map fun i => (g i : Int))[j]? = some h → j < n ∧ h = (g j : Int) := fun j h hj => by
  have hjn := (List.getElem?_eq_some_iff.1 hj).1
  rw [hlen] at hjn
  rw [List.getElem?_map, List.getElem?_range hjn] at hj
  exact ⟨hjn, by simpa using hj.symm⟩
 have ok : PairOk m ((List.range n).map fun i => (g i : Int)) := by
  refine ⟨fun x hx => ?_, ?_⟩
  ·obtain ⟨i, hi, rfl⟩ := List.mem_map.1 hx
   have := htab i _ (ga i hi).2.2
   omega
  ·rw [List.pairwise_map]
   refine List.Pairwise.imp_of_mem (R := fun a b => a ≠ b) (fun {a b} ha hb hab _ e => ?_) List.nodup_range
   exact gb a ha b hb hab (by exact_mod_cast e)
 have hm := prs_mem n [] _ hlen ok
 rw [List.nil_append] at hm
 have ho : okTp T okA ((List.range n).map fun i => (g i : Int)) = true := okList_of 0 _ fun j h hj => by
  obtain ⟨hjn, rfl⟩ := hat j h hj
  right
  rw [Nat.zero_add, Int.toNat_natCast]
  exact (ga j (List.mem_range.2 hjn)).2.2
 have h1 := most_max T okA n m hm ho
 rw [pairsP_full (fun x hx => by obtain ⟨i, _, rfl⟩ := List.mem_map.1 hx; omega), hlen] at h1
 have h2 := (pairsP_bd (mostP T okA n m)).2
 rw [(most_ok T okA n m).2.1] at h2
 omega
structure Wit (b : Bx) (t : List Nat) : Prop where
 asc : t.Pairwise (· < ·)
 lt : ∀ i ∈ t, i < b.lows.length
 few : nearN (tableP b) t < t.length
 least : ∀ t' : List Nat, t'.Pairwise (· < ·) → (∀ i ∈ t', i < b.lows.length) → t'.length < t.length → t'.length ≤ nearN (tableP b) t'
theorem tab_rows {b : Bx} (gb : b.good) : ∀ x ∈ tableP b, x.length ≤ 5 := fun x hx => by
 rw [(tableP_len b).2 x hx]
 exact gb.highs.1
theorem tab_lt {b : Bx} (i k : Nat) (h : tabP (tableP b) okA i k = true) : k < b.highs.length := by
 obtain ⟨x, y, _, hy, _⟩ := tabP_table.1 h
 exact (List.getElem?_eq_some_iff.1 hy).1
theorem wit_short {b : Bx} (gb : b.good) (hn : pairsP (mostL b okA) ≠ b.lows.length) : ∃ t : List Nat, shortE b = (t.map (fun i : Nat => (i : Int)), 0) ∧ Wit b t := by
 have hT := tab_rows gb
 have hs := sizeF_spec (tableP b) b.lows.length (b.lows.length + 1) 0 rfl
 have e9 : shortE b = ((sizeF (tableP b) b.lows.length 0).getD [], 0) := by
  unfold shortE
  rw [if_pos (checkB_good.2 gb), if_neg hn]
 cases hf : sizeF (tableP b) b.lows.length 0 with
 | none =>
  exfalso
  refine hn (full_of_hall tab_lt fun U hU => ?_)
  by_cases h0 : U.length = 0
  ·omega
  have hul := hU.length_le
  rw [List.length_range] at hul
  have h1 := hs.2 hf U.length (Nat.zero_le _) hul (by omega)
  have h2 := (shortP_spec (tableP b) b.lows.length U.length [] 0 0).2 h1 U rfl (List.Pairwise.sublist hU List.pairwise_lt_range) fun i hi => ⟨Nat.zero_le _, List.mem_range.1 (hU.subset hi)⟩
  rw [upsP_size hT, List.length_nil, Nat.zero_add] at h2
  exact h2
 | some r =>
  obtain ⟨q, h1, h2, h3, h4, h5⟩ := hs.1 r hf
  obtain ⟨t, rfl, t1, t2, t3, t4⟩ := (shortP_spec (tableP b) b.lows.length q [] 0 0).1 r h4
  rw [List.nil_append] at hf
  refine ⟨t, by rw [e9, hf]; rfl, t2, fun i hi => (t3 i hi).2, ?_, fun t' a1 a2 a3 => ?_⟩
  ·rw [upsP_size hT] at t4
   simpa using t4
  ·by_cases h0 : t'.length = 0
   ·omega
   have b1 := h5 t'.length (Nat.zero_le _) (by omega) (by omega)
   have b2 := (shortP_spec (tableP b) b.lows.length t'.length [] 0 0).2 b1 t' rfl a1 fun i hi => ⟨Nat.zero_le _, a2 i hi⟩
   rw [upsP_size hT, List.length_nil, Nat.zero_add] at b2
   exact b2
theorem short_none {b : Bx} (gb : b.good) (hn : pairsP (mostL b okA) = b.lows.length) : shortE b = ([], 11) := by
 unfold shortE
 rw [if_pos (checkB_good.2 gb), if_pos hn]
structure NearOk (T : List (List Int)) (t : List Nat) (l : List Int) : Prop where
 dif : l.Nodup
 mem : ∀ v ∈ l, ∃ k : Nat, v = (k : Int) ∧ k < 5 ∧ (t.any fun i => tabP T okA i k) = true
theorem nodup_le {α : Type} [DecidableEq α] : ∀ {l L : List α}, l.Nodup → (∀ x ∈ l, x ∈ L) → l.length ≤ L.length
 | [], _, _, _ => Nat.zero_le _
 | x :: l, L, hn, hm => by
  have hn2 := List.nodup_cons.1 hn
  have hx := hm x Zz2
  have h1 := nodup_le (l := l) (L := L.erase x) hn2.2 fun y hy => (List.mem_erase_of_ne (a := y) (b := x) (fun e => hn2.1 (by rw [← e]; exact hy))).2 (hm y (Zz1 hy))
  have h2 := List.length_erase_of_mem hx
  have h3 := List.length_pos_of_mem hx
  rw [List.length_cons]
  omega
theorem NearOk.le {T : List (List Int)} {t : List Nat} {l : List Int} (h : NearOk T t l) : l.length ≤ nearN T t ∧ l.length ≤ 5 := by
 have h1 : l.length ≤ (((List.range 5).filter fun k => true && t.any fun i => tabP T okA i k).map fun (k : Nat) => (k : Int)).length := by
  refine nodup_le h.dif fun v hv => ?_
  obtain ⟨k, rfl, hk, ht⟩ := h.mem v hv
  exact List.mem_map.2 ⟨k, List.mem_filter.2 ⟨List.mem_range.2 hk, by rw [ht]; rfl⟩, rfl⟩
 rw [List.length_map, ← List.countP_eq_length_filter] at h1
 refine ⟨h1, Nat.le_trans h1 ?_⟩
 have := List.countP_le_length (p := fun k => true && t.any fun i => tabP T okA i k) (l := List.range 5)
 rw [List.length_range] at this
 exact this
theorem find_congr {α : Type} {p q : α → Bool} : ∀ {L : List α}, (∀ x ∈ L, p x = q x) → L.find? p = L.find? q
 | [], _ => rfl
 | x :: L, h => by rw [List.find?_cons, List.find?_cons, h x Zz2, find_congr fun y hy => h y (Zz1 hy)]
def chN (n : Nat) : Nat → Nat → List (List Int)
 | 0, _ => [[]]
 | m + 1, first => (List.range' first (n - first)).flatMap fun i => (chN n m (i + 1)).map ((i : Int) :: ·)
def near8 (T : List (List Int)) (highs : Nat) (l : List Int) : Nat := (List.range highs).countP fun k => l.any fun x => decide ((T.getD x.toNat []).getD k 0 = 1)
def sh8 (T : List (List Int)) (n highs s : Nat) : Option (List Int) := (List.range' s (n + 1 - s)).findSome? fun m => (chN n m 0).find? fun l => decide (near8 T highs l < m)
theorem chN_len {n : Nat} : ∀ (m first : Nat), ∀ l ∈ chN n m first, l.length = m ∧ ∀ x ∈ l, 0 ≤ x ∧ x < n
 | 0, _, l, h => by
  rw [chN, List.mem_singleton] at h
  rw [h]; exact ⟨rfl, fun x hx => (by cases hx)⟩
 | m + 1, first, l, h => by
  rw [chN] at h
  obtain ⟨i, hi, h⟩ := List.mem_flatMap.1 h
  obtain ⟨t, ht, rfl⟩ := List.mem_map.1 h
  have hi := List.mem_range'_1.1 hi
  have ih := chN_len m (i + 1) t ht
  refine ⟨by rw [List.length_cons, ih.1], fun x hx => ?_⟩
  rcases List.mem_cons.1 hx with rfl | hx
  ·omega
  ·exact ih.2 x hx
theorem shortP_find (T : List (List Int)) (n : Nat) : ∀ (k : Nat) (t : List Nat) (first : Nat),
   shortP T n k (t.map (fun i : Nat => (i : Int))) first (upsP T 0 t) = ((chN n k first).map (t.map (fun i : Nat => (i : Int)) ++ ·)).find? fun x => decide (sizeI (upsP T 0 (x.map Int.toNat)) < x.length)
 | 0, t, first => by
   have e : (t.map (fun i : Nat => (i : Int))).map Int.toNat = t := by
     rw [List.map_map]; exact (List.map_congr_left fun i _ => Int.toNat_natCast i).trans (List.map_id t)
   rw [shortP, chN, List.map_cons, List.map_nil, List.append_nil, List.find?_cons, e]
   by_cases h : sizeI (upsP T 0 t) < (t.map (fun i : Nat => (i : Int))).length
   · rw [if_pos h, Zdt h]
   · rw [if_neg h, Zdf h]; rfl
 | k + 1, t, first => by
   rw [shortP, chN, List.map_flatMap, List.find?_flatMap]
   congr 1
   funext i
   have e1 : t.map (fun i : Nat => (i : Int)) ++ [(i : Int)] = (t ++ [i]).map (fun i : Nat => (i : Int)) := by rw [List.map_append]; rfl
   have e2 : moreP (upsP T 0 t) (T.getD i []) 0 = upsP T 0 (t ++ [i]) := by unfold upsP; rw [List.foldl_append]; rfl
   rw [e1, e2, shortP_find T n k (t ++ [i]) (i + 1), List.map_map, ← e1]
   congr 1
   exact List.map_congr_left fun x _ => (by rw [List.append_assoc]; rfl)
theorem near8_size {T : List (List Int)} {highs : Nat} (hT : ∀ x ∈ T, x.length ≤ highs) (hh : highs ≤ 5) (l : List Int) : sizeI (upsP T 0 (l.map Int.toNat)) = near8 T highs l := by
 rw [upsP_size (fun x hx => Nat.le_trans (hT x hx) hh)]
 unfold nearN cntN near8
 have e : List.range 5 = List.range highs ++ List.range' highs (5 - highs) := by
  rw [List.range_eq_range', List.range_eq_range']
  have := List.range'_append (s := 0) (m := highs) (n := 5 - highs) (step := 1)
  rw [Nat.zero_add, Nat.one_mul] at this
  rw [this, show highs + (5 - highs) = 5 by omega]
 rw [e, List.countP_append]
 have z : (List.range' highs (5 - highs)).countP (fun k => true && (l.map Int.toNat).any fun i => tabP T okA i k) = 0 := by
  refine List.countP_eq_zero.2 fun k hk hc => ?_
  have hk := (List.mem_range'_1.1 hk).1
  rw [Bool.true_and, List.any_eq_true] at hc
  obtain ⟨i, -, hi⟩ := hc
  have hr : (T.getD i []).length ≤ highs := by
   rw [List.getD_eq_getElem?_getD]
   cases h : T[i]? with
   | none => simp
   | some x => exact hT x (List.mem_of_getElem? h)
  unfold tabP okA at hi
  rw [List.getD_eq_getElem?_getD, List.getElem?_eq_none (by omega)] at hi
  exact absurd hi (by decide)
 rw [z, Nat.add_zero]
 refine List.countP_congr fun k _ => ?_
 rw [Bool.true_and, List.any_map]
 exact Iff.of_eq rfl
theorem sizeF_sh8 {T : List (List Int)} {n highs : Nat} (hT : ∀ x ∈ T, x.length ≤ highs) (hh : highs ≤ 5) (s : Nat) (hs : 0 < s) : sizeF T n s = sh8 T n highs s := by
 unfold sizeF sh8
 have key : ∀ (L : List Nat), (∀ q ∈ L, 0 < q) → (L.findSome? fun s : Nat => if s = 0 then none else shortP T n s [] 0 0) = L.findSome? fun m => (chN n m 0).find? fun l => decide (near8 T highs l < m) := fun L => by
   induction L with
   | nil => exact fun _ => rfl
   | cons q L ih =>
     intro hq
     have e := shortP_find T n q [] 0
     rw [List.findSome?_cons, List.findSome?_cons, ih fun x hx => hq x (Zz1 hx), if_neg (by have := hq q Zz2; omega)]
     have e2 : shortP T n q [] 0 0 = (chN n q 0).find? fun l => decide (near8 T highs l < q) := by
       refine e.trans ?_
       rw [show (chN n q 0).map ((([] : List Nat).map (fun i : Nat => (i : Int))) ++ ·) = chN n q 0 from List.map_id _]
       refine find_congr fun l hl => ?_
       rw [near8_size hT hh, (chN_len q 0 l hl).1]
     rw [e2]
 exact key _ fun q hq => (by have := List.mem_range'_1.1 hq; omega)
theorem okList_at {may : Nat → Nat → Bool} : ∀ (i : Nat) (l : List Int), okList may i l = true → ∀ (j : Nat) (h : Int), l[j]? = some h → h < 0 ∨ may (i + j) h.toNat = true
 | _, [], _, j, h, hj => by simp at hj
 | i, x :: l, ho, j, h, hj => by
  unfold okList at ho
  rw [Bool.and_eq_true, Bool.or_eq_true, decide_eq_true_eq] at ho
  cases j with
  | zero =>
   simp only [List.getElem?_cons_zero, Option.some.injEq] at hj
   subst hj
   exact ho.1
  | succ j =>
   rw [List.getElem?_cons_succ] at hj
   have := okList_at (i + 1) l ho.2 j h hj
   rwa [show i + 1 + j = i + (j + 1) by omega] at this
theorem nodup_map_on {α β : Type} {f : α → β} : ∀ {l : List α}, (∀ i ∈ l, ∀ j ∈ l, f i = f j → i = j) → l.Nodup → (l.map f).Nodup
 | [], _, _ => List.nodup_nil
 | x :: l, h, hn => by
  have hn2 := List.nodup_cons.1 hn
  rw [List.map_cons]
  refine List.nodup_cons.2 ⟨fun hm => ?_, nodup_map_on (fun i hi j hj => h i (Zz1 hi) j (Zz1 hj)) hn2.2⟩
  obtain ⟨y, hy, e⟩ := List.mem_map.1 hm
  have := h y (Zz1 hy) x Zz2 e
  subst this
  exact hn2.1 hy
theorem hall_of_full {b : Bx} (hn : pairsP (mostL b okA) = b.lows.length) {t : List Nat} (ht : t.Pairwise (· < ·)) (hlt : ∀ i ∈ t, i < b.lows.length) (h5 : b.highs.length ≤ 5) : t.length ≤ nearN (tableP b) t := by
 obtain ⟨ho, hl, hk⟩ := most_ok (tableP b) okA b.lows.length b.highs.length
 have hl : (mostL b okA).length = b.lows.length := hl
 have ho : PairOk b.highs.length (mostL b okA) := ho
 have hk : okList (tabP (tableP b) okA) 0 (mostL b okA) = true := hk
 have hpos := pairsP_notfull (p := mostL b okA) (by rw [hn, hl])
 have hv : ∀ i ∈ t, (mostL b okA)[i]? = some ((mostL b okA).getD i 0) := fun i hi => by
   rw [List.getD_eq_getElem?_getD, List.getElem?_eq_getElem (by rw [hl]; exact hlt i hi)]; rfl
 have hN : NearOk (tableP b) t (t.map fun i => (mostL b okA).getD i 0) := by
   refine ⟨?_, fun v hvm => ?_⟩
   · refine nodup_map_on (fun i hi j hj e => ?_) (ht.imp fun h => Nat.ne_of_lt h)
     have h1 := ho.place (hv i hi) (hpos _ (List.mem_of_getElem? (hv i hi)))
     have h2 := ho.place (hv j hj) (hpos _ (List.mem_of_getElem? (hv j hj)))
     rw [e, h2] at h1
     omega
   · obtain ⟨i, hi, rfl⟩ := List.mem_map.1 hvm
     have h0 := hpos _ (List.mem_of_getElem? (hv i hi))
     have hr := ho.rng _ (List.mem_of_getElem? (hv i hi))
     have h3 := okList_at 0 _ hk i _ (hv i hi)
     refine ⟨((mostL b okA).getD i 0).toNat, by omega, by omega, List.any_eq_true.2 ⟨i, hi, ?_⟩⟩
     rcases h3 with h3 | h3
     · omega
     · rwa [Nat.zero_add] at h3
 have := hN.le.1
 rw [List.length_map] at this
 exact this
theorem short8_eq {b : Bx} (gb : b.good) : shortE b = match sh8 (tableP b) b.lows.length b.highs.length 1 with | some l => (l, 0) | none => ([], 11) := by
 have hT : ∀ x ∈ tableP b, x.length ≤ b.highs.length := fun x hx => by rw [(tableP_len b).2 x hx]; exact Nat.le_refl _
 have h5 := gb.highs.1
 have e := sizeF_sh8 (n := b.lows.length) hT h5 1 (by omega)
 rw [← e, ← sizeF_zero]
 have hs := sizeF_spec (tableP b) b.lows.length (b.lows.length + 1) 0 rfl
 by_cases hn : pairsP (mostL b okA) = b.lows.length
 ·rw [short_none gb hn]
  cases hf : sizeF (tableP b) b.lows.length 0 with
  | none => rfl
  | some r =>
   exfalso
   obtain ⟨q, h1, h2, h3, h4, -⟩ := hs.1 r hf
   obtain ⟨t, rfl, t1, t2, t3, t4⟩ := (shortP_spec (tableP b) b.lows.length q [] 0 0).1 r h4
   have h6 := hall_of_full hn t2 (fun i hi => (t3 i hi).2) h5
   rw [upsP_size (tab_rows gb)] at t4
   simp at t4
   omega
 ·obtain ⟨t, h1, -⟩ := wit_short gb hn
  have e9 : shortE b = ((sizeF (tableP b) b.lows.length 0).getD [], 0) := by
   unfold shortE
   rw [if_pos (checkB_good.2 gb), if_neg hn]
  cases hf : sizeF (tableP b) b.lows.length 0 with
  | none =>
   exfalso
   refine hn (full_of_hall tab_lt fun U hU => ?_)
   by_cases h0 : U.length = 0
   ·omega
   have hul := hU.length_le
   rw [List.length_range] at hul
   have h1 := hs.2 hf U.length (Nat.zero_le _) hul (by omega)
   have h2 := (shortP_spec (tableP b) b.lows.length U.length [] 0 0).2 h1 U rfl (List.Pairwise.sublist hU List.pairwise_lt_range) fun i hi => ⟨Nat.zero_le _, List.mem_range.1 (hU.subset hi)⟩
   rw [upsP_size (tab_rows gb), List.length_nil, Nat.zero_add] at h2
   exact h2
  | some r => rw [e9, hf]; rfl
def okN (x y v : Int) : Bool := !(decide (v = x) || decide (v = y))
theorem row_vals {b : Bx} {i k : Nat} (hi : i < b.lows.length) (hk : k < b.highs.length) : ((tableP b).getD i []).getD k 0 = 1 ∨ ((tableP b).getD i []).getD k 0 = 2 ∨ ((tableP b).getD i []).getD k 0 = 3 := by
 have e : ((tableP b).getD i []).getD k 0 = keepsP b.law b.due [b.lows[i], b.highs[k]] := by
  rw [List.getD_eq_getElem?_getD (l := tableP b)]
  unfold tableP
  rw [List.getElem?_map, List.getElem?_eq_getElem hi]
  show (rowP b b.lows[i]).getD k 0 = _
  unfold rowP
  rw [List.getD_eq_getElem?_getD, List.getElem?_map, List.getElem?_eq_getElem hk]
  rfl
 rw [e]
 unfold keepsP
 split
 ·exact .inl rfl
 ·split
  ·exact .inr (.inl rfl)
  ·exact .inr (.inr rfl)
theorem mostP_N {b : Bx} {ok ok' : Int → Bool} (h : ∀ v, v = 1 ∨ v = 2 ∨ v = 3 → ok v = ok' v) : mostP (tableP b) ok b.lows.length b.highs.length = mostP (tableP b) ok' b.lows.length b.highs.length := by
 unfold mostP mostO growP
 rw [prsP_congr (n := b.lows.length) (may := tabP (tableP b) ok) (may' := tabP (tableP b) ok') (fun i k hi hk => h _ (row_vals hi hk)) b.lows.length [] (by simp)]
theorem most_A (b : Bx) : mostP (tableP b) (okN 2 3) b.lows.length b.highs.length = mostL b okA := mostP_N fun v hv => by rcases hv with rfl | rfl | rfl <;> decide
theorem most_M (b : Bx) : mostP (tableP b) (okN 2 2) b.lows.length b.highs.length = mostL b okM := mostP_N fun v hv => by rcases hv with rfl | rfl | rfl <;> decide
theorem validT_take {T : List (List Int)} {ok : Int → Bool} {p : List Int} {k : Nat} {x : Int} (h : p[k]? = some x) : validT T ok (p.take (k + 1)) = (validT T ok (p.take k) && (decide (x < 0) || tabP T ok k x.toNat)) := by
 have hk := (List.getElem?_eq_some_iff.1 h).1
 rw [List.take_add_one, h, Option.toList_some, validT_snoc, List.length_take, Nat.min_eq_left (by omega)]
theorem validT_no {T : List (List Int)} {ok : Int → Bool} {p : List Int} {k : Nat} {x : Int} (h : p[k]? = some x) (hx : 0 ≤ x) (ht : tabP T ok k x.toNat = false) : validT T ok p = false := by
 rw [Bool.eq_false_iff]
 intro hv
 have := validT_pre (List.take_prefix (k + 1) p) hv
 rw [validT_take h, ht, Zdf (by omega)] at this
 simp at this
theorem bst8_succ {T : List (List Int)} {ok : Int → Bool} {b : List Int} {AL : List (List Int)} {i : Nat} {x : List Int} (h : AL[i]? = some x) : bst8 T ok b (AL.take (i + 1)) = if cnt8 T ok (bst8 T ok b (AL.take i)) < cnt8 T ok x then x else bst8 T ok b (AL.take i) := by
 unfold bst8
 rw [List.take_add_one, h, List.foldl_append]
 rfl
theorem bst8_all {T : List (List Int)} {ok : Int → Bool} {lows highs : Nat} {b : List Int} {AL : List (List Int)} (h : prsP (fun _ _ => true) highs lows [] = AL) (h0 : AL[0]? = some b) : bst8 T ok b AL = mostP T ok lows highs := by
 cases AL with
 | nil => cases h0
 | cons c AL =>
  injection h0 with h0
  subst h0
  show bst8 T ok (if cnt8 T ok c < cnt8 T ok c then c else c) AL = _
  rw [if_neg (by omega)]
  exact bst8_most h
end Go.Proofs.YtdnbljihhimijaaGreat


/-
  reed: Shortest.
-/
import Derived.Test.YthlpceoajhcliaaRGood
namespace Go.Proofs.Ythlpceoajhcliaa
set_option linter.unusedSimpArgs false
set_option linter.unusedVariables false
open Go.RowKit

def plan (n r : Nat) : List Int := List.replicate (n - r) 1 ++ List.replicate r 2
theorem plan_length {n r : Nat} (h : r ≤ n) : (plan n r).length = n := by simp [plan]; omega
theorem plan_ok (n r : Nat) : ∀ k ∈ plan n r, okS k = true := by
  intro k hk
  rcases List.mem_append.1 hk with h | h
  · rw [(List.mem_replicate.1 h).2]; rfl
  · rw [(List.mem_replicate.1 h).2]; rfl
theorem plan_at {n r i : Nat} (hr : r ≤ n) (hi : i < n) : (plan n r)[i]? = some (if i < n - r then 1 else 2) := by
  unfold plan
  rw [List.getElem?_append]
  split
  · rename_i h; simp only [List.length_replicate] at h; rw [if_pos h]; simp [h]
  · rename_i h; simp only [List.length_replicate] at h; rw [if_neg h]; simp only [List.length_replicate, List.getElem?_replicate]; rw [if_pos (by omega)]
theorem plan_take {n r i : Nat} (hr : r ≤ n) (hi : i < n) (x : Int) (hx : x = if i < n - r then 1 else 2) : ic ((plan n r).take (i + 1)) = ic ((plan n r).take i) ++ [.int .i64 x] := by
  have hl : i < (plan n r).length := by rw [plan_length hr]; exact hi
  have h := plan_at hr hi
  rw [List.getElem?_eq_getElem hl] at h
  rw [List.take_succ_eq_append_getElem hl, ic_append, hx]
  injection h with h
  rw [h]
  rfl
def isFine (j : Jb) (l : List Int) : Bool := fineJ j (j.st.after l) == 1
/-- The first plan of n strokes that is fine, from r roots on (k: how many are left to look at). -/
def rootsFrom (j : Jb) (n : Nat) : Nat → Nat → Option (List Int)
  | 0, _ => none
  | k + 1, r => if isFine j (plan n r) then some (plan n r) else rootsFrom j n k (r + 1)
def plansFrom (j : Jb) : Nat → Nat → Option (List Int)
  | 0, _ => none
  | k + 1, n => match rootsFrom j n (n + 1) 0 with | some l => some l | none => plansFrom j k (n + 1)
theorem roots_hit {j : Jb} {n r : Nat} (hr : r < n + 1) (h : isFine j (plan n r) = true) : rootsFrom j n (n + 1 - r) r = some (plan n r) := by
  obtain ⟨k, hk⟩ : ∃ k, n + 1 - r = k + 1 := ⟨n - r, by omega⟩
  rw [hk, rootsFrom, if_pos h]
theorem roots_miss {j : Jb} {n r : Nat} (hr : r < n + 1) (h : isFine j (plan n r) = false) : rootsFrom j n (n + 1 - r) r = rootsFrom j n (n + 1 - (r + 1)) (r + 1) := by
  obtain ⟨k, hk⟩ : ∃ k, n + 1 - r = k + 1 := ⟨n - r, by omega⟩
  have hk2 : n + 1 - (r + 1) = k := by omega
  rw [hk, rootsFrom, if_neg (by rw [h]; simp), hk2]
theorem plans_hit {j : Jb} {n : Nat} {l : List Int} (hn : n < 7) (h : rootsFrom j n (n + 1) 0 = some l) : plansFrom j (7 - n) n = some l := by
  obtain ⟨k, hk⟩ : ∃ k, 7 - n = k + 1 := ⟨6 - n, by omega⟩
  rw [hk, plansFrom, h]
theorem plans_miss {j : Jb} {n : Nat} (hn : n < 7) (h : rootsFrom j n (n + 1) 0 = none) : plansFrom j (7 - n) n = plansFrom j (7 - (n + 1)) (n + 1) := by
  obtain ⟨k, hk⟩ : ∃ k, 7 - n = k + 1 := ⟨6 - n, by omega⟩
  have hk2 : 7 - (n + 1) = k := by omega
  rw [hk, plansFrom, h, hk2]
theorem roots_end {j : Jb} {n r : Nat} (hr : n + 1 ≤ r) : rootsFrom j n (n + 1 - r) r = none := by
  have : n + 1 - r = 0 := by omega
  rw [this]; rfl
theorem plans_end {j : Jb} {n : Nat} (hn : 7 ≤ n) : plansFrom j (7 - n) n = none := by
  have : 7 - n = 0 := by omega
  rw [this]; rfl
def shortL (j : Jb) : List Int := if checkJ j = 0 then (plansFrom j 7 0).getD [] else []
def shortE (j : Jb) : Int := if checkJ j = 0 then (if (plansFrom j 7 0).isSome then 0 else 11) else checkJ j

def ShortPost (l : List Int) (err : Int) (w : World) (e : Ending) (w' : World) : Prop :=
  ∃ (A : Option Addr) (c : Nat), e = .returned (.tuple #[.slice A l.length c, .int .i64 err]) ∧ Rd w' w'.heap.size 1 A l.length (ic l) ∧ Below w.heap.size w w'

theorem own_slice {w : World} {base e n : Nat} {v : Value} {xs : List Value} (h : w.ownsRow base e 1 v n xs) : ∃ A cap, v = .slice A n cap ∧ Rd w w.heap.size 1 A n xs := by
  rcases Nat.eq_zero_or_pos n with h0 | h0
  · subst h0
    have hx : xs = [] := by have := h.1; simpa using this
    subst hx
    rcases h.2 with ⟨rfl, _⟩ | ⟨g, cap, cur, rfl, _⟩
    · exact ⟨none, 0, rfl, Rd.empty⟩
    · exact ⟨_, _, rfl, Rd.empty⟩
  · obtain ⟨g, cap, rfl, _, _, _, hl, hr⟩ := own_form h h0
    exact ⟨_, _, rfl, ⟨h.1, fun _ => ⟨g, 0, rfl, hl, fun j u hu => hr j u hu⟩⟩⟩

theorem Try.infoInt : (Try.prog.info? 3).map (fun i => (i.zero, i.size, i.bytes)) = some (some (.int .i64 0), 1, 8) := by kernel_rfl

set_option maxRecDepth 100000 in
set_option maxHeartbeats 2000000 in
theorem Shortest_any (j : Jb) (A : Option Addr) (c : Nat) (w : World) (hr : Rd w w.heap.size 2 A j.sh.length (rc j.sh)) (hn : j.sh.length ≤ 9223372036854775807) :
    Calls Try.prog 19 #[jobV j A c] w (ShortPost (shortL j) (shortE j) w) := by
  have HR := Lib.hid hr
  clear hr
  have q0 := Bk.new w 30 #[.int .i64 j.p0, .int .i64 j.p1, .int .i64 j.t0, .int .i64 j.t1, .int .i64 j.r0, .int .i64 j.r1, .int .i64 j.u0, .int .i64 j.u1, .int .i64 j.d0, .int .i64 j.d1, .int .i64 j.a0, .int .i64 j.a1, .int .i64 j.b0, .int .i64 j.b1, .int .i64 j.le, .slice A j.sh.length c, .int .i64 j.wi, .int .i64 j.me]
  by_cases h0 : checkJ j = 0
  · have g := good_of h0
    have HO := Lib.hid g.ok
    have HU := Lib.hid g.st
    have HSL : Hid (shortL j = (plansFrom j 7 0).getD []) := by show _ = _; unfold shortL; rw [if_pos h0]
    have HSE : Hid (shortE j = if (plansFrom j 7 0).isSome then 0 else 11) := by show _ = _; unfold shortE; rw [if_pos h0]
    have H0 := Lib.hid h0
    clear g h0
    generalize shortL j = sl at *
    generalize shortE j = se at *
    obtain ⟨i0, hi, hz0, hz1, hz2⟩ := info_parts Try.infoInt
    have HI := Lib.hid hi
    have HZ0 := Lib.hid hz0
    have HZ1 := Lib.hid hz1
    have HZ2 := Lib.hid hz2
    clear hi hz0 hz1 hz2
    go_enter Try.func19, Try.ntmps19
    go_wp2_with (first
      | (refine wpList_load_blk (by rfl) 30 (.tmp 1) (by rfl) _ (by rfl) _ q0 _ Try.underlying30 (by rfl) (by kernel_rfl) ?_)
      | (go_at_call 49; ((with_reducible refine (check_any j _ _ _ ?_ ?_).mono ?_); (exact (HR.out.below (by (repeat' (first | (with_reducible exact Below.refl _ _) | (with_reducible refine Below.alloc ?_ ?_ _) | (with_reducible refine Below.setCell ?_ ?_ _) | (with_reducible refine Below.drew ?_) | ((with_reducible refine Below.trans ?_ (Below.mono (by assumption) ?_))) | go_size)))).more (by go_size)); (exact hn); rintro e w1 ⟨rfl, hb1⟩; have hz1 := hb1.size; (try simp only [World.size_alloc] at hz1); rw [H0.out]; have hbw1 : Below w.heap.size w w1 := (by (repeat' (first | (with_reducible exact Below.refl _ _) | (with_reducible refine Below.alloc ?_ ?_ _) | (with_reducible refine Below.setCell ?_ ?_ _) | (with_reducible refine Below.drew ?_) | ((with_reducible refine Below.trans ?_ (Below.mono (by assumption) ?_))) | go_size))); have q1 := q0.below hb1)))
    clear hb1 hz1
    go_loopw [14] (fun i wr => ∃ n : Nat, n ≤ 7 ∧ i = .int .i64 n ∧ Hid (plansFrom j 7 0 = plansFrom j (7 - n) n) ∧ Bk wr w.heap.size #[.int .i64 j.p0, .int .i64 j.p1, .int .i64 j.t0, .int .i64 j.t1, .int .i64 j.r0, .int .i64 j.r1, .int .i64 j.u0, .int .i64 j.u1, .int .i64 j.d0, .int .i64 j.d1, .int .i64 j.a0, .int .i64 j.a1, .int .i64 j.b0, .int .i64 j.b1, .int .i64 j.le, .slice A j.sh.length c, .int .i64 j.wi, .int .i64 j.me] ∧ Below w.heap.size w wr) (fun i _ => 7 - (intOf i).toNat)
    case atStart => exact ⟨0, by omega, rfl, rfl, q1, hbw1⟩
    case round =>
      clear q0 q1 hbw1
      obtain ⟨n, hn7, rfl, hp, q, hb⟩ := hrel
      obtain ⟨wo, rfl⟩ : ∃ wo : World, wo = wr := ⟨_, rfl⟩
      by_cases hlt : n < 7
      · have e7 : decide ((n : Int) < 7) = true := by simp; omega
        go_wp2
        go_loopw [19] (fun i wr => ∃ r : Nat, r ≤ n + 1 ∧ i = .int .i64 r ∧ Hid (rootsFrom j n (n + 1) 0 = rootsFrom j n (n + 1 - r) r) ∧ Bk wr w.heap.size #[.int .i64 j.p0, .int .i64 j.p1, .int .i64 j.t0, .int .i64 j.t1, .int .i64 j.r0, .int .i64 j.r1, .int .i64 j.u0, .int .i64 j.u1, .int .i64 j.d0, .int .i64 j.d1, .int .i64 j.a0, .int .i64 j.a1, .int .i64 j.b0, .int .i64 j.b1, .int .i64 j.le, .slice A j.sh.length c, .int .i64 j.wi, .int .i64 j.me] ∧ Below w.heap.size w wr) (fun i _ => n + 1 - (intOf i).toNat)
        case atStart => exact ⟨0, by omega, rfl, rfl, q, hb⟩
        case round =>
          clear q hb
          obtain ⟨r, hr1, rfl, hp2, q, hb⟩ := hrel
          obtain ⟨wp, rfl⟩ : ∃ wp : World, wp = wr := ⟨_, rfl⟩
          by_cases hlt2 : r < n + 1
          · have e8 : decide ((r : Int) < (n : Int) + 1) = true := by simp; omega
            go_wp2
            go_loopw [7, 23] (fun v i wr => ∃ k : Nat, k ≤ n ∧ i = .int .i64 k ∧ wr.ownsRow (w.heap.size + 1) 3 1 v k (ic ((plan n r).take k)) ∧ Bk wr w.heap.size #[.int .i64 j.p0, .int .i64 j.p1, .int .i64 j.t0, .int .i64 j.t1, .int .i64 j.r0, .int .i64 j.r1, .int .i64 j.u0, .int .i64 j.u1, .int .i64 j.d0, .int .i64 j.d1, .int .i64 j.a0, .int .i64 j.a1, .int .i64 j.b0, .int .i64 j.b1, .int .i64 j.le, .slice A j.sh.length c, .int .i64 j.wi, .int .i64 j.me] ∧ Below w.heap.size w wr) (fun _ i _ => n - (intOf i).toNat)
            case atStart => exact ⟨0, by omega, rfl, ⟨rfl, .inl ⟨rfl, rfl⟩⟩, q, hb⟩
            case round =>
              clear q hb
              obtain ⟨k, hk, rfl, own, q, hb⟩ := hrel
              have hz := q.lt
              by_cases hlt3 : k < n
              · by_cases hlt4 : k < n - r
                · have e9 : decide ((k : Int) < (n : Int) - (r : Int)) = true := by simp; omega
                  go_wp2_with (at_builtin; (refine wpList_app1 (by rfl) (.tmp 31) (.tmp 32) 31 (by rfl) (w.heap.size + 1) 3 i0 _ 8 Try.underlying31 HI.out HZ0.out #[.int .i64 1] HZ1.out HZ2.out (by rfl) (by simp) _ _ _ (by rfl) (own.alloc _) _ _ (by rfl) (Bk.new _ _ _) (by simp [Value.oneCell']) (by omega) (by omega) (by simp; omega) ?_; intro g cap w5 p5 gr5 at5 lt5))
                  go_roundw
                  case rel => exact ⟨k + 1, by omega, by go_num, by rw [plan_take (by omega) hlt3 1 (by rw [if_pos hlt4])]; exact p5, (q.alloc _).grown gr5 (fun e => by have := (own.lt _ e.symm).1; omega), Below.grown (hb.alloc (by omega) _) gr5 (by simp; omega) (fun x hx => by have := (own.lt x hx).1; omega)⟩
                  case measure => simp [intOf]; omega
                · have e9 : decide ((k : Int) < (n : Int) - (r : Int)) = false := by simp; omega
                  go_wp2_with (at_builtin; (refine wpList_app1 (by rfl) (.tmp 34) (.tmp 35) 31 (by rfl) (w.heap.size + 1) 3 i0 _ 8 Try.underlying31 HI.out HZ0.out #[.int .i64 2] HZ1.out HZ2.out (by rfl) (by simp) _ _ _ (by rfl) (own.alloc _) _ _ (by rfl) (Bk.new _ _ _) (by simp [Value.oneCell']) (by omega) (by omega) (by simp; omega) ?_; intro g cap w5 p5 gr5 at5 lt5))
                  go_roundw
                  case rel => exact ⟨k + 1, by omega, by go_num, by rw [plan_take (by omega) hlt3 2 (by rw [if_neg hlt4])]; exact p5, (q.alloc _).grown gr5 (fun e => by have := (own.lt _ e.symm).1; omega), Below.grown (hb.alloc (by omega) _) gr5 (by simp; omega) (fun x hx => by have := (own.lt x hx).1; omega)⟩
                  case measure => simp [intOf]; omega
              · have ek : k = n := by omega
                subst ek
                rw [List.take_of_length_le (by rw [plan_length (by omega)]; exact Nat.le_refl _)] at own
                obtain ⟨L, cap, rfl, rd⟩ := own_slice own
                have RD := Lib.hid rd
                clear rd own
                generalize hfv : fineJ j (j.st.after (plan k r)) = fv at *
                have HFV := Lib.hid hfv
                clear hfv
                have hfe : (fv == 1) = true ∨ (fv == 1) = false := by cases (fv == 1) <;> simp
                have HF : Hid (isFine j (plan k r) = (fv == 1)) := by show _ = _; unfold isFine; rw [HFV.out]
                go_wp2
                refine wp_region_G (fun _ W => Bk W w.heap.size #[.int .i64 j.p0, .int .i64 j.p1, .int .i64 j.t0, .int .i64 j.t1, .int .i64 j.r0, .int .i64 j.r1, .int .i64 j.u0, .int .i64 j.u1, .int .i64 j.d0, .int .i64 j.d1, .int .i64 j.a0, .int .i64 j.a1, .int .i64 j.b0, .int .i64 j.b1, .int .i64 j.le, .slice A j.sh.length c, .int .i64 j.wi, .int .i64 j.me] ∧ Below wr.heap.size wr W ∧ Below w.heap.size w W) 6 (by kernel_rfl) (by kernel_rfl) ?s0 ?r0
                case s0 => (exact ⟨q.drew, (Below.refl _ _).drew, hb.drew⟩)
                intro W0
                refine wpG_take (i := 0) (v := ?v1) rfl (by kernel_rfl) (by exact fun _ _ => Iff.rfl) (fun _ _ _ h => h) (Or.inl ⟨by rfl, ?y1⟩) ?r1
                case y1 => (intro w' hy; obtain ⟨L, hD, hl, hS⟩ := hy; ((refine run_load_blk 30 (.tmp 1) ?_ _ ?_ _ hS.1 _ Try.underlying30 ?_ ?_) <;> first | rfl | kernel_rfl); (try with_reducible rfl))
                (try simp only [Act.put, List.getElem_toArray, List.getElem_cons_succ, List.getElem_cons_zero, List.setIfInBounds_toArray, List.set_cons_zero, List.set_cons_succ])
                refine wpG_take (i := 1) (v := ?v2) rfl (by kernel_rfl) (by exact fun _ _ => Iff.rfl) (fun _ _ _ h => h) (Or.inl ⟨by rfl, ?y2⟩) ?r2
                case y2 => (intro w' hy; obtain ⟨L, hD, hl, hS⟩ := hy; ((refine run_load_blk 30 (.tmp 1) ?_ _ ?_ _ hS.1 _ Try.underlying30 ?_ ?_) <;> first | rfl | kernel_rfl); (try with_reducible rfl))
                (try simp only [Act.put, List.getElem_toArray, List.getElem_cons_succ, List.getElem_cons_zero, List.setIfInBounds_toArray, List.set_cons_zero, List.set_cons_succ])
                refine wpG_take (i := 2) (v := ?v3) rfl (by kernel_rfl) (by exact fun _ _ => Iff.rfl) (fun _ _ _ h => h) (Or.inl ⟨by rfl, ?y3⟩) ?r3
                case y3 => (intro w' hy; obtain ⟨L, hD, hl, hS⟩ := hy; clear hD hl hS; go_simp; (try with_reducible rfl))
                (try simp only [Act.put, List.getElem_toArray, List.getElem_cons_succ, List.getElem_cons_zero, List.setIfInBounds_toArray, List.set_cons_zero, List.set_cons_succ])
                refine wpG_step (i := 3) (by kernel_rfl) rfl (by rfl) ?r4
                intro hS K hK
                (obtain ⟨h1, h2, hb3⟩ := hS; go_simp; refine (after_any j _ _ _ _ _ (plan k r) _ ((RD.out.below h2).more h2.size) (by omega) HU.out (plan_ok _ _)).mono ?_; rintro e V1 ⟨rfl, hb1⟩; refine hK.out _ _ ⟨h1.below hb1, bl_trans h2 hb1 h2.size, bl_trans hb3 hb1 hb3.size⟩ ?_; clear h1 h2 hb3 hb1)
                clear hK K; intro W4
                (try simp only [Act.put, List.getElem_toArray, List.getElem_cons_succ, List.getElem_cons_zero, List.setIfInBounds_toArray, List.set_cons_zero, List.set_cons_succ])
                refine wpG_step (i := 4) (by kernel_rfl) rfl (by rfl) ?r5
                intro hS K hK
                (obtain ⟨h1, h2, hb3⟩ := hS; go_simp; refine (fine_any j _ _ _ _ HO.out ((HR.out.below hb3).more hb3.size)).mono ?_; rintro e V2 ⟨rfl, hb1⟩; rw [HFV.out]; refine hK.out _ _ ⟨h1.below hb1, bl_trans h2 hb1 h2.size, bl_trans hb3 hb1 hb3.size⟩ ?_; clear h1 h2 hb3 hb1)
                clear hK K; intro W5
                (try simp only [Act.put, List.getElem_toArray, List.getElem_cons_succ, List.getElem_cons_zero, List.setIfInBounds_toArray, List.set_cons_zero, List.set_cons_succ])
                refine wpG_take (i := 5) (v := ?v6) rfl (by kernel_rfl) (by exact fun _ _ => Iff.rfl) (fun _ _ _ h => h) (Or.inl ⟨by rfl, ?y6⟩) ?r6
                case y6 => (intro w' hy; obtain ⟨L, hD, hl, hS⟩ := hy; clear hD hl hS; go_simp; (try with_reducible rfl))
                (try simp only [Act.put, List.getElem_toArray, List.getElem_cons_succ, List.getElem_cons_zero, List.setIfInBounds_toArray, List.set_cons_zero, List.set_cons_succ])
                refine wpG_end (by kernel_rfl) ?_
                intro W
                 hS
                obtain ⟨h1, h2, hb3⟩ := hS
                rcases hfe with hfe | hfe
                · have HFE := Lib.hid hfe
                  go_wp2
                  go_ret2
                  have e1 := roots_hit (by omega) (HF.out.trans HFE.out)
                  have e2 := plans_hit hlt (hp2.out.trans e1)
                  have e3 := hp.out.trans e2
                  have e4 : sl = plan k r := by rw [HSL.out, e3]; rfl
                  have e5 : se = 0 := by rw [HSE.out, e3]; rfl
                  subst e4 e5
                  have hl : (plan k r).length = k := plan_length (by omega)
                  unfold ShortPost
                  rw [hl]
                  exact ⟨L, cap, rfl, (RD.out.below h2).more h2.size, hb3⟩
                · have HFE := Lib.hid hfe
                  go_wp2
                  go_roundw
                  case rel => exact ⟨r + 1, by omega, by go_num, by (show _ = _; rw [hp2.out, roots_miss (by omega) (HF.out.trans HFE.out)]), h1, hb3⟩
                  case measure => simp [intOf]; omega
          · have e8 : decide ((r : Int) < (n : Int) + 1) = false := by simp; omega
            go_wp2
            go_roundw
            case rel => exact ⟨n + 1, by omega, by go_num, by (show _ = _; rw [hp.out, plans_miss hlt (hp2.out.trans (roots_end (by omega)))]), q, hb⟩
            case measure => simp [intOf]; omega
      · have e7 : decide ((n : Int) < 7) = false := by simp; omega
        go_wp2
        go_ret2
        have e3 : plansFrom j 7 0 = none := hp.out.trans (plans_end (by omega))
        have e4 : sl = [] := by rw [HSL.out, e3]; rfl
        have e5 : se = 11 := by rw [HSE.out, e3]; rfl
        subst e4 e5
        exact ⟨none, 0, rfl, Rd.empty, hb⟩
  · have h1 : (checkJ j != 0) = true := by simpa using h0
    have HSL : Hid (shortL j = []) := by show _ = _; unfold shortL; rw [if_neg h0]
    have HSE : Hid (shortE j = checkJ j) := by show _ = _; unfold shortE; rw [if_neg h0]
    clear h0
    generalize shortL j = sl at *
    generalize shortE j = se at *
    go_enter Try.func19, Try.ntmps19
    go_wp2_with (first
      | (refine wpList_load_blk (by rfl) 30 (.tmp 1) (by rfl) _ (by rfl) _ q0 _ Try.underlying30 (by rfl) (by kernel_rfl) ?_)
      | (go_at_call 49; ((with_reducible refine (check_any j _ _ _ ?_ ?_).mono ?_); (exact (HR.out.below (by (repeat' (first | (with_reducible exact Below.refl _ _) | (with_reducible refine Below.alloc ?_ ?_ _) | (with_reducible refine Below.setCell ?_ ?_ _) | (with_reducible refine Below.drew ?_) | ((with_reducible refine Below.trans ?_ (Below.mono (by assumption) ?_))) | go_size)))).more (by go_size)); (exact hn); rintro e w1 ⟨rfl, hb1⟩; have hz1 := hb1.size; (try simp only [World.size_alloc] at hz1); have hbw1 : Below w.heap.size w w1 := (by (repeat' (first | (with_reducible exact Below.refl _ _) | (with_reducible refine Below.alloc ?_ ?_ _) | (with_reducible refine Below.setCell ?_ ?_ _) | (with_reducible refine Below.drew ?_) | ((with_reducible refine Below.trans ?_ (Below.mono (by assumption) ?_))) | go_size))))))
    go_ret2
    rw [HSL.out, HSE.out]
    exact ⟨none, 0, rfl, Rd.empty, hbw1⟩

end Go.Proofs.Ythlpceoajhcliaa

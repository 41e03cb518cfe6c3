/-
  Walks of functions, and plain laws (texts put together). No condition.
-/
import Derived.Test.YtoheddpnnjldgaaMBellowRested1
import Derived.Test.YtoheddpnnjldgaaMBellowRested2
import Derived.Test.YtoheddpnnjldgaaMBellowRested3
import Derived.Test.YtoheddpnnjldgaaMBellowRested4
set_option maxRecDepth 100000
set_option maxHeartbeats 1000000
set_option linter.unusedSimpArgs false
set_option linter.unusedVariables false
set_option linter.unusedSectionVars false
namespace Go.Proofs.Ytoheddpnnjldgaa
open Go.RowKit
section
open Go.RowKit Go.Proofs.Ytoheddpnnjldgaa.Bq
section
variable {P : Program} {J : Nat → Option Obj} {ops : Array Oper} {Q : Exit → Act → World → Prop}
def nF : Exit → Act → World → Prop := fun _ _ _ => False
theorem wp_nF {Q' : Exit → Act → World → Prop} {o : Oper} {a : Act} {w : World} {K : Act → World → Prop} (hh : o.wp P a w K nF) : o.wp P a w K Q' := by
 unfold Oper.wp at *
 generalize (execOp a.eval o).run P w = r at *
 cases r with
 | ok n w' =>
  cases n <;> simp only [Oper.upon] at hh ⊢ <;>
   first
    | exact hh
    | exact Calls.mono hh (fun e w'' he => by cases e <;> first | exact he | (obtain ⟨_, _, he⟩ := he; exact he.elim) | exact he.elim)
    | exact hh.elim
 | halt x w' => cases x <;> simp only [Oper.upon] at hh ⊢ <;> exact hh.elim
theorem wpOp_nF {Q' : Exit → Act → World → Prop} {i : Nat} {a : Act} {w : World} {K : Act → World → Prop} (hh : wpOp P ops nF i K a w) : wpOp P ops Q' i K a w := by
 unfold wpOp at *
 split
 ·simpa [*] using hh
 ·rename_i o ho
  simp only [ho] at hh
  split
  ·rename_i hw
   simp only [hw, if_true] at hh
   rcases hh with hh | ⟨-, _, _, hh⟩
   ·exact .inl (wp_nF hh)
   ·exact hh.elim
  ·rename_i hw
   simp only [hw] at hh
   exact hh
def opB (P : Program) (J : Nat → Option Obj) (ops : Array Oper) (T0 : Nat → Question → Nat) (i : Nat) (K : Act → World → Prop) (a : Act) (w : World) : Prop :=
 (∀ T, wpOp P ops nF i (fun a' w' => K a' (Bq.tp w' T0 0)) a (Bq.tp w T 0)) ∨
 ∃ o f args R, ops[i]? = some o ∧ Region.wanted o (yielded ops a.tmps) = true ∧ (∀ T d, (execOp a.eval o).run P (Bq.tp w T d) = .ok (.enter f args) (Bq.tp w T d)) ∧ CallsB P J f args w R ∧ ∀ e w', R e w' → ∃ v, e = .returned v ∧ K (a.put o.dst v) w'
theorem opB_mono {T0 : Nat → Question → Nat} {i : Nat} {K K' : Act → World → Prop} {a : Act} {w : World} (h : ∀ a w, K a w → K' a w) (hh : opB P J ops T0 i K a w) : opB P J ops T0 i K' a w := by
 rcases hh with hh | ⟨o, f, args, R, h1, h2, h3, h4, h5⟩
 · exact .inl fun T => wpOp_mono (fun a w hk => h _ _ hk) (hh T)
 · exact .inr ⟨o, f, args, R, h1, h2, h3, h4, fun e w' hR => by obtain ⟨v, h6, h7⟩ := h5 e w' hR; exact ⟨v, h6, h _ _ h7⟩⟩
theorem opB_sound (hP : FuncsOk P) {T0 : Nat → Question → Nat} {i : Nat} {rest : List Nat} {K : Act → World → Prop} {a : Act} {w : World} (hh : opB P J ops T0 i K a w) (h : ∀ a' w', K a' w' → wpRB P J ops Q rest a' w') : wpRB P J ops Q (i :: rest) a w := by
 rcases hh with hh | ⟨o, f, args, R, h1, h2, h3, h4, h5⟩
 ·intro b k cs Post hkd hA
  refine comp_lone hP fun T => ?_
  have h1 : wpOps P ops (pq (fun a w => K a (Bq.tp w T0 0)) nF) [i] a (Bq.tp w T 0) := by
   rw [wpOps_cons]
   exact wpOp_nF (hh T)
  rcases ops_pre (Q := nF) rest [i] a (Bq.tp w T 0) h1 b k cs with ⟨a', w', hK, hs⟩ | ⟨ch, a', w', todo, hq, hs⟩
  ·exact ⟨_, _, w', hs, comp_pt (h _ _ hK b k cs Post hkd hA)⟩
  ·exact hq.elim
 ·exact rb_call hP h1 h2 h3 h4 fun e w' hR => by obtain ⟨v, h6, h7⟩ := h5 e w' hR; exact ⟨v, h6, h _ _ h7⟩
theorem opB_putIf {C : World → Prop} {T0 : Nat → Question → Nat} {j : Nat} {oi oj : Oper} {v : Value} (hj : ops[j]? = some oj) (hap : oi.apart ops oj = true) (hsi : ∀ cs b, oi.op ≠ .select cs b) (hsj : ∀ cs b, oj.op ≠ .select cs b) {K : Act → World → Prop} {a : Act} {w : World}
  (hy : YieldsIf P ops C oi v a) (hh : opB P J ops T0 j K (a.put oi.dst v) w) : opB P J ops T0 j (fun a' w' => YieldsIf P ops C oi v a' ∧ K (a'.put oi.dst v) w') a w := by
 rcases hh with hh | ⟨o, f, args, R, h1, h2, h3, h4, h5⟩
 ·exact .inl fun T => wpOp_putIf hj hap hsi hsj (fun _ _ _ h => h) hy (hh T)
 ·rw [hj] at h1
  injection h1 with h1
  subst h1
  obtain ⟨k1, k2, k3⟩ := Oper.apart_spec hap
  refine .inr ⟨oj, f, args, R, hj, by rw [← wanted_put oj a oi.dst v k1]; exact h2, fun T d => by rw [← execOp_put oj hsj a oi.dst v k1]; exact h3 T d, h4, fun e w' hR => ?_⟩
  obtain ⟨u, h6, h7⟩ := h5 e w' hR
  exact ⟨u, h6, hy.of_same (execOp_put oi hsi a oj.dst u k3) (wanted_put oi a oj.dst u k3), by rw [← Act.put_comm a v u k2]; exact h7⟩
def StOk (S : World → Array Bool → World → Prop) : Prop := ∀ w0 T d d' B W, S w0 B W → S (Bq.tp w0 T d) B (Bq.tp W T d')
def anyB (P : Program) (J : Nat → Option Obj) (ops : Array Oper) (Q : Exit → Act → World → Prop) (w0 : World) (S : World → Array Bool → World → Prop) : Nat → Array Bool → Act → World → Prop
 | 0, listed, a, w => Region.ready .any ops listed = [] ∧ Q .normal a (Bq.tp w w0.tape 0)
 | fuel + 1, listed, a, w =>
  (Region.ready .any ops listed = [] → Q .normal a (Bq.tp w w0.tape 0)) ∧
  ∀ i ∈ Region.ready .any ops listed, opB P J ops w0.tape i (fun a' w' => S w0 (listed.setIfInBounds i true) w' ∧ anyB P J ops Q w0 S fuel (listed.setIfInBounds i true) a' w') a w
theorem opB_tp {T0 : Nat → Question → Nat} {i : Nat} {K : Act → World → Prop} {a : Act} {w : World} (hh : opB P J ops T0 i K a w) : opB P J ops T0 i K a (Bq.tp w T0 0) := by
 rcases hh with hh | ⟨o, f, args, R, h1, h2, h3, h4, h5⟩
 · exact .inl hh
 · exact .inr ⟨o, f, args, R, h1, h2, h3, CallsB.tp h4, h5⟩
theorem anyB_tp {w0 : World} {S : World → Array Bool → World → Prop} : ∀ {fuel : Nat} {listed : Array Bool} {a : Act} {w : World}, anyB P J ops Q w0 S fuel listed a w → anyB P J ops Q w0 S fuel listed a (Bq.tp w w0.tape 0)
 | 0, _, _, _, h => h
 | _ + 1, _, _, _, h => ⟨h.1, fun i hi => opB_tp (h.2 i hi)⟩
theorem anyB_sound (hP : FuncsOk P) {w0 : World} {S : World → Array Bool → World → Prop} : ∀ (fuel t : Nat) (listed : Array Bool) (a : Act) (w : World), anyB P J ops Q w0 S fuel listed a w → wpRB P J ops Q (Region.linearise.go .any ops fuel t listed []) a w := by
 have nil : ∀ (a : Act) (w : World), Q .normal a (Bq.tp w w0.tape 0) → wpRB P J ops Q [] a w := fun a w h b k cs Post hk hA => comp_pt (rb_nil hP h b k cs Post hk hA)
 intro fuel
 induction fuel with
 | zero => intro t listed a w h; simpa [Region.linearise.go] using nil a w h.2
 | succ fuel ih =>
  intro t listed a w h
  obtain ⟨h₀, h₁⟩ := h
  simp only [Region.linearise.go]
  change wpRB P J ops Q (match (Region.ready .any ops listed)[t % (Region.ready .any ops listed).length]? with
   | some i => Region.linearise.go .any ops fuel (t / (Region.ready .any ops listed).length) (listed.setIfInBounds i true) [i]
   | none => [].reverse) a w
  cases hi : (Region.ready .any ops listed)[t % (Region.ready .any ops listed).length]? with
  | none =>
   have hnil : Region.ready .any ops listed = [] := by
    cases hr : Region.ready .any ops listed with
    | nil => rfl
    | cons y ys =>
     rw [hr] at hi
     have hlt : t % (y :: ys).length < (y :: ys).length := Nat.mod_lt _ (by simp)
     simp at hi
     simp at hlt
     omega
   simpa using nil a w (h₀ hnil)
  | some i =>
   simp only []
   rw [linearise_go_acc, List.reverse_singleton, List.singleton_append]
   exact opB_sound hP (h₁ i (List.mem_of_getElem? hi)) fun a' w' q => ih _ _ a' w' q.2
theorem anyB_first {w0 : World} {S : World → Array Bool → World → Prop} {i : Nat} {oi : Oper} {v : Value} (hi : ops[i]? = some oi) (hst : StOk S)
  (hsel : ∀ (j : Nat) (o : Oper) cs b, ops[j]? = some o → o.op ≠ .select cs b) (hSi : ∀ w0 L w, S w0 (L.setIfInBounds i true) w ↔ S w0 L w) :
  ∀ (fuel : Nat) (listed : Array Bool) (a : Act) (w : World),
   (∀ j oj, ops[j]? = some oj → j ≠ i → listed.getD j true = false → (∀ e ∈ oj.after, Region.binds .any e = true → e.on ≠ i) → oi.apart ops oj = true) →
   i ∈ Region.ready .any ops listed → YieldsIf P ops (fun w' => ∃ L, DC ops L ∧ L.getD i true = false ∧ S (Bq.tp w0 w'.tape 0) L w') oi v a → DC ops listed → S w0 listed w →
   anyB P J ops Q w0 S fuel (listed.setIfInBounds i true) (a.put oi.dst v) w → anyB P J ops Q w0 S (fuel + 1) listed a w := by
 intro fuel
 have yl : ∀ (listed : Array Bool) (a : Act) (w : World) (K : Act → World → Prop), i ∈ Region.ready .any ops listed → YieldsIf P ops (fun w' => ∃ L, DC ops L ∧ L.getD i true = false ∧ S (Bq.tp w0 w'.tape 0) L w') oi v a → DC ops listed → S w0 listed w → K (a.put oi.dst v) (Bq.tp w w0.tape 0) → opB P J ops w0.tape i K a w := fun listed a w K hr hy hD hS hK =>
  .inl fun T => hy.wpOp hi ⟨listed, hD, (mem_ready.1 hr).1, hst w0 T 0 0 listed w hS⟩ hK
 have nS : ∀ L w, S w0 L w → S w0 L (Bq.tp w w0.tape 0) := fun L w h => by
  have := hst w0 w0.tape w0.drawn 0 L w h
  exact this
 induction fuel with
 | zero =>
  intro listed a w _ hr hy hD hS H
  refine ⟨fun h => (by rw [h] at hr; cases hr), fun j hj => ?_⟩
  by_cases hji : j = i
  ·subst hji; exact yl listed a w _ hr hy hD hS ⟨nS _ _ ((hSi _ _ _).2 hS), anyB_tp H⟩
  ·have := ready_mono hj hji
   rw [H.1] at this
   cases this
 | succ fuel ih =>
  intro listed a w hfree hr hy hD hS H
  refine ⟨fun h => (by rw [h] at hr; cases hr), fun j hj => ?_⟩
  by_cases hji : j = i
  ·subst hji; exact yl listed a w _ hr hy hD hS ⟨nS _ _ ((hSi _ _ _).2 hS), anyB_tp H⟩
  ·have h1 := H.2 j (ready_mono hj hji)
   obtain ⟨hjun, oj, hoj, hall⟩ := mem_ready.1 hj
   have hnot : ∀ e ∈ oj.after, Region.binds .any e = true → e.on ≠ i := fun e he hb heq => by
    have h1 := hall e he hb
    have h0 := (mem_ready.1 hr).1
    rw [heq] at h1
    rcases Nat.lt_or_ge i listed.size with h' | h'
    ·simp [h'] at h0 h1; rw [h0] at h1; cases h1
    ·simp [Array.getElem?_eq_none h'] at h1
   have h2 := opB_putIf hoj (hfree j oj hoj hji hjun hnot) (fun cs b => hsel i oi cs b hi) (fun cs b => hsel j oj cs b hoj) hy h1
   have hfree' : ∀ k ok, ops[k]? = some ok → k ≠ i → (listed.setIfInBounds j true).getD k true = false →
     (∀ e ∈ ok.after, Region.binds .any e = true → e.on ≠ i) → oi.apart ops ok = true := fun k ok hk hki hun hno => by
    refine hfree k ok hk hki ?_ hno
    by_cases hjk : j = k
    ·subst hjk; exact hjun
    ·rw [getD_set_ne true hjk] at hun; exact hun
   refine opB_mono (fun a' w' h3 => ?_) h2
   have hS' : S w0 (listed.setIfInBounds j true) w' := by
    have := h3.2.1
    rw [Array.setIfInBounds_comm _ _ (Ne.symm hji)] at this
    exact (hSi _ _ _).1 this
   refine ⟨hS', ih (listed.setIfInBounds j true) a' w' hfree' (ready_mono hr (Ne.symm hji)) h3.1 (hD.step hj) hS' ?_⟩
   rw [Array.setIfInBounds_comm _ _ hji]
   exact h3.2.2
def wpGB (P : Program) (J : Nat → Option Obj) (ops : Array Oper) (Q : Exit → Act → World → Prop) (w0 : World) (S : World → Array Bool → World → Prop) (fuel : Nat) (listed : Array Bool) (a : Act) (w : World) : Prop :=
 DC ops listed → S w0 listed w → StOk S → anyB P J ops Q w0 S fuel listed a w
section
variable {w0 w : World} {ex : Nat → Prop} {L : List (Nat × BA)} {S : World → Array Bool → World → Prop} {fuel : Nat} {l l' : Array Bool} {i : Nat} {oi : Oper} {a : Act} {df : List Deferred} {n t : Nat} {E : List (Nat × Value)} {v : Value}
theorem StOk.mu : StOk fun w0 => MU w0 ex L := fun w0 T d d' B W (h : Mem w0 ex W L) => (h.tp T d d' : Mem _ _ _ _)
theorem gB_start2 (hP : FuncsOk P) {Lc : List (Nat × BA)} (M : Mem w0 ex w L) (Mc : Mem w0 ex w Lc) (m : Nat) {id : Nat} (hm : P.follows .mixedOrders = true) (hn : ops.size = m) (hz : Array.replicate m false = Zpb m 0)
  (h : ∀ w', Mem w0 ex w' L → wpGB P J ops Q w0 (fun w0 => MU w0 ex Lc) m (Zpb m 0) a w') : wpB P J (.region id ops true) Q a w := by
 subst hn
 intro b k cs Post hk hA
 refine comp_lone hP fun T => ⟨_, _, _, .one step_region_draw, ?_⟩
 have h0 := h w M
 rw [← hz] at h0
 have h1 := h0 DC.start Mc StOk.mu
 have h2 := anyB_sound (J := J) (Q := Q) hP ops.size ((Bq.tp w T 0).tape (Bq.tp w T 0).drawn (.order b.fn id)) _ a w h1
 have h3 := h2 b k cs Post hk hA
 have h4 : Comp P J (gr (b.at a (.inRegion ops (Region.linearise.go .any ops ops.size ((Bq.tp w T 0).tape (Bq.tp w T 0).drawn (.order b.fn id)) (Array.replicate ops.size false) []) :: k)) cs) (Bq.tp w T 1) Post := comp_tp h3
 simp only [Region.schedule, hm, Bool.true_or, if_true]
 exact h4
theorem gB_take (hi : ops[i]? = some oi) (hs : (Region.noSelect ops && Region.free .any ops l i && (Region.ready .any ops l).contains i) = true) (hSi : ∀ w0 L w, S w0 (L.setIfInBounds i true) w ↔ S w0 L w)
  (hy : YieldsIf P ops (fun w' => ∃ L, DC ops L ∧ L.getD i true = false ∧ S (Bq.tp w0 w'.tape 0) L w') oi v a) (h : wpGB P J ops Q w0 S fuel (l.setIfInBounds i true) (a.put oi.dst v) w) : wpGB P J ops Q w0 S (fuel + 1) l a w := by
 intro hD hS hst
 simp only [Bool.and_eq_true] at hs
 obtain ⟨⟨h1, h2⟩, h3⟩ := hs
 have hr : i ∈ Region.ready .any ops l := by simpa using h3
 exact anyB_first hi hst (Region.noSelect_spec h1) hSi fuel l a w (Region.free_spec hi h2) hr hy hD hS (h (hD.step hr) ((hSi _ _ _).2 hS) hst)
theorem gB_q (T : TmD df a n E) (hi : ops[i]? = some oi) (hs : (Region.noSelect ops && Region.free .any ops l i && (Region.ready .any ops l).contains i) = true) (hl : l.setIfInBounds i true = l')
  (hSi : ∀ w0 L w, S w0 (L.setIfInBounds i true) w ↔ S w0 L w) (hw : Region.wanted oi (yielded ops a.tmps) = true) (hd : oi.dst = some t) (hf : freshE E t = true) (hn : Nat.blt t n = true)
  (hr : ∀ T9 L w', DC ops L → L.getD i true = false → S (Bq.tp w0 T9 0) L w' → Runs P oi a v w') (h : ∀ a', TmD df a' n ((t, v) :: E) → wpGB P J ops Q w0 S fuel l' a' w) : wpGB P J ops Q w0 S (fuel + 1) l a w :=
 gB_take hi hs hSi (.inl ⟨hw, fun w' hy => by obtain ⟨L, h1, h2, h3⟩ := hy; exact hr w'.tape L w' h1 h2 h3⟩) (by rw [hl, hd]; exact h _ (T.put hn hf v))
theorem gB_one (hr : Region.ready .any ops l = [i]) (hl : l.setIfInBounds i true = l') (h : opB P J ops w0.tape i (fun a' w' => S w0 l' w' ∧ wpGB P J ops Q w0 S fuel l' a' w') a w) : wpGB P J ops Q w0 S (fuel + 1) l a w := by
 intro hD hS hst
 refine ⟨fun h0 => (by rw [hr] at h0; cases h0), fun j hj => ?_⟩
 have hD' := hD.step hj
 rw [hr] at hj
 obtain rfl : j = i := by simpa using hj
 rw [hl] at hD' ⊢
 exact opB_mono (fun a' w' h3 => ⟨h3.1, h3.2 hD' h3.1 hst⟩) h
def wpGiB (P : Program) (J : Nat → Option Obj) (ops : Array Oper) (Q : Exit → Act → World → Prop) (w0 : World) (S : World → Array Bool → World → Prop) (fuel : Nat) (l : Array Bool) (i : Nat) (a : Act) (w : World) : Prop :=
 opB P J ops w0.tape i (fun a' w' => S w0 (l.setIfInBounds i true) w' ∧ wpGB P J ops Q w0 S fuel (l.setIfInBounds i true) a' w') a w
theorem gB_m2 {j : Nat} (hr : Region.ready .any ops l = [i, j]) (h : wpGiB P J ops Q w0 S fuel l i a w) (h' : wpGiB P J ops Q w0 S fuel l j a w) : wpGB P J ops Q w0 S (fuel + 1) l a w := fun hD hS hst =>
 ⟨fun h0 => (by rw [hr] at h0; cases h0), fun k hk => by
  have hk' := hk
  rw [hr] at hk'
  simp only [List.mem_cons, List.not_mem_nil, or_false] at hk'
  rcases hk' with rfl | rfl
  ·exact opB_mono (fun a' w' h3 => ⟨h3.1, h3.2 (hD.step hk) h3.1 hst⟩) h
  ·exact opB_mono (fun a' w' h3 => ⟨h3.1, h3.2 (hD.step hk) h3.1 hst⟩) h'⟩
def ShB (P : Program) (J : Nat → Option Obj) (ops : Array Oper) (Q : Exit → Act → World → Prop) (w0 : World) (S : World → Array Bool → World → Prop) (fuel : Nat) (l' : Array Bool) (K : Act → World → Prop) : Prop :=
 ∀ a w, S w0 l' (Bq.tp w w0.tape 0) → wpGB P J ops Q w0 S fuel l' a (Bq.tp w w0.tape 0) → K a w
theorem opB_lone {K : Act → World → Prop} (ho : ops[i]? = some oi) (hw : Region.wanted oi (yielded ops a.tmps) = true) (h : ∀ T, oi.wp P a (Bq.tp w T 0) (fun a' w' => K a' (Bq.tp w' w0.tape 0)) nF) : opB P J ops w0.tape i K a w := .inl fun T => by
 unfold wpOp
 simp only [ho, hw, if_true]
 exact .inl (h T)
theorem gB_w (hr : Region.ready .any ops l = [i]) (ho : ops[i]? = some oi) (hl : l.setIfInBounds i true = l') (hw : Region.wanted oi (yielded ops a.tmps) = true)
  (h : ∀ T, ∀ K', ShB P J ops Q w0 S fuel l' K' → oi.wp P a (Bq.tp w T 0) K' nF) : wpGB P J ops Q w0 S (fuel + 1) l a w :=
 gB_one hr hl (opB_lone ho hw fun T => h T _ fun a' w' h1 h2 => ⟨h1, h2⟩)
theorem gB_i (ho : ops[i]? = some oi) (hl : l.setIfInBounds i true = l') (hw : Region.wanted oi (yielded ops a.tmps) = true)
  (h : ∀ T, ∀ K', ShB P J ops Q w0 S fuel l' K' → oi.wp P a (Bq.tp w T 0) K' nF) : wpGiB P J ops Q w0 S fuel l i a w := by
 subst hl
 exact opB_lone ho hw fun T => h T _ fun a' w' h1 h2 => ⟨h1, h2⟩
theorem gB_out {K : Act → World → Prop} {T0 : Nat → Question → Nat} {d : Nat} (hK : ShB P J ops Q w0 S fuel l' K) (M : Mem (Bq.tp w0 T0 d) ex w L) (h : ∀ W, Mem w0 ex W L → S w0 l' W ∧ wpGB P J ops Q w0 S fuel l' a W) : K a w := by
 obtain ⟨h1, h2⟩ := h _ (M.pt 0)
 exact hK a w h1 h2
theorem opB_call {K : Act → World → Prop} {op : Oper} {x : Operand} {xs : List Operand} {ts : Array TypeId} {f : FuncId} {first cap vs : List Value} {fn : Func} {R : Ending → World → Prop} (T : TmD df a n E) (hi : ops[i]? = some op) (ho : op.op = .call { callee := .value x, args := xs.toArray, argTypes := ts })
  (hd : op.dst = some t) (hf : freshE E t = true) (hn : Nat.blt t n = true) (hx : a.eval x = .func (.func f) first.toArray cap.toArray) (hv : EvL a xs vs) (hfn : P.funcs[f]? = some fn) (hnm : (fn.name == "runtime.NumGoroutine") = false) (hb : fn.body.isNone = false)
  (hc : CallsB P J f (first ++ vs ++ cap).toArray w R) (h : ∀ e w', R e w' → ∃ v, e = .returned v ∧ ∀ a', TmD df a' n ((t, v) :: E) → K a' w') (hw : Region.wanted op (yielded ops a.tmps) = true) : opB P J ops w0.tape i K a w :=
 .inr ⟨op, f, _, R, hi, hw, fun T' d' => run_callV ho hx hv hfn hnm hb _, hc, fun e w' hR => by
  obtain ⟨v, rfl, h1⟩ := h e w' hR
  exact ⟨v, rfl, by rw [hd]; exact h1 _ (T.put hn hf v)⟩⟩
theorem gB_ic (hl : l.setIfInBounds i true = l') (h : opB P J ops w0.tape i (fun a' w' => S w0 l' w' ∧ wpGB P J ops Q w0 S fuel l' a' w') a w) : wpGiB P J ops Q w0 S fuel l i a w := by
 subst hl
 exact h
theorem gB_done (hr : Region.ready .any ops l = []) (M : Mem w0 ex w L) (h : ∀ W, Mem w0 ex W L → Q .normal a W) : wpGB P J ops Q w0 S fuel l a w := by
 intro _ _ _
 have h1 : Q .normal a (Bq.tp w w0.tape 0) := h _ (Mem.tp M w0.tape w0.drawn 0)
 cases fuel with
 | zero => exact ⟨hr, h1⟩
 | succ fuel => exact ⟨fun _ => h1, by rw [hr]; simp⟩
theorem gB_have (I : Act → World → Prop) (l' : Array Bool) (fuel' : Nat) (h2 : ∀ a w, I a w → wpGB P J ops Q w0 S fuel' l' a w) (h1 : (∀ a w, I a w → wpGB P J ops Q w0 S fuel' l' a w) → wpGB P J ops Q w0 S fuel l a w) : wpGB P J ops Q w0 S fuel l a w := h1 h2
end
end
end
section
open Go.RowKit Go.Proofs.Ytoheddpnnjldgaa.Bq
theorem trs_bd (ts : List Lk) : ∀ (r : List (Int × Int)) (k : Nat) (l x : List Int), (∀ y ∈ r, 0 ≤ y.1 ∧ y.2 ≤ 5) → (∀ v ∈ l, 0 ≤ v ∧ v ≤ 5) → x ∈ trs ts r k l → ∀ v ∈ x, 0 ≤ v ∧ v ≤ 5
 | [], k, l, x, _, hl, h => by
  unfold trs at h
  split at h
  ·rw [List.mem_singleton.1 h]; exact hl
  ·cases h
 | y :: r, k, l, x, hr, hl, h => by
  unfold trs at h
  obtain ⟨n, hn, h⟩ := List.mem_flatMap.1 h
  have h1 := hr y Zz2
  have h2 := upI_mem.1 hn
  refine trs_bd ts r (k + 1) _ x (fun z hz => hr z (Zz1 hz)) (fun v hv => ?_) h
  rcases List.mem_or_eq_of_mem_set hv with hv | rfl
  ·exact hl v hv
  ·omega
theorem truthsL_ok {b : Bw} (h : BwGood b) : ∀ x ∈ truthsL b, x.ok := fun x hx => by
 obtain ⟨l, hl, rfl⟩ := List.mem_map.1 hx
 have h1 := trs_bd b.ts b.cs 0 [0, 0, 0, 0] l (fun y hy => by have := h.cs y hy; omega) (fun v hv => by simp only [List.mem_cons, List.not_mem_nil, or_false, or_self] at hv; omega) hl
 have g : ∀ k, 0 ≤ l.getD k 0 ∧ l.getD k 0 ≤ 5 := fun k => by
  rw [List.getD_eq_getElem?_getD]
  cases hk : l[k]? with
  | none => simp
  | some v => exact h1 v (List.mem_of_getElem? hk)
 exact ⟨g 0, g 1, g 2, g 3⟩
theorem known_ok {b : Bw} {el : List Int} (nop : ∀ t ∈ b.ts, t.op.length ≤ 1000) (h : knownE b el = 0) : BwGood b ∧ firstE el = 0 ∧ knownL b el = truthsL b ∧ (∀ x ∈ knownL b el, x.ok) ∧ 0 < (knownL b el).length ∧ (knownL b el).length ≤ 1000000 := by
 unfold knownE at h
 split at h
 ·rename_i h1; exact absurd h h1
 ·rename_i h1
  split at h
  ·rename_i h2; exact absurd h h2
  ·rename_i h2
   split at h
   ·cases h
   ·rename_i h3
    have hg := chkB_good (b := b) (by omega)
    have e : knownL b el = truthsL b := by unfold knownL; rw [if_neg h1, if_neg h2]
    refine ⟨hg, by omega, e, by rw [e]; exact truthsL_ok hg, ?_, ?_⟩
    ·rw [e]; unfold truthsL; rw [List.length_map]; omega
    ·rw [e]; unfold truthsL; rw [List.length_map]; exact truths_many (hg.val nop)
theorem first1 {e : Int} (h : firstE [e] = 0) : e = 0 := by
 unfold firstE at h
 split at h
 · assumption
 · exact h
theorem first2 {e f : Int} (h : firstE [e, f] = 0) : e = 0 ∧ f = 0 := by
 unfold firstE at h
 split at h
 · exact ⟨by assumption, first1 h⟩
 · rename_i h1; exact absurd h h1
def sums0 (b : Bw) : List Int := sumsB (cornL b.cs.length []) (truthsL b)
def turL (b : Bw) (p : List Nt) : List Int := if knownE b [pieceE p] ≠ 0 then [] else ((bysT p).find? (alwB b p (sums0 b))).getD []
def turE (b : Bw) (p : List Nt) : Int := if knownE b [pieceE p] ≠ 0 then knownE b [pieceE p] else if ((bysT p).find? (alwB b p (sums0 b))).isSome then 0 else 11
def menL (b : Bw) (p : List Nt) : List Int := if knownE b [pieceE p] ≠ 0 then [] else fewL b.cs.length fun m => fineB b p (sumsB (cornL b.cs.length m) (truthsL b))
def menE (b : Bw) (p : List Nt) : Int := if knownE b [pieceE p] ≠ 0 then knownE b [pieceE p] else fewE b.cs.length fun m => fineB b p (sumsB (cornL b.cs.length m) (truthsL b))
def LsMPost (l : List Int) (er : Int) (w : World) (e : Ending) (w' : World) : Prop := ∃ A c I, e = .returned (.tuple #[.slice A l.length c, .int .i64 (turnW l), .int .i64 er]) ∧ l.length ≤ c ∧ (∃ b o, ∀ (w1 : World) (ex : Nat → Prop), Sp w1 ex I A l.length 1 b o (ic l)) ∧ Mem w noEx w' I
set_option maxHeartbeats 4000000 in
theorem waysBy_any {J : Nat → Option Obj} (hP : FuncsOk Try.prog) (b : Bw) (A : Option Addr) (c : Nat) (D : Option Addr) (d : Nat) (p : List Nt) (P : Option Addr) (pc : Nat)  (w : World) (hA : Rd w w.heap.size 2 A b.cs.length (rc b.cs)) (hD : Rd w w.heap.size 4 D b.ts.length (lkc b.ts)) (hop : ∀ t ∈ b.ts, Rd w w.heap.size 1 t.A t.op.length (ic t.op)) (nA : b.cs.length ≤ 1000) (nD : b.ts.length ≤ 1000) (nop : ∀ t ∈ b.ts, t.op.length ≤ 1000) (hP9 : Rd w w.heap.size 4 P p.length (ntc p)) (nP : p.length ≤ 1000)  :
   CallsB Try.prog J 86 #[.agg #[.int .i64 b.full, .int .i64 b.a0, .int .i64 b.a1, .slice A b.cs.length c, .slice D b.ts.length d], .slice P p.length pc, .func (.func 87) #[] #[]] w (LsMPost (turL b p) (turE b p) w) := by
 obtain ⟨bA, oA, SA⟩ := Sp.old hA
 obtain ⟨bD, oD, SD⟩ := Sp.old hD
 obtain ⟨bP, oP, SP⟩ := Sp.old hP9
 refine px_enterB hP noEx Try.func86 rfl 41 rfl [.agg #[.int .i64 b.full, .int .i64 b.a0, .int .i64 b.a1, .slice A b.cs.length c, .slice D b.ts.length d], .slice P p.length pc, .func (.func 87) #[] #[]] rfl rfl (Mem.init w _) ?_
 intro ac wc T M
 refine wpB_seq hP ?_
 refine b_lone hP w fun T9 => ?_
 replace M := M.tp T9 0 0
 replace SA := SA.tp T9 0
 replace SD := SD.tp T9 0
 replace SP := SP.tp T9 0
 refine wp_region_lit ?_
 refine Zl2 ?_
 refine Zob M T rfl rfl rfl rfl (T.e 0 rfl) rfl ?_; clear M T; intro g1 wc ac M T
 refine Zl2 ?_
 refine Zob M T rfl rfl rfl rfl (T.e 3 rfl) rfl ?_; clear M T; intro g2 wc ac M T
 refine Zg3 T (Zq (Zra rfl evc)) rfl (Zc rfl) rfl (Zc rfl) rfl ?_; clear T ac; intro ac T
 refine wpList_nil ?_
 refine nqR_n M ?_; clear M; intro wc M
 replace SA := SA.pt
 replace SD := SD.pt
 replace SP := SP.pt
 replace T := T.pick [3, 4, 6] rfl
 refine nm_then ?_
 refine wpB_seq hP ?_
 refine gB_start2 hP M (M.mask [true, true] rfl) 10 (by kernel_rfl) rfl (by kernel_rfl) ?_
 clear M; intro wc M
 refine gB_q (T := T) (i := 0) rfl (by kernel_rfl) (by kernel_rfl : (Zpb 10 0).setIfInBounds 0 true = Zpb 10 1) (fun _ => si_U) rfl rfl rfl rfl (fun T9 B w' hD hl hS => (Zrr (Mem.nth (show Mem (Bq.tp w T9 0) noEx w' _ from hS) 1 rfl) rfl (T.e 1 rfl) rfl)) ?_; clear T ac; intro ac T
 refine gB_q (T := T) (i := 1) rfl (by kernel_rfl) (by kernel_rfl : (Zpb 10 1).setIfInBounds 1 true = Zpb 10 3) (fun _ => si_U) rfl rfl rfl rfl (fun _ _ _ _ _ _ => (Zrm rfl (T.e 3 rfl))) ?_; clear T ac; intro ac T
 refine gB_w (i := 2) (by kernel_rfl) rfl (by kernel_rfl : (Zpb 10 3).setIfInBounds 2 true = Zpb 10 7) rfl ?_; intro T9 K hK
 replace M := M.tp T9 0 0
 replace SA := SA.tp T9 0
 replace SD := SD.tp T9 0
 replace SP := SP.tp T9 0
 refine Zoc (first := []) (cap := []) T rfl rfl rfl rfl evf (.cons (T.e 0 rfl) .nil) Try.func40 rfl rfl ?_
 refine Calls.mono (piece_any p P pc _ (SP.rd M (Zz9 _)) (by omega)) ?_
 clear T; rintro e wc ⟨rfl, hb⟩ ac T
 replace M := M.call hb; clear hb
 refine gB_out hK M ?_; clear hK K M; intro wc M
 replace SA := SA.pt
 replace SD := SD.pt
 replace SP := SP.pt
 refine ⟨(M.mask [true, true] rfl), ?_⟩
 refine gB_w (i := 3) (by kernel_rfl) rfl (by kernel_rfl : (Zpb 10 7).setIfInBounds 3 true = Zpb 10 15) rfl ?_; intro T9 K hK
 replace M := M.tp T9 0 0
 replace SA := SA.tp T9 0
 replace SD := SD.tp T9 0
 replace SP := SP.tp T9 0
 refine ow_bs (e := 39) [.int .i64 (pieceE p)] M T rfl rfl rfl rfl (.cons (T.e 0 rfl) .nil) (fun _ => by kernel_rfl) ?_; clear M T; intro g3 wc ac M T
 refine gB_out hK M ?_; clear hK K M; intro wc M
 replace SA := SA.pt
 replace SD := SD.pt
 replace SP := SP.pt
 refine ⟨(M.mask [false, true, true] rfl), ?_⟩
 refine gB_one (i := 4) (by kernel_rfl) (by kernel_rfl : (Zpb 10 15).setIfInBounds 4 true = Zpb 10 31) (opB_call (first := []) (cap := []) T rfl rfl rfl rfl rfl evf (.cons (T.e 3 rfl) (.cons (T.e 0 rfl) .nil)) Try.func77 rfl rfl (known_any hP b A c D d (some ⟨g3, 0, none⟩) 1 [(pieceE p)] _ (SA.rd M (Zz9 _)) (SD.rd M (Zz9 _)) (fun t ht => M.rd (hop t ht) (Nat.le_refl _)) nA nD nop (M.rdOwn (Zne (i := 0) rfl) rfl rfl) (by first | omega | simp)) ?_ rfl)
 clear T
 rintro e wc ⟨Akur1_4, ckur1_4, Ikur1_4, rfl, hckur1_4, N⟩
 refine ⟨_, rfl, ?_⟩
 intro ac T
 obtain ⟨lkur1_4, hlkur1_4⟩ : ∃ q, q = knownL b [(pieceE p)] := ⟨_, rfl⟩
 obtain ⟨ekur1_4, hekur1_4⟩ : ∃ q, q = knownE b [(pieceE p)] := ⟨_, rfl⟩
 rw [← hlkur1_4] at hckur1_4 T
 rw [← hekur1_4] at T
 obtain ⟨bkur1_4, okur1_4, hSkur1_4⟩ := hckur1_4.spV (l4c_length _)
 have SLkur1_4 := hSkur1_4 w noEx
 clear hSkur1_4
 replace M := (M.join N).swapI
 clear N
 replace M : Mem w noEx wc ((g3, .cells [.int .i64 (pieceE p)]) :: (g2, .cells [.func (.func 87) #[] #[]]) :: (g1, .cells [.int .i64 b.full, .int .i64 b.a0, .int .i64 b.a1, .slice A b.cs.length c, .slice D b.ts.length d]) :: Ikur1_4) := M
 refine ⟨(M.perm [1, 2] rfl rfl), ?_⟩
 refine gB_q (T := T) (i := 5) rfl (by kernel_rfl) (by kernel_rfl : (Zpb 10 31).setIfInBounds 5 true = Zpb 10 63) (fun _ => si_U) rfl rfl rfl rfl (fun _ _ _ _ _ _ => (Zrm rfl (T.e 0 rfl))) ?_; clear T ac; intro ac T
 refine gB_q (T := T) (i := 6) rfl (by kernel_rfl) (by kernel_rfl : (Zpb 10 63).setIfInBounds 6 true = Zpb 10 127) (fun _ => si_U) rfl rfl rfl rfl (fun _ _ _ _ _ _ => (Zre rfl (T.e 0 rfl) rfl)) ?_; clear T ac; intro ac T
 refine gB_q (T := T) (i := 7) rfl (by kernel_rfl) (by kernel_rfl : (Zpb 10 127).setIfInBounds 7 true = Zpb 10 255) (fun _ => si_U) rfl rfl rfl rfl (fun _ _ _ _ _ _ => (Zre rfl (T.e 1 rfl) rfl)) ?_; clear T ac; intro ac T
 refine gB_q (T := T) (i := 8) rfl (by kernel_rfl) (by kernel_rfl : (Zpb 10 255).setIfInBounds 8 true = Zpb 10 511) (fun _ => si_U) rfl rfl rfl rfl (fun _ _ _ _ _ _ => (Zra rfl (T.e 1 rfl))) ?_; clear T ac; intro ac T
 refine gB_q (T := T) (i := 9) rfl (by kernel_rfl) (by kernel_rfl : (Zpb 10 511).setIfInBounds 9 true = Zpb 10 1023) (fun _ => si_U) rfl rfl rfl rfl (fun _ _ _ _ _ _ => (Zra rfl (T.e 1 rfl))) ?_; clear T ac; intro ac T
 refine gB_done (by kernel_rfl) M ?_; clear M; intro wc M
 replace T := T.pick [0, 1, 10, 11, 12] rfl
 replace M := M.mask [false, true, true] rfl
 refine nm_then ?_
 refine wpB_seq hP ?_
 refine wpB_seq hP ?_
 refine b_lone hP w fun T9 => ?_
 replace M := M.tp T9 0 0
 replace SA := SA.tp T9 0
 replace SD := SD.tp T9 0
 replace SLkur1_4 := SLkur1_4.tp T9 0
 replace SP := SP.tp T9 0
 refine wp_region_lit ?_
 refine Zg2 T (Zq (Zrm rfl (T.e 0 rfl))) rfl (fun _ T => Zq (rn_neq rfl (T.e 0 rfl) evc)) rfl ?_; clear T ac; intro ac T
 refine wpList_nil ?_
 refine nqR_n M ?_; clear M; intro wc M
 replace SA := SA.pt
 replace SD := SD.pt
 replace SLkur1_4 := SLkur1_4.pt
 replace SP := SP.pt
 replace T := T.pick [0, 2, 3, 4, 5, 6] rfl
 refine nm_then ?_
 refine wB_ifn hP (T.e 0 rfl) ?_ ?_
 ·intro h1
  refine wpB_seq hP ?_
  refine b_lone hP w fun T9 => ?_
  replace M := M.tp T9 0 0
  replace SA := SA.tp T9 0
  replace SD := SD.tp T9 0
  replace SLkur1_4 := SLkur1_4.tp T9 0
  replace SP := SP.tp T9 0
  refine wp_region_lit ?_
  refine Zg4 T (Zq (Zrm rfl (T.e 1 rfl))) rfl (Zc rfl) rfl (Zc rfl) rfl (Za 2 rfl rfl) rfl ?_; clear T ac; intro ac T
  refine wpList_nil ?_
  refine nqR_n M ?_; clear M; intro wc M
  replace SA := SA.pt
  replace SD := SD.pt
  replace SLkur1_4 := SLkur1_4.pt
  replace SP := SP.pt
  replace T := T.pick [0, 1, 2] rfl
  replace M := M.mask [false, false] rfl
  refine nm_then ?_
  refine wpB_ret hP ?_
  refine Zrt ?_
  refine rt_3 T rfl (T.e 2 rfl) (T.e 1 rfl) (T.e 0 rfl) ?_
  have hke : knownE b [pieceE p] ≠ 0 := by rw [← hekur1_4]; omega
  have e9 : turL b p = [] ∧ turE b p = ekur1_4 := by unfold turL turE; rw [if_pos hke, if_pos hke, hekur1_4]; exact ⟨rfl, rfl⟩
  rw [e9.1, e9.2]
  exact ⟨none, 0, [], rfl, Nat.le_refl _, ⟨0, 0, fun w1 ex => Sp.nil⟩, M.sub (Zz9 _)⟩
 intro h1
 have hke : knownE b [pieceE p] = 0 := by rw [← hekur1_4]; omega
 obtain ⟨hgood, hf9, hlt, hl4, hlp, hln⟩ := known_ok nop hke
 rw [← hlkur1_4] at hlt hl4 hlp hln
 have hgp := pieceE_good (first1 hf9)
 have hgb := hgood.airs
 have h4 := hgood.n4
 refine wpB_skip hP ?_
 refine nm_then ?_
 refine wpB_seq hP ?_
 refine b_lone hP w fun T9 => ?_
 replace M := M.tp T9 0 0
 replace SA := SA.tp T9 0
 replace SD := SD.tp T9 0
 replace SLkur1_4 := SLkur1_4.tp T9 0
 replace SP := SP.tp T9 0
 refine wp_region_lit ?_
 refine Zg3 T (Zq (Zrr (Mem.nth M 1 rfl) rfl (T.e 4 rfl) rfl)) rfl (Zm 3 rfl rfl) rfl (Zm 7 rfl rfl) rfl ?_; clear T ac; intro ac T
 refine Zl2 ?_
 refine Zoc (first := []) (cap := []) T rfl rfl rfl rfl evf (.cons (T.e 2 rfl) (.cons (T.e 1 rfl) (.cons (T.e 0 rfl) (.cons evc .nil)))) Try.func85 rfl rfl ?_
 refine Calls.mono (playedBy_any b A c D d lkur1_4 Akur1_4 ckur1_4 p P pc none 0 [] _ (SLkur1_4.rd M (.cons _ (.cons _ (List.Sublist.refl _)))) (by omega) hl4 h4 (⟨by simp [ic], fun h => absurd h (by simp)⟩) (by first | omega | simp)) ?_
 clear T; rintro e wc ⟨Apu2, cpu2, Ipu2, rfl, hclu2, N⟩ ac T
 obtain ⟨svu2, hsvu2⟩ : ∃ q, q = sumsB (cornL b.cs.length []) lkur1_4 := ⟨_, rfl⟩
 rw [← hsvu2] at hclu2 T
 have hssvu2 : ∀ s ∈ svu2, 0 ≤ s ∧ s ≤ 20 := by rw [hsvu2]; exact sums_bd hl4 h4
 have hnsvu2 : svu2.length ≤ lkur1_4.length := by rw [hsvu2]; exact sumsB_len _
 obtain ⟨bpu2, opu2, Spu2⟩ := hclu2.spV (by rw [pdc_length, List.length_map])
 replace Spu2 := Spu2 (Bq.tp w T9 0) noEx
 replace M := (M.join N).swapI
 clear N
 replace M : Mem (Bq.tp w T9 0) noEx wc ((g2, .cells [.func (.func 87) #[] #[]]) :: (g1, .cells [.int .i64 b.full, .int .i64 b.a0, .int .i64 b.a1, .slice A b.cs.length c, .slice D b.ts.length d]) :: (Ikur1_4 ++ Ipu2)) := M
 refine Zl2 ?_
 refine Zoa M T rfl rfl rfl rfl ?_; clear M T; intro g4 wc ac M T
 refine Zl2 ?_
 refine Zos M T rfl rfl (T.e 0 rfl) (T.e 1 rfl) rfl .head rfl (by simp) rfl (by kernel_rfl) ?_; clear M T; intro wc ac M T
 refine wpList_nil ?_
 refine nqR_n M ?_; clear M; intro wc M
 replace SA := SA.pt
 replace SD := SD.pt
 replace SLkur1_4 := SLkur1_4.pt
 replace SP := SP.pt
 replace Spu2 := Spu2.pt
 replace T := T.pick [0, 8, 10] rfl
 replace M := M.mask [true, true, false] rfl
 refine nm_then ?_
 refine wpB_seq hP ?_
 refine b_lone hP w fun T9 => ?_
 replace M := M.tp T9 0 0
 replace SA := SA.tp T9 0
 replace SD := SD.tp T9 0
 replace SLkur1_4 := SLkur1_4.tp T9 0
 replace SP := SP.tp T9 0
 replace Spu2 := Spu2.tp T9 0
 refine wp_region_lit ?_
 refine lq T (Zrm rfl (T.e 2 rfl)) ?_; clear T ac; intro ac T
 refine Zl2 ?_
 refine Zoc (first := []) (cap := []) T rfl rfl rfl rfl evf (.cons (T.e 0 rfl) .nil) Try.func124 rfl rfl ?_
 refine Calls.mono (byTurns_any p P pc _) ?_
 clear T; rintro e wc ⟨gu3, rfl, N⟩ ac T
 replace M := M.join N; clear N
 replace M := M.mask [true, true, true] rfl
 refine lq (v := (.func (.func 126) #[] #[.pointer (some ⟨g2, 0, none⟩), .pointer (some ⟨g4, 0, none⟩)])) T (rn_makeFunc rfl .nil (.cons (T.e 3 rfl) (.cons (T.e 2 rfl) .nil))) ?_; clear T ac; intro ac T
 refine Zl2 ?_
 have h6 := hgp.n6
 have hP8 := SP.rd M (Zz9 _)
 have hL8 := Spu2.rd M (.cons _ (.cons _ (.cons _ (Zsq _ _))))
 have q7 := M.nth 2 rfl
 have q8 := M.nth 1 rfl
 refine Zoc (first := []) (cap := []) T rfl rfl rfl rfl evf (.cons (T.e 1 rfl) (.cons (T.e 0 rfl) .nil)) Try.func123 rfl rfl ?_
 refine Calls.mono (firstW_any p P pc gu3 126 _ [.pointer (some ⟨g2, 0, none⟩), .pointer (some ⟨g4, 0, none⟩)] (fun w9 => alwB b p svu2 w9) _ h6 (SP.rd M (Zz9 _)) (M.nth 0 rfl) Try.func126 rfl rfl (fun x W hW hR hx => ways1_any b A c D d p P pc svu2 Apu2 cpu2 x.A x.c x.l g2 g4 W ((hP8.below hW).more hW.size) hR ((hL8.below hW).more hW.size) (by omega) hgp hgb hssvu2 hx (q7.below hW) (q8.below hW))) ?_
 clear T; rintro e wc ⟨Afu4, cfu4, rfu4, bfu4, Ifu4, rfl, hffu4, hfnu4, hfqu4, hfcu4, ⟨bzu4, ozu4, hSfu4⟩, N⟩ ac T
 have SFu4 := hSfu4 (Bq.tp w T9 0) noEx
 replace M := (M.join N).swapI
 clear N
 replace M : Mem (Bq.tp w T9 0) noEx wc ((gu3, .cells [.slice P p.length pc]) :: (g4, .cells [.slice Apu2 svu2.length cpu2]) :: (g2, .cells [.func (.func 87) #[] #[]]) :: (Ikur1_4 ++ Ipu2 ++ Ifu4)) := M
 refine Zg5 T (Zq (Zrm rfl (T.e 0 rfl))) rfl (Ze 0 rfl rfl rfl) rfl (Ze 1 rfl rfl rfl) rfl (Za 1 rfl rfl) rfl (Za 1 rfl rfl) rfl ?_; clear T ac; intro ac T
 refine wpList_nil ?_
 refine nqR_n M ?_; clear M; intro wc M
 replace SA := SA.pt
 replace SD := SD.pt
 replace SFu4 := SFu4.pt
 replace SLkur1_4 := SLkur1_4.pt
 replace SP := SP.pt
 replace Spu2 := Spu2.pt
 replace T := T.pick [0, 1] rfl
 replace M := M.mask [false, false, false] rfl
 replace M : Mem w noEx wc ((Ikur1_4 ++ Ipu2 ++ Ifu4)) := M
 refine nm_then ?_
 refine wpB_seq hP ?_
 refine wpB_seq hP ?_
 refine b_lone hP w fun T9 => ?_
 replace M := M.tp T9 0 0
 replace SA := SA.tp T9 0
 replace SD := SD.tp T9 0
 replace SFu4 := SFu4.tp T9 0
 replace SLkur1_4 := SLkur1_4.tp T9 0
 replace SP := SP.tp T9 0
 replace Spu2 := Spu2.tp T9 0
 refine wp_region_lit ?_
 refine Zg2 T (Zq (Zrm rfl (T.e 0 rfl))) rfl (fun _ T => Zq (rn_not rfl (T.e 0 rfl))) rfl ?_; clear T ac; intro ac T
 refine wpList_nil ?_
 refine nqR_n M ?_; clear M; intro wc M
 replace SA := SA.pt
 replace SD := SD.pt
 replace SFu4 := SFu4.pt
 replace SLkur1_4 := SLkur1_4.pt
 replace SP := SP.pt
 replace Spu2 := Spu2.pt
 replace T := T.pick [0, 3] rfl
 refine nm_then ?_
 refine wB_cond_split hP (T.e 0 rfl) ?_ ?_
 ·intro h2
  (have h2' := h2; try simp only [Zb1, Zb2, Zb3, Zb4, Zb5, Zb6, Zb7] at h2')
  refine wpB_seq hP ?_
  refine b_lone hP w fun T9 => ?_
  replace M := M.tp T9 0 0
  replace SA := SA.tp T9 0
  replace SD := SD.tp T9 0
  replace SFu4 := SFu4.tp T9 0
  replace SLkur1_4 := SLkur1_4.tp T9 0
  replace SP := SP.tp T9 0
  replace Spu2 := Spu2.tp T9 0
  refine wp_region_lit ?_
  refine Zg3 T (Zq (Zra rfl evc)) rfl (Zc rfl) rfl (Zc rfl) rfl ?_; clear T ac; intro ac T
  refine wpList_nil ?_
  refine nqR_n M ?_; clear M; intro wc M
  replace SA := SA.pt
  replace SD := SD.pt
  replace SFu4 := SFu4.pt
  replace SLkur1_4 := SLkur1_4.pt
  replace SP := SP.pt
  replace Spu2 := Spu2.pt
  replace T := T.pick [0, 1, 2] rfl
  refine nm_then ?_
  refine wpB_ret hP ?_
  refine Zrt ?_
  refine rt_3 T rfl (T.e 2 rfl) (T.e 1 rfl) (T.e 0 rfl) ?_
  have hsv9 : svu2 = sums0 b := by rw [hsvu2, hlt]; rfl
  rw [hsv9] at hffu4
  have e9 : turL b p = [] ∧ turE b p = 11 := by unfold turL turE; rw [if_neg (by omega), if_neg (by omega), hffu4, show bfu4 = false by simp_all]; exact ⟨rfl, rfl⟩
  rw [e9.1, e9.2]
  exact ⟨none, 0, [], rfl, Nat.le_refl _, ⟨0, 0, fun w1 ex => Sp.nil⟩, M.sub (Zz9 _)⟩
 intro h2
 (have h2' := h2; try simp only [Zb1, Zb2, Zb3, Zb4, Zb5, Zb6, Zb7] at h2')
 have hrl : rfu4.length = p.length := hfqu4 (by simp_all)
 refine wpB_skip hP ?_
 refine nm_then ?_
 refine wpB_seq hP ?_
 refine b_lone hP w fun T9 => ?_
 replace M := M.tp T9 0 0
 replace SA := SA.tp T9 0
 replace SD := SD.tp T9 0
 replace SFu4 := SFu4.tp T9 0
 replace SLkur1_4 := SLkur1_4.tp T9 0
 replace SP := SP.tp T9 0
 replace Spu2 := Spu2.tp T9 0
 refine wp_region_lit ?_
 refine Zg2 T (Zq (Zrm rfl (T.e 1 rfl))) rfl (Zm 2 rfl rfl) rfl ?_; clear T ac; intro ac T
 refine Zl2 ?_
 refine Zoc (first := []) (cap := []) T rfl rfl rfl rfl evf (.cons (T.e 0 rfl) .nil) Try.func127 rfl rfl ?_
 refine Calls.mono (turns_any Afu4 cfu4 rfu4 _ (SFu4.rd M (Zsq _ _)) (by omega)) ?_
 clear T; rintro e wc ⟨rfl, hb⟩ ac T
 replace M := M.call hb; clear hb
 refine Zg3 T (Zq (Zra rfl (T.e 2 rfl))) rfl (Za 1 rfl rfl) rfl (Zc rfl) rfl ?_; clear T ac; intro ac T
 refine wpList_nil ?_
 refine nqR_n M ?_; clear M; intro wc M
 replace SA := SA.pt
 replace SD := SD.pt
 replace SFu4 := SFu4.pt
 replace SLkur1_4 := SLkur1_4.pt
 replace SP := SP.pt
 replace Spu2 := Spu2.pt
 replace T := T.pick [0, 1, 2] rfl
 refine nm_then ?_
 refine wpB_ret hP ?_
 refine rt_3 T rfl (T.e 2 rfl) (T.e 1 rfl) (T.e 0 rfl) ?_
 have hsv9 : svu2 = sums0 b := by rw [hsvu2, hlt]; rfl
 rw [hsv9] at hffu4
 have e9 : turL b p = rfu4 ∧ turE b p = 0 := by unfold turL turE; rw [if_neg (by omega), if_neg (by omega), hffu4, show bfu4 = true by simp_all]; exact ⟨rfl, rfl⟩
 rw [e9.1, e9.2]
 exact ⟨_, _, Ifu4, rfl, hfcu4, ⟨_, _, hSfu4⟩, M.sub ((Zsq _ _))⟩
theorem Turns_any {J : Nat → Option Obj} (hP : FuncsOk Try.prog) (b : Bw) (A : Option Addr) (c : Nat) (D : Option Addr) (d : Nat) (p : List Nt) (P : Option Addr) (pc : Nat)  (w : World) (hA : Rd w w.heap.size 2 A b.cs.length (rc b.cs)) (hD : Rd w w.heap.size 4 D b.ts.length (lkc b.ts)) (hop : ∀ t ∈ b.ts, Rd w w.heap.size 1 t.A t.op.length (ic t.op)) (nA : b.cs.length ≤ 1000) (nD : b.ts.length ≤ 1000) (nop : ∀ t ∈ b.ts, t.op.length ≤ 1000) (hP9 : Rd w w.heap.size 4 P p.length (ntc p)) (nP : p.length ≤ 1000)  :
  CallsB Try.prog J 27 #[.agg #[.int .i64 b.full, .int .i64 b.a0, .int .i64 b.a1, .slice A b.cs.length c, .slice D b.ts.length d], .slice P p.length pc] w (LsMPost (turL b p) (turE b p) w) := by
 obtain ⟨bA, oA, SA⟩ := Sp.old hA
 obtain ⟨bD, oD, SD⟩ := Sp.old hD
 obtain ⟨bP, oP, SP⟩ := Sp.old hP9
 refine px_enterB hP noEx Try.func27 rfl 13 rfl [.agg #[.int .i64 b.full, .int .i64 b.a0, .int .i64 b.a1, .slice A b.cs.length c, .slice D b.ts.length d], .slice P p.length pc] rfl rfl (Mem.init w _) ?_
 intro ac wc T M
 refine wpB_seq hP ?_
 refine b_lone hP w fun T9 => ?_
 replace M := M.tp T9 0 0
 replace SA := SA.tp T9 0
 replace SD := SD.tp T9 0
 replace SP := SP.tp T9 0
 refine wp_region_lit ?_
 refine Zl2 ?_
 refine Zob M T rfl rfl rfl rfl (T.e 0 rfl) rfl ?_; clear M T; intro g1 wc ac M T
 refine Zg3 T (Zq (Zra rfl evc)) rfl (Zc rfl) rfl (Zc rfl) rfl ?_; clear T ac; intro ac T
 refine wpList_nil ?_
 refine nqR_n M ?_; clear M; intro wc M
 replace SA := SA.pt
 replace SD := SD.pt
 replace SP := SP.pt
 replace T := T.pick [3, 5] rfl
 refine nm_then ?_
 refine wpB_seq hP ?_
 refine rB_preN hP w 2 (by decide) fun T9 => ?_
 replace M := M.tp T9 0 0
 replace SA := SA.tp T9 0
 replace SD := SD.tp T9 0
 replace SP := SP.tp T9 0
 refine Zg2 T (Zq (Zrr (Mem.nth M 0 rfl) rfl (T.e 0 rfl) rfl)) rfl (Zm 2 rfl rfl) rfl ?_; clear T ac; intro ac T
 refine wpList_nil ?_
 refine pqR_n M ?_; clear M; intro wc M
 replace SA := SA.pt
 replace SD := SD.pt
 replace SP := SP.pt
 refine rB_call hP (m := 6) (first := []) (cap := []) T rfl rfl rfl rfl rfl evf (.cons (T.e 1 rfl) (.cons (T.e 0 rfl) (.cons evf .nil))) Try.func86 rfl rfl (waysBy_any hP b A c D d p P pc _ (SA.rd M (Zz9 _)) (SD.rd M (Zz9 _)) (fun t ht => M.rd (hop t ht) (Nat.le_refl _)) nA nD nop (SP.rd M (Zz9 _)) nP) ?_
 clear T
 rintro e wc ⟨Atu1, ctu1, Itu1, rfl, htcu1, ⟨btu1, otu1, hStu1⟩, N⟩
 refine ⟨_, rfl, ?_⟩
 intro ac T
 replace M := (M.join N).swapI
 clear N
 replace M : Mem w noEx wc ((g1, .cells [.int .i64 b.full, .int .i64 b.a0, .int .i64 b.a1, .slice A b.cs.length c, .slice D b.ts.length d]) :: Itu1) := M
 refine rB_moreN hP w 6 0 rfl (by decide) fun T9 => ?_
 replace M := M.tp T9 0 0
 replace SA := SA.tp T9 0
 replace SD := SD.tp T9 0
 replace SP := SP.tp T9 0
 refine Zg6 T (Zq (Zre rfl (T.e 0 rfl) rfl)) rfl (Ze 1 rfl rfl rfl) rfl (Ze 2 rfl rfl rfl) rfl (Za 2 rfl rfl) rfl (Za 2 rfl rfl) rfl (Za 2 rfl rfl) rfl ?_; clear T ac; intro ac T
 refine wpList_nil ?_
 refine pqR_n M ?_; clear M; intro wc M
 replace SA := SA.pt
 replace SD := SD.pt
 replace SP := SP.pt
 refine rB_nil hP ?_
 replace T := T.pick [0, 1, 2] rfl
 replace M := M.mask [false] rfl
 refine nm_then ?_
 refine wpB_ret hP ?_
 refine rt_3 T rfl (T.e 2 rfl) (T.e 1 rfl) (T.e 0 rfl) ?_
 exact ⟨_, _, Itu1, rfl, htcu1, ⟨_, _, hStu1⟩, M.sub ((List.Sublist.refl _))⟩
end
def setL {α : Type} : List α → Nat → List α → List α
 | l, _, [] => l
 | l, o, v :: r => setL (l.set o v) (o + 1) r
theorem setL_take {α : Type} : ∀ (ds l : List α) (o m : Nat), (setL l o ds).take m = setL (l.take m) o ds
 | [], _, _, _ => rfl
 | v :: r, l, o, m => by unfold setL; rw [setL_take r, List.take_set]
def stC (cur : Array Value) (o : Nat) : List Value → Array Value
 | [] => cur
 | v :: r => stC (cur.setIfInBounds o v) (o + 1) r
theorem stC_list : ∀ (ds : List Value) (cur : Array Value) (o : Nat), (stC cur o ds).toList = setL cur.toList o ds
 | [], _, _ => rfl
 | v :: r, cur, o => by unfold stC setL; rw [stC_list r]; simp
theorem stC_size : ∀ (ds : List Value) (cur : Array Value) (o : Nat), (stC cur o ds).size = cur.size
 | [], _, _ => rfl
 | v :: r, cur, o => by unfold stC; rw [stC_size r]; simp
theorem heap_setCells {g : Nat} {e : TypeId} {fz : Nat × Nat} : ∀ (ds : List Value) (o : Nat) (cur : Array Value) (w : World), w.heap[g]? = some (.cells cur e fz) → (w.setCells g o ds).heap[g]? = some (.cells (stC cur o ds) e fz)
 | [], _, _, _, h => h
 | v :: r, o, cur, w, h => by
  unfold World.setCells stC
  refine heap_setCells r (o + 1) _ _ ?_
  unfold World.setCell
  simp [Array.getElem?_modify, h]
section
variable {P : Program} {op : Oper} {a : Act} {K : Act → World → Prop} {Q : Exit → Act → World → Prop} {w0 w : World} {ex : Nat → Prop} {L : List (Nat × BA)} {E : List (Nat × Value)} {df : List Deferred} {nn : Nat}
theorem setL_rc : ∀ (l : List (Int × Int)) (k : Nat) (v0 v1 : Int), setL (rc l) (k * 2) [.int .i64 v0, .int .i64 v1] = rc (l.set k (v0, v1))
 | [], k, v0, v1 => by simp [setL, rc]
 | x :: l, 0, v0, v1 => by simp [setL, rc]
 | x :: l, k + 1, v0, v1 => by
  have := setL_rc l k v0 v1
  have e : (k + 1) * 2 = k * 2 + 2 := by omega
  simp only [setL] at this ⊢
  rw [e]
  show ((.int .i64 x.1 :: .int .i64 x.2 :: rc l).set (k * 2 + 2) _).set (k * 2 + 2 + 1) _ = .int .i64 x.1 :: .int .i64 x.2 :: rc (l.set k (v0, v1))
  simp only [Zz8]
  rw [this]
theorem ow_stSlR {ty : TypeId} {x y : Operand} {L0 I : List (Nat × BA)} {A : Option Addr} {e n c b k : Nat} {v0 v1 : Int} {l : List (Int × Int)} (L1 : List (Nat × BA)) (M : Mem w0 ex w L0) (hsp : L0 = L1 ++ I) (hS : Sl e 2 (.slice A n c) n (rc l) I) (T : TmD df a nn E) (ho : op.op = .store ty x y) (hd : op.dst = none)
   (hx : a.eval x = .pointer (some ⟨b, 0 + k * 2, none⟩)) (hA : A = some ⟨b, 0, none⟩) (hy : a.eval y = .agg #[.int .i64 v0, .int .i64 v1]) (hk : k < l.length) (hn : l.length = n) (hi : (P.info? ty).map (·.size) = some 2)
   (h : ∀ I' w' a', Sl e 2 (.slice A n c) n (rc (l.set k (v0, v1))) I' → Mem w0 ex w' (L1 ++ I') → TmD df a' nn E → K a' w') : op.wp P a w K Q := by
 subst hsp
 rcases hS with ⟨h1, h2, -, -⟩ | ⟨g, cap, h1, rfl⟩
 · omega
 · injection h1 with h1 _ h2
   subst h2
   rw [hA] at h1
   injection h1 with h1
   injection h1 with h1 _ _
   subst h1
   subst hA
   have hm : (b, BA.row e 2 n (rc l) c) ∈ L1 ++ [(b, .row e 2 n (rc l) c)] := by simp
   obtain ⟨⟨hl, hb⟩, hk0⟩ := (M.blk _ hm).2
   rcases hb with ⟨hb, _⟩ | ⟨g', cap', cur, e1, hge, hg, hc1, hc2, hc3, hc4⟩
   · cases hb
   · injection e1 with e1 _ ec
     injection e1 with e1
     injection e1 with e1 _ _
     subst e1
     subst ec
     have hB : Bk w b cur := Bk.of_heap hg
     have hB' : Bk w b cur.toList.toArray := by simpa using hB
     have hsz : 0 + k * 2 + 2 ≤ cur.toList.length := by
       have : n * 2 ≤ c * 2 := Nat.mul_le_mul_right _ hc1
       have h9 : cur.toList.length = c * 2 := by simpa using hc3
       omega
     unfold Oper.wp execOp
     simp only [ho, hx, hy, Instr.storeAt, Instr.sureAddr, Sem.run_bind, Sem.run_pure, Result.andThen_ok, run_store_any (v := .agg #[.int .i64 v0, .int .i64 v1]) (ds := [.int .i64 v0, .int .i64 v1]) hi hB' rfl rfl hsz]
     refine h [(b, .row e 2 n (rc (l.set k (v0, v1))) c)] _ _ (.inr ⟨b, c, rfl, rfl⟩) (M.write (Upd.app L1) (Oth.setCells b _ _ _) ?_) (show TmD df (a.put op.dst undef) nn E by rw [hd]; exact T)
     refine ⟨⟨by rw [rc_length, List.length_set]; rw [rc_length] at hl; exact hl, .inr ⟨b, c, _, rfl, Nat.le_refl _, heap_setCells _ _ _ _ hg, hc1, hc2, by rw [stC_size]; exact hc3, ?_⟩⟩, hk0⟩
     rw [stC_list, setL_take, hc4, Nat.zero_add, setL_rc]
theorem Sl.at {e size n c : Nat} {A : Option Addr} {xs : List Value} {I : List (Nat × BA)} (h : Sl e size (.slice A n c) n xs I) (hl : xs.length = n * size) (hn : 0 < n) : ∃ b, A = some ⟨b, 0, none⟩ ∧ ∀ (w : World) (ex : Nat → Prop), Sp w ex I A n size b 0 xs := by
 rcases h with ⟨-, h2, -, -⟩ | ⟨g, cap, h1, rfl⟩
 ·omega
 ·injection h1 with h1 _ h2
  subst h1
  subst h2
  exact ⟨g, rfl, fun w ex => Sp.row hl⟩
end
section
open Go.RowKit Go.Proofs.Ytoheddpnnjldgaa.Bq
set_option maxHeartbeats 4000000 in
theorem Mend_any {J : Nat → Option Obj} (hP : FuncsOk Try.prog) (b : Bw) (A : Option Addr) (c : Nat) (D : Option Addr) (d : Nat) (p : List Nt) (P : Option Addr) (pc : Nat)  (w : World) (hA : Rd w w.heap.size 2 A b.cs.length (rc b.cs)) (hD : Rd w w.heap.size 4 D b.ts.length (lkc b.ts)) (hop : ∀ t ∈ b.ts, Rd w w.heap.size 1 t.A t.op.length (ic t.op)) (nA : b.cs.length ≤ 1000) (nD : b.ts.length ≤ 1000) (nop : ∀ t ∈ b.ts, t.op.length ≤ 1000) (hP9 : Rd w w.heap.size 4 P p.length (ntc p)) (nP : p.length ≤ 1000)  :
   CallsB Try.prog J 72 #[.agg #[.int .i64 b.full, .int .i64 b.a0, .int .i64 b.a1, .slice A b.cs.length c, .slice D b.ts.length d], .slice P p.length pc] w (LsEPost (menL b p) (menE b p) w) := by
 obtain ⟨bA, oA, SA⟩ := Sp.old hA
 obtain ⟨bD, oD, SD⟩ := Sp.old hD
 obtain ⟨bP, oP, SP⟩ := Sp.old hP9
 refine px_enterB hP noEx Try.func72 rfl 26 rfl [.agg #[.int .i64 b.full, .int .i64 b.a0, .int .i64 b.a1, .slice A b.cs.length c, .slice D b.ts.length d], .slice P p.length pc] rfl rfl (Mem.init w _) ?_
 intro ac wc T M
 refine wpB_seq hP ?_
 refine b_lone hP w fun T9 => ?_
 replace M := M.tp T9 0 0
 replace SA := SA.tp T9 0
 replace SD := SD.tp T9 0
 replace SP := SP.tp T9 0
 refine wp_region_lit ?_
 refine Zl2 ?_
 refine Zob M T rfl rfl rfl rfl (T.e 0 rfl) rfl ?_; clear M T; intro g1 wc ac M T
 refine Zl2 ?_
 refine Zob M T rfl rfl rfl rfl (T.e 2 rfl) rfl ?_; clear M T; intro g2 wc ac M T
 refine Zg2 T (Zq (Zra rfl evc)) rfl (Zc rfl) rfl ?_; clear T ac; intro ac T
 refine wpList_nil ?_
 refine nqR_n M ?_; clear M; intro wc M
 replace SA := SA.pt
 replace SD := SD.pt
 replace SP := SP.pt
 replace T := T.pick [2, 3] rfl
 refine nm_then ?_
 refine wpB_seq hP ?_
 refine gB_start2 hP M (M.mask [true, true] rfl) 11 (by kernel_rfl) rfl (by kernel_rfl) ?_
 clear M; intro wc M
 refine gB_have (fun ac wc => ∃ (Akur1_4 : Option Addr), ∃ (ckur1_4 : Nat), ∃ (Ikur1_4 : List (Nat × BA)), ∃ (lkur1_4 : List L4), ∃ (ekur1_4 : Int), ∃ (bkur1_4 : Nat), ∃ (okur1_4 : Nat), (lkur1_4 = knownL b [(pieceE p)]) ∧ (ekur1_4 = knownE b [(pieceE p)]) ∧ (Sp w noEx Ikur1_4 Akur1_4 lkur1_4.length 4 bkur1_4 okur1_4 (l4c lkur1_4)) ∧ ∃ (gr1_8 gr1_3 : Nat), Tm ac 26 [(6, .pointer (some ⟨gr1_8, 0, none⟩)), (15, .int .i64 ekur1_4), (14, .slice Akur1_4 lkur1_4.length ckur1_4), (8, .tuple #[.slice Akur1_4 lkur1_4.length ckur1_4, .int .i64 ekur1_4]), (13, .tuple #[.slice Akur1_4 lkur1_4.length ckur1_4, .int .i64 ekur1_4]), (12, .slice (some ⟨gr1_3, 0, none⟩) 1 1), (11, .int .i64 (pieceE p)), (10, .slice P p.length pc), (9, .agg #[.int .i64 b.full, .int .i64 b.a0, .int .i64 b.a1, .slice A b.cs.length c, .slice D b.ts.length d]), (3, .pointer (some ⟨g2, 0, none⟩)), (2, .pointer (some ⟨g1, 0, none⟩))] ∧ Mem w noEx wc ((gr1_8, .cells [.slice none 0 0]) :: (gr1_3, .cells [.int .i64 (pieceE p)]) :: (g2, .cells [.slice P p.length pc]) :: (g1, .cells [.int .i64 b.full, .int .i64 b.a0, .int .i64 b.a1, .slice A b.cs.length c, .slice D b.ts.length d]) :: Ikur1_4)) (Zpb 11 511) 2 ?_ ?_
 ·clear T M
  rintro ac wc ⟨Akur1_4, ckur1_4, Ikur1_4, lkur1_4, ekur1_4, bkur1_4, okur1_4, hlkur1_4, hekur1_4, SLkur1_4, gr1_8, gr1_3, T, M⟩
  refine gB_w (i := 9) (by kernel_rfl) rfl (by kernel_rfl : (Zpb 11 511).setIfInBounds 9 true = Zpb 11 1023) rfl ?_; intro T9 K hK
  replace M := M.tp T9 0 0
  replace SA := SA.tp T9 0
  replace SD := SD.tp T9 0
  replace SLkur1_4 := SLkur1_4.tp T9 0
  replace SP := SP.tp T9 0
  refine Zos M T rfl rfl (T.e 0 rfl) (T.e 2 rfl) rfl .head rfl (by simp) rfl (by kernel_rfl) ?_; clear M T; intro wc ac M T
  refine gB_out hK M ?_; clear hK K M; intro wc M
  replace SA := SA.pt
  replace SD := SD.pt
  replace SLkur1_4 := SLkur1_4.pt
  replace SP := SP.pt
  refine ⟨(M.perm [2, 3] rfl rfl), ?_⟩
  refine gB_q (T := T) (i := 10) rfl (by kernel_rfl) (by kernel_rfl : (Zpb 11 1023).setIfInBounds 10 true = Zpb 11 2047) (fun _ => si_U) rfl rfl rfl rfl (fun _ _ _ _ _ _ => (Zra rfl (T.e 1 rfl))) ?_; clear T ac; intro ac T
  refine gB_done (by kernel_rfl) M ?_; clear M; intro wc M
  replace T := T.pick [0, 1, 10, 11] rfl
  replace M := M.mask [true, false, true, true] rfl
  refine nm_then ?_
  refine b_lone hP w fun T9 => ?_
  replace M := M.tp T9 0 0
  replace SA := SA.tp T9 0
  replace SD := SD.tp T9 0
  replace SLkur1_4 := SLkur1_4.tp T9 0
  replace SP := SP.tp T9 0
  generalize hw9 : Bq.tp w T9 0 = w at M SA SD SLkur1_4 SP
  generalize Bq.tp wc T9 0 = wc at M ⊢
  refine wp_seq ?_
  refine Zsr ?_
  refine Zg2 T (Zq (Zrm rfl (T.e 0 rfl))) rfl (fun _ T => Zq (rn_neq rfl (T.e 0 rfl) evc)) rfl ?_; clear T ac; intro ac T
  replace T := T.pick [0, 2, 3, 4, 5] rfl
  refine Zln ?_
  refine wp_ifn (T.e 0 rfl) ?_ ?_
  ·intro h1
   refine Zsr ?_
   refine Zg3 T (Zq (Zrm rfl (T.e 1 rfl))) rfl (Zc rfl) rfl (Za 1 rfl rfl) rfl ?_; clear T ac; intro ac T
   refine wpList_nil ?_
   replace T := T.pick [0, 1] rfl
   replace M := M.mask [false, false, false] rfl
   refine Znr ?_
   refine Zrt ?_
   subst hw9
   refine nqR_r M ?_; clear M; intro wc M
   refine rt_2 T rfl (T.e 1 rfl) (T.e 0 rfl) ?_
   have hke : knownE b [pieceE p] ≠ 0 := by rw [← hekur1_4]; omega
   have e9 : menL b p = [] ∧ menE b p = ekur1_4 := by unfold menL menE; rw [if_pos hke, if_pos hke, hekur1_4]; exact ⟨rfl, rfl⟩
   rw [e9.1, e9.2]
   exact ⟨none, 0, [], rfl, Nat.le_refl _, ⟨0, 0, fun w1 ex => Sp.nil⟩, M.sub (Zz9 _)⟩
  intro h1
  have hke : knownE b [pieceE p] = 0 := by rw [← hekur1_4]; omega
  obtain ⟨hgood, hf9, hlt, hl4, hlp, hln⟩ := known_ok nop hke
  rw [← hlkur1_4] at hlt hl4 hlp hln
  have hgp := pieceE_good (first1 hf9)
  have hgb := hgood.airs
  have h4 := hgood.n4
  refine Zsk ?_
  refine Zsr ?_
  refine Zg4 (v1 := (.pointer (some ⟨g1, 3, none⟩))) (v4 := (.func (.func 116) #[] #[.pointer (some ⟨g1, 0, none⟩), .pointer (some ⟨gr1_8, 0, none⟩), .pointer (some ⟨g2, 0, none⟩)])) T (Zq (Zrf (off := 3) rfl (T.e 4 rfl) (fun _ _ _ => by kernel_rfl))) rfl (Zo M 2 0 rfl rfl rfl rfl) rfl (Zl Try.underlying24 0 rfl rfl) rfl (fun _ T => Zq (rn_makeFunc rfl .nil (.cons (T.e 7 rfl) (.cons (T.e 5 rfl) (.cons (T.e 6 rfl) .nil))))) rfl ?_; clear T ac; intro ac T
  refine Zl2 ?_
  have hP8 := SP.rd M (Zz9 _)
  have hL8 := SLkur1_4.rd M (.cons _ (.cons _ (.cons _ (List.Sublist.refl _))))
  have q5 := M.nth 2 rfl
  have q6 := M.nth 0 rfl
  have q7 := M.nth 1 rfl
  refine Zoc (first := []) (cap := []) T rfl rfl rfl rfl evf (.cons (T.e 1 rfl) (.cons (T.e 0 rfl) .nil)) Try.func88 rfl rfl ?_
  refine Calls.mono (fewest_any b.cs.length 116 _ [.pointer (some ⟨g1, 0, none⟩), .pointer (some ⟨gr1_8, 0, none⟩), .pointer (some ⟨g2, 0, none⟩)] (fun m => fineB b p (sumsB (cornL b.cs.length m) lkur1_4)) _ (by omega) Try.func116 rfl rfl (fun x W hW hR hx => mend1_any b A c D d p P pc lkur1_4 Akur1_4 ckur1_4 x.A x.c x.l g1 gr1_8 g2 W ((hP8.below hW).more hW.size) hR ((hL8.below hW).more hW.size) (by omega) hl4 h4 (by have := hx.2; omega) hgp hgb (q5.below hW) (q6.below hW) (q7.below hW))) ?_
  clear T; rintro e wc ⟨Awu1, cwu1, Iwu1, rfl, hwcu1, ⟨bwu1, owu1, hSwu1⟩, N⟩ ac T
  replace M := (M.join N).swapI
  clear N
  replace M : Mem w noEx wc ((gr1_8, .cells [.slice Akur1_4 lkur1_4.length ckur1_4]) :: (g2, .cells [.slice P p.length pc]) :: (g1, .cells [.int .i64 b.full, .int .i64 b.a0, .int .i64 b.a1, .slice A b.cs.length c, .slice D b.ts.length d]) :: (Ikur1_4 ++ Iwu1)) := M
  refine Zg4 T (Zq (Zre rfl (T.e 0 rfl) rfl)) rfl (Ze 1 rfl rfl rfl) rfl (Za 1 rfl rfl) rfl (Za 1 rfl rfl) rfl ?_; clear T ac; intro ac T
  refine wpList_nil ?_
  replace T := T.pick [0, 1] rfl
  replace M := M.mask [false, false, false] rfl
  refine Znr ?_
  subst hw9
  refine nqR_r M ?_; clear M; intro wc M
  refine rt_2 T rfl (T.e 1 rfl) (T.e 0 rfl) ?_
  have e9 : menL b p = fewL b.cs.length (fun m => fineB b p (sumsB (cornL b.cs.length m) lkur1_4)) ∧ menE b p = fewE b.cs.length (fun m => fineB b p (sumsB (cornL b.cs.length m) lkur1_4)) := by unfold menL menE; rw [if_neg (by omega), if_neg (by omega), hlt]; exact ⟨rfl, rfl⟩
  rw [e9.1, e9.2]
  exact ⟨_, _, Iwu1, rfl, hwcu1, ⟨_, _, hSwu1⟩, M.sub ((Zsq _ _))⟩
 intro H2
 refine gB_have (fun ac wc => ∃ (gr1_8 gr1_3 : Nat), Tm ac 26 [(6, .pointer (some ⟨gr1_8, 0, none⟩)), (12, .slice (some ⟨gr1_3, 0, none⟩) 1 1), (11, .int .i64 (pieceE p)), (10, .slice P p.length pc), (9, .agg #[.int .i64 b.full, .int .i64 b.a0, .int .i64 b.a1, .slice A b.cs.length c, .slice D b.ts.length d]), (3, .pointer (some ⟨g2, 0, none⟩)), (2, .pointer (some ⟨g1, 0, none⟩))] ∧ Mem w noEx wc [(gr1_8, .cells [.slice none 0 0]), (gr1_3, .cells [.int .i64 (pieceE p)]), (g2, .cells [.slice P p.length pc]), (g1, .cells [.int .i64 b.full, .int .i64 b.a0, .int .i64 b.a1, .slice A b.cs.length c, .slice D b.ts.length d])]) (Zpb 11 271) 6 ?_ ?_
 ·clear T M
  rintro ac wc ⟨gr1_8, gr1_3, T, M⟩
  refine gB_one (i := 4) (by kernel_rfl) (by kernel_rfl : (Zpb 11 271).setIfInBounds 4 true = Zpb 11 287) (opB_call (first := []) (cap := []) T rfl rfl rfl rfl rfl evf (.cons (T.e 4 rfl) (.cons (T.e 1 rfl) .nil)) Try.func77 rfl rfl (known_any hP b A c D d (some ⟨gr1_3, 0, none⟩) 1 [(pieceE p)] _ (SA.rd M (Zz9 _)) (SD.rd M (Zz9 _)) (fun t ht => M.rd (hop t ht) (Nat.le_refl _)) nA nD nop (M.rdOwn (Zne (i := 1) rfl) rfl rfl) (by first | omega | simp)) ?_ rfl)
  clear T
  rintro e wc ⟨Akur1_4, ckur1_4, Ikur1_4, rfl, hckur1_4, N⟩
  refine ⟨_, rfl, ?_⟩
  intro ac T
  obtain ⟨lkur1_4, hlkur1_4⟩ : ∃ q, q = knownL b [(pieceE p)] := ⟨_, rfl⟩
  obtain ⟨ekur1_4, hekur1_4⟩ : ∃ q, q = knownE b [(pieceE p)] := ⟨_, rfl⟩
  rw [← hlkur1_4] at hckur1_4 T
  rw [← hekur1_4] at T
  obtain ⟨bkur1_4, okur1_4, hSkur1_4⟩ := hckur1_4.spV (l4c_length _)
  have SLkur1_4 := hSkur1_4 w noEx
  clear hSkur1_4
  replace M := (M.join N).swapI
  clear N
  replace M : Mem w noEx wc ((gr1_8, .cells [.slice none 0 0]) :: (gr1_3, .cells [.int .i64 (pieceE p)]) :: (g2, .cells [.slice P p.length pc]) :: (g1, .cells [.int .i64 b.full, .int .i64 b.a0, .int .i64 b.a1, .slice A b.cs.length c, .slice D b.ts.length d]) :: Ikur1_4) := M
  refine ⟨(M.perm [2, 3] rfl rfl), ?_⟩
  refine gB_q (T := T) (i := 5) rfl (by kernel_rfl) (by kernel_rfl : (Zpb 11 287).setIfInBounds 5 true = Zpb 11 319) (fun _ => si_U) rfl rfl rfl rfl (fun _ _ _ _ _ _ => (Zrm rfl (T.e 0 rfl))) ?_; clear T ac; intro ac T
  refine gB_q (T := T) (i := 6) rfl (by kernel_rfl) (by kernel_rfl : (Zpb 11 319).setIfInBounds 6 true = Zpb 11 383) (fun _ => si_U) rfl rfl rfl rfl (fun _ _ _ _ _ _ => (Zre rfl (T.e 0 rfl) rfl)) ?_; clear T ac; intro ac T
  refine gB_q (T := T) (i := 7) rfl (by kernel_rfl) (by kernel_rfl : (Zpb 11 383).setIfInBounds 7 true = Zpb 11 511) (fun _ => si_U) rfl rfl rfl rfl (fun _ _ _ _ _ _ => (Zre rfl (T.e 1 rfl) rfl)) ?_; clear T ac; intro ac T
  exact H2 _ _ ⟨Akur1_4, ckur1_4, Ikur1_4, lkur1_4, ekur1_4, bkur1_4, okur1_4, hlkur1_4, hekur1_4, SLkur1_4, gr1_8, gr1_3, T.pick [4, 0, 1, 2, 3, 5, 6, 7, 8, 9, 10] rfl, M⟩
 intro H1
 refine gB_have (fun ac wc => ∃ (gr1_8 : Nat), Tm ac 26 [(6, .pointer (some ⟨gr1_8, 0, none⟩)), (11, .int .i64 (pieceE p)), (10, .slice P p.length pc), (9, .agg #[.int .i64 b.full, .int .i64 b.a0, .int .i64 b.a1, .slice A b.cs.length c, .slice D b.ts.length d]), (3, .pointer (some ⟨g2, 0, none⟩)), (2, .pointer (some ⟨g1, 0, none⟩))] ∧ Mem w noEx wc [(gr1_8, .cells [.slice none 0 0]), (g2, .cells [.slice P p.length pc]), (g1, .cells [.int .i64 b.full, .int .i64 b.a0, .int .i64 b.a1, .slice A b.cs.length c, .slice D b.ts.length d])]) (Zpb 11 263) 7 ?_ ?_
 ·clear T M
  rintro ac wc ⟨gr1_8, T, M⟩
  refine gB_w (i := 3) (by kernel_rfl) rfl (by kernel_rfl : (Zpb 11 263).setIfInBounds 3 true = Zpb 11 271) rfl ?_; intro T9 K hK
  replace M := M.tp T9 0 0
  replace SA := SA.tp T9 0
  replace SD := SD.tp T9 0
  replace SP := SP.tp T9 0
  refine ow_bs (e := 39) [.int .i64 (pieceE p)] M T rfl rfl rfl rfl (.cons (T.e 1 rfl) .nil) (fun _ => by kernel_rfl) ?_; clear M T; intro gr1_3 wc ac M T
  refine gB_out hK M ?_; clear hK K M; intro wc M
  replace SA := SA.pt
  replace SD := SD.pt
  replace SP := SP.pt
  refine ⟨(M.mask [false, false, true, true] rfl), ?_⟩
  exact H1 _ _ ⟨gr1_8, gr1_3, T.pick [1, 0, 2, 3, 4, 5, 6] rfl, M.perm [1, 0, 2, 3] rfl rfl⟩
 intro H0
 refine gB_q (T := T) (i := 0) rfl (by kernel_rfl) (by kernel_rfl : (Zpb 11 0).setIfInBounds 0 true = Zpb 11 1) (fun _ => si_U) rfl rfl rfl rfl (fun T9 B w' hD hl hS => (Zrr (Mem.nth (show Mem (Bq.tp w T9 0) noEx w' _ from hS) 1 rfl) rfl (T.e 1 rfl) rfl)) ?_; clear T ac; intro ac T
 refine gB_q (T := T) (i := 1) rfl (by kernel_rfl) (by kernel_rfl : (Zpb 11 1).setIfInBounds 1 true = Zpb 11 3) (fun _ => si_U) rfl rfl rfl rfl (fun T9 B w' hD hl hS => (Zro (Mem.nth (show Mem (Bq.tp w T9 0) noEx w' _ from hS) 0 rfl) rfl (T.e 1 rfl) rfl)) ?_; clear T ac; intro ac T
 refine gB_m2 (i := 2) (j := 8) (by kernel_rfl) ?_ ?_
 ·refine gB_i rfl (by kernel_rfl : (Zpb 11 3).setIfInBounds 2 true = Zpb 11 7) rfl ?_; intro T9 K hK
  replace M := M.tp T9 0 0
  replace SA := SA.tp T9 0
  replace SD := SD.tp T9 0
  replace SP := SP.tp T9 0
  refine Zoc (first := []) (cap := []) T rfl rfl rfl rfl evf (.cons (T.e 0 rfl) .nil) Try.func40 rfl rfl ?_
  refine Calls.mono (piece_any p P pc _ (SP.rd M (Zz9 _)) (by omega)) ?_
  clear T; rintro e wc ⟨rfl, hb⟩ ac T
  replace M := M.call hb; clear hb
  refine gB_out hK M ?_; clear hK K M; intro wc M
  replace SA := SA.pt
  replace SD := SD.pt
  replace SP := SP.pt
  refine ⟨(M.mask [true, true] rfl), ?_⟩
  refine gB_m2 (i := 3) (j := 8) (by kernel_rfl) ?_ ?_
  ·refine gB_i rfl (by kernel_rfl : (Zpb 11 7).setIfInBounds 3 true = Zpb 11 15) rfl ?_; intro T9 K hK
   replace M := M.tp T9 0 0
   replace SA := SA.tp T9 0
   replace SD := SD.tp T9 0
   replace SP := SP.tp T9 0
   refine ow_bs (e := 39) [.int .i64 (pieceE p)] M T rfl rfl rfl rfl (.cons (T.e 0 rfl) .nil) (fun _ => by kernel_rfl) ?_; clear M T; intro gr1_3 wc ac M T
   refine gB_out hK M ?_; clear hK K M; intro wc M
   replace SA := SA.pt
   replace SD := SD.pt
   replace SP := SP.pt
   refine ⟨(M.mask [false, true, true] rfl), ?_⟩
   refine gB_m2 (i := 4) (j := 8) (by kernel_rfl) ?_ ?_
   ·refine gB_ic (by kernel_rfl : (Zpb 11 15).setIfInBounds 4 true = Zpb 11 31) (opB_call (first := []) (cap := []) T rfl rfl rfl rfl rfl evf (.cons (T.e 3 rfl) (.cons (T.e 0 rfl) .nil)) Try.func77 rfl rfl (known_any hP b A c D d (some ⟨gr1_3, 0, none⟩) 1 [(pieceE p)] _ (SA.rd M (Zz9 _)) (SD.rd M (Zz9 _)) (fun t ht => M.rd (hop t ht) (Nat.le_refl _)) nA nD nop (M.rdOwn (Zne (i := 0) rfl) rfl rfl) (by first | omega | simp)) ?_ rfl)
    clear T
    rintro e wc ⟨Akur1_4, ckur1_4, Ikur1_4, rfl, hckur1_4, N⟩
    refine ⟨_, rfl, ?_⟩
    intro ac T
    obtain ⟨lkur1_4, hlkur1_4⟩ : ∃ q, q = knownL b [(pieceE p)] := ⟨_, rfl⟩
    obtain ⟨ekur1_4, hekur1_4⟩ : ∃ q, q = knownE b [(pieceE p)] := ⟨_, rfl⟩
    rw [← hlkur1_4] at hckur1_4 T
    rw [← hekur1_4] at T
    obtain ⟨bkur1_4, okur1_4, hSkur1_4⟩ := hckur1_4.spV (l4c_length _)
    have SLkur1_4 := hSkur1_4 w noEx
    clear hSkur1_4
    replace M := (M.join N).swapI
    clear N
    replace M : Mem w noEx wc ((gr1_3, .cells [.int .i64 (pieceE p)]) :: (g2, .cells [.slice P p.length pc]) :: (g1, .cells [.int .i64 b.full, .int .i64 b.a0, .int .i64 b.a1, .slice A b.cs.length c, .slice D b.ts.length d]) :: Ikur1_4) := M
    refine ⟨(M.perm [1, 2] rfl rfl), ?_⟩
    refine gB_q (T := T) (i := 5) rfl (by kernel_rfl) (by kernel_rfl : (Zpb 11 31).setIfInBounds 5 true = Zpb 11 63) (fun _ => si_U) rfl rfl rfl rfl (fun _ _ _ _ _ _ => (Zrm rfl (T.e 0 rfl))) ?_; clear T ac; intro ac T
    refine gB_q (T := T) (i := 6) rfl (by kernel_rfl) (by kernel_rfl : (Zpb 11 63).setIfInBounds 6 true = Zpb 11 127) (fun _ => si_U) rfl rfl rfl rfl (fun _ _ _ _ _ _ => (Zre rfl (T.e 0 rfl) rfl)) ?_; clear T ac; intro ac T
    refine gB_q (T := T) (i := 7) rfl (by kernel_rfl) (by kernel_rfl : (Zpb 11 127).setIfInBounds 7 true = Zpb 11 255) (fun _ => si_U) rfl rfl rfl rfl (fun _ _ _ _ _ _ => (Zre rfl (T.e 1 rfl) rfl)) ?_; clear T ac; intro ac T
    refine gB_w (i := 8) (by kernel_rfl) rfl (by kernel_rfl : (Zpb 11 255).setIfInBounds 8 true = Zpb 11 511) rfl ?_; intro T9 K hK
    replace M := M.tp T9 0 0
    replace SA := SA.tp T9 0
    replace SD := SD.tp T9 0
    replace SLkur1_4 := SLkur1_4.tp T9 0
    replace SP := SP.tp T9 0
    refine Zoa M T rfl rfl rfl rfl ?_; clear M T; intro gr1_8 wc ac M T
    refine gB_out hK M ?_; clear hK K M; intro wc M
    replace SA := SA.pt
    replace SD := SD.pt
    replace SLkur1_4 := SLkur1_4.pt
    replace SP := SP.pt
    refine ⟨(M.perm [2, 3] rfl rfl), ?_⟩
    exact H2 _ _ ⟨Akur1_4, ckur1_4, Ikur1_4, lkur1_4, ekur1_4, bkur1_4, okur1_4, hlkur1_4, hekur1_4, SLkur1_4, gr1_8, gr1_3, T, M⟩
   refine gB_i rfl (by kernel_rfl : (Zpb 11 15).setIfInBounds 8 true = Zpb 11 271) rfl ?_; intro T9 K hK
   replace M := M.tp T9 0 0
   replace SA := SA.tp T9 0
   replace SD := SD.tp T9 0
   replace SP := SP.tp T9 0
   refine Zoa M T rfl rfl rfl rfl ?_; clear M T; intro gr1_8 wc ac M T
   refine gB_out hK M ?_; clear hK K M; intro wc M
   replace SA := SA.pt
   replace SD := SD.pt
   replace SP := SP.pt
   refine ⟨(M.mask [false, false, true, true] rfl), ?_⟩
   exact H1 _ _ ⟨gr1_8, gr1_3, T, M⟩
  refine gB_i rfl (by kernel_rfl : (Zpb 11 7).setIfInBounds 8 true = Zpb 11 263) rfl ?_; intro T9 K hK
  replace M := M.tp T9 0 0
  replace SA := SA.tp T9 0
  replace SD := SD.tp T9 0
  replace SP := SP.tp T9 0
  refine Zoa M T rfl rfl rfl rfl ?_; clear M T; intro gr1_8 wc ac M T
  refine gB_out hK M ?_; clear hK K M; intro wc M
  replace SA := SA.pt
  replace SD := SD.pt
  replace SP := SP.pt
  refine ⟨(M.mask [false, true, true] rfl), ?_⟩
  exact H0 _ _ ⟨gr1_8, T, M⟩
 refine gB_i rfl (by kernel_rfl : (Zpb 11 3).setIfInBounds 8 true = Zpb 11 259) rfl ?_; intro T9 K hK
 replace M := M.tp T9 0 0
 replace SA := SA.tp T9 0
 replace SD := SD.tp T9 0
 replace SP := SP.tp T9 0
 refine Zoa M T rfl rfl rfl rfl ?_; clear M T; intro gr1_8 wc ac M T
 refine gB_out hK M ?_; clear hK K M; intro wc M
 replace SA := SA.pt
 replace SD := SD.pt
 replace SP := SP.pt
 refine ⟨(M.mask [false, true, true] rfl), ?_⟩
 refine gB_w (i := 2) (by kernel_rfl) rfl (by kernel_rfl : (Zpb 11 259).setIfInBounds 2 true = Zpb 11 263) rfl ?_; intro T9 K hK
 replace M := M.tp T9 0 0
 replace SA := SA.tp T9 0
 replace SD := SD.tp T9 0
 replace SP := SP.tp T9 0
 refine Zoc (first := []) (cap := []) T rfl rfl rfl rfl evf (.cons (T.e 1 rfl) .nil) Try.func40 rfl rfl ?_
 refine Calls.mono (piece_any p P pc _ (SP.rd M (Zz9 _)) (by omega)) ?_
 clear T; rintro e wc ⟨rfl, hb⟩ ac T
 replace M := M.call hb; clear hb
 refine gB_out hK M ?_; clear hK K M; intro wc M
 replace SA := SA.pt
 replace SD := SD.pt
 replace SP := SP.pt
 refine ⟨(M.mask [false, true, true] rfl), ?_⟩
 exact H0 _ _ ⟨gr1_8, T.pick [1, 0, 2, 3, 4, 5] rfl, M⟩
end
section
open Go.RowKit Go.Proofs.Ytoheddpnnjldgaa.Bq
theorem Sl.capLe {e n size : Nat} {A : Option Addr} {c : Nat} {xs : List Value} {I : List (Nat × BA)} {w0 w : World} {ex : Nat → Prop} {L : List (Nat × BA)} (h : Sl e size (.slice A n c) n xs I) (M : Mem w0 ex w L) (hI : I.Sublist L) : n ≤ c := by
 rcases h with ⟨h1, h2, -, -⟩ | ⟨g, cap, h1, h2⟩
 ·omega
 ·injection h1 with _ _ h3
  subst h3
  obtain ⟨⟨-, h5⟩, h6⟩ := (M.blk (g, .row e size n xs c) (hI.subset (by rw [h2]; exact Zz2))).2
  rcases h5 with ⟨h7, -⟩ | ⟨g', cap, cur, h7, -, -, h8, -⟩
  ·cases h7
  ·injection h7 with _ _ h9
   omega
theorem Sl.spV {e n c size : Nat} {A : Option Addr} {xs : List Value} {I : List (Nat × BA)} (h : Sl e size (.slice A n c) n xs I) (hl : xs.length = n * size) : ∃ b o, ∀ (w : World) (ex : Nat → Prop), Sp w ex I A n size b o xs := by
 rcases h with ⟨h1, rfl, rfl, rfl⟩ | ⟨g, cap, h1, rfl⟩
 ·exact ⟨0, 0, fun w ex => Sp.nil⟩
 ·injection h1 with h1 _ h2
  subst h1
  exact ⟨g, 0, fun w ex => Sp.row (by omega)⟩
theorem Mem.permL {w0 w : World} {ex : Nat → Prop} {L L' : List (Nat × BA)} (M : Mem w0 ex w L) (h : L.Perm L') : Mem w0 ex w L' :=
 ⟨M.os, M.tape, M.output, M.size, M.block, fun p hp => M.blk p (h.mem_iff.2 hp), (h.map (·.1)).nodup M.nd⟩
theorem Mem.tail3 {w0 w : World} {ex : Nat → Prop} {K A B C : List (Nat × BA)} (M : Mem w0 ex w (K ++ (A ++ B ++ C))) : Mem w0 ex w (K ++ (A ++ C ++ B)) :=
 M.permL (List.Perm.append_left K (by rw [List.append_assoc, List.append_assoc]; exact List.Perm.append_left A List.perm_append_comm))
def mm2 (x y : Int × Int) : Int × Int := (min x.1 y.1, max x.2 y.2)
def inn (i : Nat) (L0 ys : List (Int × Int)) (k : Nat) : List (Int × Int) := if i = 0 then ys.take k else (List.zipWith mm2 L0 ys).take k ++ L0.drop k
theorem inn_0 {L0 ys OL : List (Int × Int)} {k : Nat} {y0 y1 : Int} (hO : OL = inn 0 L0 ys k) (hk : ys[k]? = some (y0, y1)) (hl : OL.length = k) : (OL ++ [(y0, y1)]).set k (min y0 y0, max y1 y1) = inn 0 L0 ys (k + 1) := by
 unfold inn at hO ⊢
 rw [if_pos rfl] at hO ⊢
 rw [List.take_add_one, hk, ← hO, Int.min_self, Int.max_self, List.set_append_right _ _ (by omega)]
 simp [hl]
theorem inn_1 {L0 ys OL : List (Int × Int)} {i k : Nat} {y0 y1 z0 z1 : Int} (hi : i ≠ 0) (hll : L0.length = ys.length) (hO : OL = inn i L0 ys k) (hk : ys[k]? = some (y0, y1)) (hz : OL[k]? = some (z0, z1)) : OL.set k (min z0 y0, max z1 y1) = inn i L0 ys (k + 1) := by
 unfold inn at hO ⊢
 rw [if_neg hi] at hO ⊢
 have hkl := (List.getElem?_eq_some_iff.1 hk).1
 have ht : ((List.zipWith mm2 L0 ys).take k).length = k := by rw [List.length_take, List.length_zipWith]; omega
 subst hO
 rw [List.getElem?_append_right (by omega), ht, Nat.sub_self, List.getElem?_drop, Nat.add_zero] at hz
 have hd : L0.drop k = (z0, z1) :: L0.drop (k + 1) := by
  rw [List.drop_eq_getElem_cons (by omega)]
  rw [List.getElem?_eq_getElem (by omega)] at hz
  injection hz with hz
  rw [hz]
 have hzz : (List.zipWith mm2 L0 ys)[k]? = some (mm2 (z0, z1) (y0, y1)) := by rw [List.getElem?_zipWith, hz, hk]
 rw [List.set_append_right _ _ (by omega), ht, Nat.sub_self, hd, Zz7, List.take_add_one, hzz]
 simp [mm2]
theorem inn_end {L0 ys : List (Int × Int)} {i : Nat} (hll : i ≠ 0 → L0.length = ys.length) : inn i L0 ys ys.length = if i = 0 then ys else List.zipWith mm2 L0 ys := by
 unfold inn
 split
 ·rw [List.take_length]
 ·rename_i h
  rw [List.take_of_length_le (by rw [List.length_zipWith]; omega), List.drop_of_length_le (by rw [hll h]; omega), List.append_nil]
def levF (f : Int → List (Int × Int)) : List Int → List (Int × Int)
 | [] => []
 | s :: r => r.foldl (fun acc t => List.zipWith mm2 acc (f t)) (f s)
theorem levF_succ {f : Int → List (Int × Int)} {ss : List Int} {i : Nat} {s : Int} (h : ss[i]? = some s) : levF f (ss.take (i + 1)) = if i = 0 then f s else List.zipWith mm2 (levF f (ss.take i)) (f s) := by
 rw [List.take_add_one, h]
 cases i with
 | zero => simp [levF]
 | succ i =>
  rw [if_neg (by omega)]
  cases ss with
  | nil => simp at h
  | cons t r => simp [levF, List.foldl_append]
theorem levs_len2 (s : Int) : ∀ (r : Int × Int) (p : List Nt) (g : List Int), g.length = p.length → (levs s r p g).length = p.length
 | _, [], _, _ => by rw [levs_nil]; rfl
 | _, _ :: _, [], h => by simp at h
 | r, n :: p, w :: ws, h => by
  unfold levs
  have := levs_len2 s (lv1 w r n s) p ws (by simpa using h)
  simp only [List.length_cons]
  omega
theorem waysE_len {p : List Nt} {g : List Int} (h : waysE p g = 0) : g.length = p.length := by
 unfold waysE at h
 split at h
 ·cases h
 ·split at h
  ·cases h
  ·omega
def lvlE (b : Bw) (p : List Nt) (g : List Int) : Int := knownE b [pieceE p, waysE p g]
def lvlL (b : Bw) (p : List Nt) (g : List Int) : List (Int × Int) := if lvlE b p g ≠ 0 then [] else levF (fun s => levs s (b.a0, b.a1) p g) (sums0 b)
def RsEPost (l : List (Int × Int)) (er : Int) (w : World) (e : Ending) (w' : World) : Prop := ∃ A c I, e = .returned (.tuple #[.slice A l.length c, .int .i64 er]) ∧ l.length ≤ c ∧ (∃ b o, ∀ (w1 : World) (ex : Nat → Prop), Sp w1 ex I A l.length 2 b o (rc l)) ∧ Mem w noEx w' I
set_option maxHeartbeats 4000000 in
theorem Levels_any {J : Nat → Option Obj} (hP : FuncsOk Try.prog) (b : Bw) (A : Option Addr) (c : Nat) (D : Option Addr) (d : Nat) (p : List Nt) (P : Option Addr) (pc : Nat) (G : Option Addr) (n : Nat) (g : List Int)  (w : World) (hA : Rd w w.heap.size 2 A b.cs.length (rc b.cs)) (hD : Rd w w.heap.size 4 D b.ts.length (lkc b.ts)) (hop : ∀ t ∈ b.ts, Rd w w.heap.size 1 t.A t.op.length (ic t.op)) (nA : b.cs.length ≤ 1000) (nD : b.ts.length ≤ 1000) (nop : ∀ t ∈ b.ts, t.op.length ≤ 1000) (hP9 : Rd w w.heap.size 4 P p.length (ntc p)) (nP : p.length ≤ 1000) (hG : Rd w w.heap.size 1 G g.length (ic g)) (nG : g.length ≤ 1000)  :
   CallsB Try.prog J 36 #[.agg #[.int .i64 b.full, .int .i64 b.a0, .int .i64 b.a1, .slice A b.cs.length c, .slice D b.ts.length d], .slice P p.length pc, .slice G g.length n] w (RsEPost (lvlL b p g) (lvlE b p g) w) := by
 obtain ⟨bA, oA, SA⟩ := Sp.old hA
 obtain ⟨bD, oD, SD⟩ := Sp.old hD
 obtain ⟨bP, oP, SP⟩ := Sp.old hP9
 obtain ⟨bG, oG, SG⟩ := Sp.old hG
 refine px_enterB hP noEx Try.func36 rfl 77 rfl [.agg #[.int .i64 b.full, .int .i64 b.a0, .int .i64 b.a1, .slice A b.cs.length c, .slice D b.ts.length d], .slice P p.length pc, .slice G g.length n] rfl rfl (Mem.init w _) ?_
 intro ac wc T M
 refine wpB_seq hP ?_
 refine b_lone hP w fun T9 => ?_
 replace M := M.tp T9 0 0
 replace SA := SA.tp T9 0
 replace SD := SD.tp T9 0
 replace SG := SG.tp T9 0
 replace SP := SP.tp T9 0
 refine wp_region_lit ?_
 refine Zl2 ?_
 refine Zob M T rfl rfl rfl rfl (T.e 0 rfl) rfl ?_; clear M T; intro g1 wc ac M T
 refine Zg2 T (Zq (Zra rfl evc)) rfl (Zc rfl) rfl ?_; clear T ac; intro ac T
 refine wpList_nil ?_
 refine nqR_n M ?_; clear M; intro wc M
 replace SA := SA.pt
 replace SD := SD.pt
 replace SG := SG.pt
 replace SP := SP.pt
 replace T := T.pick [2, 4, 5] rfl
 refine nm_then ?_
 refine wpB_seq hP ?_
 refine gB_start2 hP M (M.mask [true] rfl) 13 (by kernel_rfl) rfl (by kernel_rfl) ?_
 clear M; intro wc M
 refine gB_q (T := T) (i := 0) rfl (by kernel_rfl) (by kernel_rfl : (Zpb 13 0).setIfInBounds 0 true = Zpb 13 1) (fun _ => si_U) rfl rfl rfl rfl (fun T9 B w' hD hl hS => (Zrr (Mem.nth (show Mem (Bq.tp w T9 0) noEx w' _ from hS) 0 rfl) rfl (T.e 0 rfl) rfl)) ?_; clear T ac; intro ac T
 refine gB_q (T := T) (i := 1) rfl (by kernel_rfl) (by kernel_rfl : (Zpb 13 1).setIfInBounds 1 true = Zpb 13 3) (fun _ => si_U) rfl rfl rfl rfl (fun _ _ _ _ _ _ => (Zrm rfl (T.e 2 rfl))) ?_; clear T ac; intro ac T
 refine gB_q (T := T) (i := 3) rfl (by kernel_rfl) (by kernel_rfl : (Zpb 13 3).setIfInBounds 3 true = Zpb 13 11) (fun _ => si_U) rfl rfl rfl rfl (fun _ _ _ _ _ _ => (Zrm rfl (T.e 3 rfl))) ?_; clear T ac; intro ac T
 refine gB_q (T := T) (i := 4) rfl (by kernel_rfl) (by kernel_rfl : (Zpb 13 11).setIfInBounds 4 true = Zpb 13 27) (fun _ => si_U) rfl rfl rfl rfl (fun _ _ _ _ _ _ => (Zrm rfl (T.e 5 rfl))) ?_; clear T ac; intro ac T
 refine gB_w (i := 2) (by kernel_rfl) rfl (by kernel_rfl : (Zpb 13 27).setIfInBounds 2 true = Zpb 13 31) rfl ?_; intro T9 K hK
 replace M := M.tp T9 0 0
 replace SA := SA.tp T9 0
 replace SD := SD.tp T9 0
 replace SG := SG.tp T9 0
 replace SP := SP.tp T9 0
 refine Zoc (first := []) (cap := []) T rfl rfl rfl rfl evf (.cons (T.e 2 rfl) .nil) Try.func40 rfl rfl ?_
 refine Calls.mono (piece_any p P pc _ (SP.rd M (Zz9 _)) (by omega)) ?_
 clear T; rintro e wc ⟨rfl, hb⟩ ac T
 replace M := M.call hb; clear hb
 refine gB_out hK M ?_; clear hK K M; intro wc M
 replace SA := SA.pt
 replace SD := SD.pt
 replace SG := SG.pt
 replace SP := SP.pt
 refine ⟨(M.mask [true] rfl), ?_⟩
 refine gB_w (i := 5) (by kernel_rfl) rfl (by kernel_rfl : (Zpb 13 31).setIfInBounds 5 true = Zpb 13 63) rfl ?_; intro T9 K hK
 replace M := M.tp T9 0 0
 replace SA := SA.tp T9 0
 replace SD := SD.tp T9 0
 replace SG := SG.tp T9 0
 replace SP := SP.tp T9 0
 refine Zoc (first := []) (cap := []) T rfl rfl rfl rfl evf (.cons (T.e 2 rfl) (.cons (T.e 1 rfl) .nil)) Try.func91 rfl rfl ?_
 refine Calls.mono (checkWays_any p P pc G n g _ (SP.rd M (Zz9 _)) (by omega) (SG.rd M (Zz9 _)) (by omega)) ?_
 clear T; rintro e wc ⟨rfl, hb⟩ ac T
 replace M := M.call hb; clear hb
 refine gB_out hK M ?_; clear hK K M; intro wc M
 replace SA := SA.pt
 replace SD := SD.pt
 replace SG := SG.pt
 replace SP := SP.pt
 refine ⟨(M.mask [true] rfl), ?_⟩
 refine gB_w (i := 6) (by kernel_rfl) rfl (by kernel_rfl : (Zpb 13 63).setIfInBounds 6 true = Zpb 13 127) rfl ?_; intro T9 K hK
 replace M := M.tp T9 0 0
 replace SA := SA.tp T9 0
 replace SD := SD.tp T9 0
 replace SG := SG.tp T9 0
 replace SP := SP.tp T9 0
 refine ow_bs (e := 39) [.int .i64 (pieceE p), .int .i64 (waysE p g)] M T rfl rfl rfl rfl (.cons (T.e 1 rfl) (.cons (T.e 0 rfl) .nil)) (fun _ => by kernel_rfl) ?_; clear M T; intro g2 wc ac M T
 refine gB_out hK M ?_; clear hK K M; intro wc M
 replace SA := SA.pt
 replace SD := SD.pt
 replace SG := SG.pt
 replace SP := SP.pt
 refine ⟨(M.mask [false, true] rfl), ?_⟩
 refine gB_one (i := 7) (by kernel_rfl) (by kernel_rfl : (Zpb 13 127).setIfInBounds 7 true = Zpb 13 255) (opB_call (first := []) (cap := []) T rfl rfl rfl rfl rfl evf (.cons (T.e 6 rfl) (.cons (T.e 0 rfl) .nil)) Try.func77 rfl rfl (known_any hP b A c D d (some ⟨g2, 0, none⟩) 2 [(pieceE p), (waysE p g)] _ (SA.rd M (Zz9 _)) (SD.rd M (Zz9 _)) (fun t ht => M.rd (hop t ht) (Nat.le_refl _)) nA nD nop (M.rdOwn (Zne (i := 0) rfl) rfl rfl) (by first | omega | simp)) ?_ rfl)
 clear T
 rintro e wc ⟨Akur1_7, ckur1_7, Ikur1_7, rfl, hckur1_7, N⟩
 refine ⟨_, rfl, ?_⟩
 intro ac T
 obtain ⟨lkur1_7, hlkur1_7⟩ : ∃ q, q = knownL b [(pieceE p), (waysE p g)] := ⟨_, rfl⟩
 obtain ⟨ekur1_7, hekur1_7⟩ : ∃ q, q = knownE b [(pieceE p), (waysE p g)] := ⟨_, rfl⟩
 rw [← hlkur1_7] at hckur1_7 T
 rw [← hekur1_7] at T
 obtain ⟨bkur1_7, okur1_7, hSkur1_7⟩ := hckur1_7.spV (l4c_length _)
 have SLkur1_7 := hSkur1_7 w noEx
 clear hSkur1_7
 replace M := (M.join N).swapI
 clear N
 replace M : Mem w noEx wc ((g2, .cells [.int .i64 (pieceE p), .int .i64 (waysE p g)]) :: (g1, .cells [.int .i64 b.full, .int .i64 b.a0, .int .i64 b.a1, .slice A b.cs.length c, .slice D b.ts.length d]) :: Ikur1_7) := M
 refine ⟨(M.perm [1] rfl rfl), ?_⟩
 refine gB_q (T := T) (i := 8) rfl (by kernel_rfl) (by kernel_rfl : (Zpb 13 255).setIfInBounds 8 true = Zpb 13 511) (fun _ => si_U) rfl rfl rfl rfl (fun _ _ _ _ _ _ => (Zrm rfl (T.e 0 rfl))) ?_; clear T ac; intro ac T
 refine gB_q (T := T) (i := 9) rfl (by kernel_rfl) (by kernel_rfl : (Zpb 13 511).setIfInBounds 9 true = Zpb 13 1023) (fun _ => si_U) rfl rfl rfl rfl (fun _ _ _ _ _ _ => (Zre rfl (T.e 0 rfl) rfl)) ?_; clear T ac; intro ac T
 refine gB_q (T := T) (i := 10) rfl (by kernel_rfl) (by kernel_rfl : (Zpb 13 1023).setIfInBounds 10 true = Zpb 13 2047) (fun _ => si_U) rfl rfl rfl rfl (fun _ _ _ _ _ _ => (Zre rfl (T.e 1 rfl) rfl)) ?_; clear T ac; intro ac T
 refine gB_q (T := T) (i := 11) rfl (by kernel_rfl) (by kernel_rfl : (Zpb 13 2047).setIfInBounds 11 true = Zpb 13 4095) (fun _ => si_U) rfl rfl rfl rfl (fun _ _ _ _ _ _ => (Zra rfl (T.e 1 rfl))) ?_; clear T ac; intro ac T
 refine gB_q (T := T) (i := 12) rfl (by kernel_rfl) (by kernel_rfl : (Zpb 13 4095).setIfInBounds 12 true = Zpb 13 8191) (fun _ => si_U) rfl rfl rfl rfl (fun _ _ _ _ _ _ => (Zra rfl (T.e 1 rfl))) ?_; clear T ac; intro ac T
 refine gB_done (by kernel_rfl) M ?_; clear M; intro wc M
 replace T := T.pick [0, 1, 13, 14, 15] rfl
 replace M := M.mask [false, true] rfl
 refine nm_then ?_
 refine b_lone hP w fun T9 => ?_
 replace M := M.tp T9 0 0
 replace SA := SA.tp T9 0
 replace SD := SD.tp T9 0
 replace SG := SG.tp T9 0
 replace SLkur1_7 := SLkur1_7.tp T9 0
 replace SP := SP.tp T9 0
 generalize hw9 : Bq.tp w T9 0 = w at M SA SD SG SLkur1_7 SP
 generalize Bq.tp wc T9 0 = wc at M ⊢
 refine wp_seq ?_
 refine Zsr ?_
 refine Zg2 T (Zq (Zrm rfl (T.e 0 rfl))) rfl (fun _ T => Zq (rn_neq rfl (T.e 0 rfl) evc)) rfl ?_; clear T ac; intro ac T
 replace T := T.pick [0, 2, 3, 4, 5, 6] rfl
 refine Zln ?_
 refine wp_ifn (T.e 0 rfl) ?_ ?_
 ·intro h1
  refine Zsr ?_
  refine Zg3 T (Zq (Zrm rfl (T.e 1 rfl))) rfl (Zc rfl) rfl (Za 1 rfl rfl) rfl ?_; clear T ac; intro ac T
  refine wpList_nil ?_
  replace T := T.pick [0, 1] rfl
  replace M := M.mask [false] rfl
  refine Znr ?_
  refine Zrt ?_
  subst hw9
  refine nqR_r M ?_; clear M; intro wc M
  refine rt_2 T rfl (T.e 1 rfl) (T.e 0 rfl) ?_
  have hke : lvlE b p g ≠ 0 := by unfold lvlE; rw [← hekur1_7]; omega
  have e9 : lvlL b p g = [] ∧ lvlE b p g = ekur1_7 := ⟨by unfold lvlL; rw [if_pos hke], hekur1_7.symm⟩
  rw [e9.1, e9.2]
  exact ⟨none, 0, [], rfl, Nat.le_refl _, ⟨0, 0, fun w1 ex => Sp.nil⟩, M.sub (Zz9 _)⟩
 intro h1
 have hke : knownE b [pieceE p, waysE p g] = 0 := by rw [← hekur1_7]; omega
 obtain ⟨hgood, hf9, hlt, hl4, hlp, hln⟩ := known_ok nop hke
 rw [← hlkur1_7] at hlt hl4 hlp hln
 obtain ⟨hpe, hwe9⟩ := first2 hf9
 have hgp := pieceE_good hpe
 have hgb := hgood.airs
 have h4 := hgood.n4
 have hgl := waysE_len hwe9
 refine Zsk ?_
 refine Zsr ?_
 refine lq T (Zra rfl evc) ?_; clear T ac; intro ac T
 replace T := T.pick [0, 3, 4, 5, 6] rfl
 refine Zln ?_
 refine wp_seq ?_
 refine Zsr ?_
 refine Zg3 T (Zq (Zrr (Mem.nth M 0 rfl) rfl (T.e 2 rfl) rfl)) rfl (Zm 2 rfl rfl) rfl (Zm 5 rfl rfl) rfl ?_; clear T ac; intro ac T
 refine Zl2 ?_
 refine Zoc (first := []) (cap := []) T rfl rfl rfl rfl evf (.cons (T.e 2 rfl) (.cons (T.e 1 rfl) (.cons (T.e 0 rfl) (.cons evc .nil)))) Try.func85 rfl rfl ?_
 refine Calls.mono (playedBy_any b A c D d lkur1_7 Akur1_7 ckur1_7 p P pc none 0 [] _ (SLkur1_7.rd M (.cons _ (List.Sublist.refl _))) (by omega) hl4 h4 (⟨by simp [ic], fun h => absurd h (by simp)⟩) (by first | omega | simp)) ?_
 clear T; rintro e wc ⟨Apu3, cpu3, Ipu3, rfl, hclu3, N⟩ ac T
 obtain ⟨svu3, hsvu3⟩ : ∃ q, q = sumsB (cornL b.cs.length []) lkur1_7 := ⟨_, rfl⟩
 rw [← hsvu3] at hclu3 T
 have hssvu3 : ∀ s ∈ svu3, 0 ≤ s ∧ s ≤ 20 := by rw [hsvu3]; exact sums_bd hl4 h4
 have hnsvu3 : svu3.length ≤ lkur1_7.length := by rw [hsvu3]; exact sumsB_len _
 obtain ⟨bpu3, opu3, Spu3⟩ := hclu3.spV (by rw [pdc_length, List.length_map])
 replace Spu3 := Spu3 w noEx
 replace M := (M.join N).swapI
 clear N
 replace M : Mem w noEx wc ((g1, .cells [.int .i64 b.full, .int .i64 b.a0, .int .i64 b.a1, .slice A b.cs.length c, .slice D b.ts.length d]) :: (Ikur1_7 ++ Ipu3)) := M
 refine Zg2 T (Zq (Zrl rfl Try.underlying115 (T.e 0 rfl))) rfl (fun _ T => Zq (Zrm rfl evc)) rfl ?_; clear T ac; intro ac T
 refine wpList_nil ?_
 replace T := T.pick [0, 1, 2, 6, 10] rfl
 replace M := M.mask [false] rfl
 refine nm_then ?_
 refine wp_block ?_
 obtain ⟨LF, hLF⟩ : ∃ q, q = fun s => levs s (b.a0, b.a1) p g := ⟨_, rfl⟩
 refine wp_loop_n (fun mz ac wc => ∃ (i : Nat) (L0 : List (Int × Int)) (A3 : Option Addr) (c3 : Nat) (Io : List (Nat × BA)), mz = svu3.length - i ∧ (i ≤ svu3.length) ∧ (L0 = levF LF (svu3.take i)) ∧ (L0.length = if i = 0 then 0 else p.length) ∧ (Sl 23 2 (.slice A3 L0.length c3) L0.length (rc L0) Io) ∧ Tm ac 77 [(2, .slice G g.length n), (10, .slice A3 L0.length c3), (32, .slice Apu3 svu3.length cpu3), (33, .int .i64 ((svu3.length : Nat) : Int)), (34, .int .i64 (i : Int))] ∧ Mem w noEx wc ((Ikur1_7 ++ Ipu3 ++ Io))) ?_ ?_
 ·exact ⟨_, 0, [], none, 0, [], rfl, (Nat.zero_le _), rfl, rfl, (Sl.nil _ _), T.pick [4, 3, 2, 1, 0] rfl, (by simp only [List.append_nil]; exact M)⟩
 clear T M
 rintro mz ac wc ⟨i, L0, A3, c3, Io, hmm1, hi, hL0, hLl, hsl, T, M⟩
 refine Zsr ?_
 refine lq T (rn_lss rfl (T.e 4 rfl) (T.e 3 rfl)) ?_; clear T ac; intro ac T
 refine Zln ?_
 refine wp_seq ?_
 refine wp_if (T.e 0 rfl) ?_ ?_
 ·intro h2
  obtain ⟨s, hks, -⟩ := ic_next (l := svu3) (k := i) (by omega)
  have hs := hssvu3 s (List.mem_of_getElem? hks)
  have hkx : (svu3.map (mkP b A c D d P pc p))[i]? = some (mkP b A c D d P pc p s) := by rw [List.getElem?_map, hks]; rfl
  refine Zsk ?_
  refine wp_seq ?_
  refine wp_block ?_
  refine Zsr ?_
  refine Zg3 (v3 := (.agg #[.int .i64 b.full, .int .i64 b.a0, .int .i64 b.a1, .slice A b.cs.length c, .slice D b.ts.length d, .slice P p.length pc, .int .i64 s])) T (Zq (Zrm rfl (T.e 5 rfl))) rfl (fun _ T => Zq (Zri (size := 7) i rfl (T.e 4 rfl) (T.e 6 rfl) ⟨_, Try.underlying115, by kernel_rfl⟩ rfl (by omega) (Spu3.at0 (by omega)))) rfl (fun _ T => Zq (rn_rowat (Sp.pdcR Spu3 M (subL (Zsq _ _)) hkx) rfl (T.e 0 rfl) rfl)) rfl ?_; clear T ac; intro ac T
  refine Zl2 ?_
  refine Zoa M T rfl rfl rfl rfl ?_; clear M T; intro g3 wc ac M T
  refine lq T (Zra rfl (T.e 3 rfl)) ?_; clear T ac; intro ac T
  refine Zl2 ?_
  refine Zos M T rfl rfl (T.e 1 rfl) (T.e 2 rfl) rfl .head rfl (by simp) rfl (by kernel_rfl) ?_; clear M T; intro wc ac M T
  replace T := T.pick [0, 1, 6, 7, 8, 9, 10] rfl
  refine Zln ?_
  refine Zsr ?_
  refine Zg2 T (Zq (Zrr (Mem.nth M 0 rfl) rfl (T.e 1 rfl) rfl)) rfl (Zm 3 rfl rfl) rfl ?_; clear T ac; intro ac T
  refine Zl2 ?_
  refine Zoc (first := []) (cap := []) T rfl rfl rfl rfl evf (.cons (T.e 1 rfl) (.cons (T.e 0 rfl) .nil)) Try.func92 rfl rfl ?_
  refine Calls.mono (levels_any b A c D d p P pc s G n g _ (SP.rd M (Zz9 _)) (SG.rd M (Zz9 _)) hgp hgb (by omega) hgl) ?_
  clear T; rintro e wc ⟨Acu4, ccu4, Icu4, rfl, hclu4, N⟩ ac T
  obtain ⟨rlu4, hrlu4⟩ : ∃ q, q = levs s (b.a0, b.a1) p g := ⟨_, rfl⟩
  rw [← hrlu4] at hclu4 T
  obtain ⟨bRu4, oRu4, SRu4⟩ := hclu4.spV (rc_length _)
  replace SRu4 := SRu4 w noEx
  replace M := (M.join N).swapI
  clear N
  replace M : Mem w noEx wc ((g3, .cells [.int .i64 b.full, .int .i64 b.a0, .int .i64 b.a1, .slice A b.cs.length c, .slice D b.ts.length d, .slice P p.length pc, .int .i64 s]) :: (Ikur1_7 ++ Ipu3 ++ Io ++ Icu4)) := M
  replace M : Mem w noEx wc ((g3, .cells [.int .i64 b.full, .int .i64 b.a0, .int .i64 b.a1, .slice A b.cs.length c, .slice D b.ts.length d, .slice P p.length pc, .int .i64 s]) :: (Ikur1_7 ++ Ipu3 ++ Icu4 ++ Io)) := M.tail3 (K := [(g3, .cells [.int .i64 b.full, .int .i64 b.a0, .int .i64 b.a1, .slice A b.cs.length c, .slice D b.ts.length d, .slice P p.length pc, .int .i64 s])]) (A := Ikur1_7 ++ Ipu3)
  refine Zg2 T (Zq (Zrl rfl Try.underlying24 (T.e 0 rfl))) rfl (fun _ T => Zq (Zrm rfl evc)) rfl ?_; clear T ac; intro ac T
  refine wpList_nil ?_
  replace T := T.pick [0, 1, 2, 5, 7, 8, 9, 10, 11] rfl
  replace M := M.mask [false] rfl
  replace M : Mem w noEx wc ((Ikur1_7 ++ Ipu3 ++ Icu4 ++ Io)) := M
  refine nm_then ?_
  refine wp_block ?_
  have hrp : rlu4.length = p.length := by rw [hrlu4]; exact levs_len2 _ _ _ _ hgl
  have hll : i ≠ 0 → L0.length = rlu4.length := fun h => by rw [hLl, if_neg h, hrp]
  have hp6 := hgp.n6
  refine wp_loop_n (fun mz ac wc => ∃ (k : Nat) (OL : List (Int × Int)) (A4 : Option Addr) (c4 : Nat) (Ij : List (Nat × BA)), mz = rlu4.length - k ∧ (k ≤ rlu4.length) ∧ (OL = inn i L0 rlu4 k) ∧ (OL.length = if i = 0 then k else rlu4.length) ∧ (Sl 23 2 (.slice A4 OL.length c4) OL.length (rc OL) Ij) ∧ Tm ac 77 [(2, .slice G g.length n), (10, .slice A4 OL.length c4), (11, .int .i64 (i : Int)), (32, .slice Apu3 svu3.length cpu3), (33, .int .i64 ((svu3.length : Nat) : Int)), (34, .int .i64 (i : Int)), (41, .slice Acu4 rlu4.length ccu4), (42, .int .i64 ((rlu4.length : Nat) : Int)), (43, .int .i64 (k : Int))] ∧ Mem w noEx wc ((Ikur1_7 ++ Ipu3 ++ Icu4 ++ Ij))) ?_ ?_
  ·exact ⟨_, 0, L0, A3, c3, Io, rfl, (Nat.zero_le _), (by unfold inn; split; exact List.eq_nil_of_length_eq_zero (by rw [hLl, if_pos (by assumption)]); rw [List.take_zero, List.drop_zero, List.nil_append]), (by rw [hLl]; split; rfl; exact hrp.symm), hsl, T.pick [4, 5, 3, 6, 7, 8, 2, 1, 0] rfl, M.mask [] rfl⟩
  clear T M
  rintro mz ac wc ⟨k, OL, A4, c4, Ij, hmm2, hk, hO, hOl, hsl4, T, M⟩
  refine Zsr ?_
  refine lq T (rn_lss rfl (T.e 8 rfl) (T.e 7 rfl)) ?_; clear T ac; intro ac T
  refine Zln ?_
  refine wp_seq ?_
  refine wp_if (T.e 0 rfl) ?_ ?_
  ·intro h3
   obtain ⟨y0, y1, hky, -⟩ := rc_next (l := rlu4) (k := k) (by omega)
   have hol6 : OL.length ≤ 6 := by rw [hOl]; split <;> omega
   refine Zsk ?_
   refine wp_seq ?_
   refine wp_block ?_
   refine Zsr ?_
   refine Zg3 (v3 := (.agg #[.int .i64 y0, .int .i64 y1])) T (Zq (Zrm rfl (T.e 9 rfl))) rfl (fun _ T => Zq (Zri (size := 2) k rfl (T.e 8 rfl) (T.e 10 rfl) ⟨_, Try.underlying24, by kernel_rfl⟩ rfl (by omega) (SRu4.at0 (by omega)))) rfl (fun _ T => Zq (rn_rowat (Sp.rcR SRu4 M (subL (Zsq _ _)) hky) rfl (T.e 0 rfl) rfl)) rfl ?_; clear T ac; intro ac T
   refine Zl2 ?_
   refine Zoa M T rfl rfl rfl rfl ?_; clear M T; intro g4 wc ac M T
   refine lq T (Zra rfl (T.e 3 rfl)) ?_; clear T ac; intro ac T
   refine Zl2 ?_
   refine Zos M T rfl rfl (T.e 1 rfl) (T.e 2 rfl) rfl .head rfl (by simp) rfl (by kernel_rfl) ?_; clear M T; intro wc ac M T
   replace T := T.pick [0, 1, 6, 7, 8, 9, 10, 11, 12, 13, 14] rfl
   refine Zln ?_
   refine wp_seq ?_
   refine Zsr ?_
   refine Zg2 T (Zq (Zrm rfl (T.e 4 rfl))) rfl (fun _ T => Zq (rn_eql rfl (T.e 0 rfl) evc)) rfl ?_; clear T ac; intro ac T
   replace T := T.pick [0, 2, 3, 4, 5, 6, 7, 8, 9, 10, 11, 12] rfl
   refine Zln ?_
   refine wp_if (T.e 0 rfl) ?_ ?_
   ·intro h4
    refine wp_region_lit ?_
    refine Zg2 T (Zq (Zrm rfl (T.e 4 rfl))) rfl (Zr M 0 3 rfl rfl rfl rfl) rfl ?_; clear T ac; intro ac T
    refine Zl2 ?_
    refine ow_bs (e := 23) [.int .i64 y0, .int .i64 y1] M T rfl rfl rfl rfl (.cons (T.e 0 rfl) .nil) (fun _ => by kernel_rfl) ?_; clear M T; intro g5 wc ac M T
    refine Zl2 ?_
    refine ow_app (((g5, .cells [.int .i64 y0, .int .i64 y1]) :: (g4, .cells [.int .i64 y0, .int .i64 y1]) :: (Ikur1_7 ++ Ipu3 ++ Icu4))) Try.info23 hsl4 M (by first | rfl | simp) T rfl rfl rfl rfl Try.underlying24 rfl rfl rfl (by omega) (T.e 2 rfl) (T.e 0 rfl) (Zne (i := 0) rfl) rfl rfl ?_; clear M T; intro ga1 cga1 wc ac M T
    refine l_q (v := (.slice (some ⟨ga1, 0, none⟩) (OL.length + 1) cga1)) (T.pick [0, 1, 2, 3, 4, 5, 6, 7, 9, 10, 11, 12, 13, 14, 15] rfl) rfl rfl rfl rfl (Zra rfl (T.e 0 rfl)) ?_; clear T ac; intro ac T
    refine wpList_nil ?_
    replace T := T.pick [0, 6, 7, 8, 9, 10, 11, 12, 13, 14, 15] rfl
    replace M := M.mask [true, false, true] rfl
    replace M : Mem w noEx wc ((ga1, .row 23 2 (OL.length + 1) ((rc OL) ++ [.int .i64 y0, .int .i64 y1]) cga1) :: (g4, .cells [.int .i64 y0, .int .i64 y1]) :: (Ikur1_7 ++ Ipu3 ++ Icu4)) := M
    refine nm_then ?_
    obtain ⟨LN, hLN⟩ : ∃ q, q = OL ++ [(y0, y1)] := ⟨_, rfl⟩
    have e9 : OL.length + 1 = LN.length := by rw [hLN]; simp
    have e8 : ((rc OL) ++ [.int .i64 y0, .int .i64 y1]) = rc LN := by rw [hLN, ← rc_snoc]
    rw [e9, e8] at M
    rw [e9] at T
    have hol9 : OL.length = k := by rw [hOl, if_pos (by omega)]
    have hkY : LN[k]? = some (y0, y1) := by rw [hLN, List.getElem?_append_right (by omega), hol9, Nat.sub_self]; rfl
    replace M := Mem.swapI (I := [(ga1, .row 23 2 LN.length (rc LN) cga1)]) (L := ((g4, .cells [.int .i64 y0, .int .i64 y1]) :: (Ikur1_7 ++ Ipu3 ++ Icu4))) (M.permT [0, 1] 2 rfl rfl rfl rfl)
    obtain ⟨Iy, hIy⟩ : ∃ q : List (Nat × BA), q = [(ga1, .row 23 2 LN.length (rc LN) cga1)] := ⟨_, rfl⟩
    rw [← hIy] at M
    have hslY : Sl 23 2 (.slice (some ⟨ga1, 0, none⟩) LN.length cga1) LN.length (rc LN) Iy := by rw [hIy]; exact Sl.row _ _ _ _ _ _
    replace M : Mem w noEx wc ((g4, .cells [.int .i64 y0, .int .i64 y1]) :: (Ikur1_7 ++ Ipu3 ++ Icu4 ++ Iy)) := M
    obtain ⟨bY, hbY, hSY⟩ := hslY.at (rc_length _) (by omega)
    have SY := hSY w noEx
    refine Zgs M (M.perm [] rfl rfl) 21 (by kernel_rfl) rfl (by kernel_rfl) ?_
    clear M; intro wc M
    refine g_addG 20 M ?_
    refine gq T 0 1 rfl (fun _ _ _ _ _ => (Zrm rfl (T.e 0 rfl))) ?_; clear T ac; intro ac T
    refine gq T 1 3 rfl (fun _ _ _ _ _ => (Zrm rfl (T.e 2 rfl))) ?_; clear T ac; intro ac T
    refine gq T 2 7 rfl (fun _ _ _ _ _ => (Zrm rfl (T.e 2 rfl))) ?_; clear T ac; intro ac T
    refine gq T 3 15 rfl (fun _ _ _ _ _ => (Zrm rfl (T.e 4 rfl))) ?_; clear T ac; intro ac T
    refine gq T 4 31 rfl (fun _ _ _ _ _ => (Zri (size := 2) k rfl (T.e 1 rfl) (T.e 0 rfl) ⟨_, Try.underlying24, by kernel_rfl⟩ rfl (by omega) hbY)) ?_; clear T ac; intro ac T
    refine gq T 5 63 rfl (fun _ _ _ _ _ => (Zrf (off := 0) rfl (T.e 0 rfl) (fun _ _ _ => by kernel_rfl))) ?_; clear T ac; intro ac T
    refine gq T 6 127 rfl (fun B w' hD hl hS => (rn_cell (Sp.rc0 SY (show Mem w noEx w' _ from ((MA.lft hS) (hD.wait (i := 6) (m := 20) (by kernel_rfl) hl))) (.cons _ (Zsq _ _)) hkY) rfl (T.e 0 rfl))) ?_; clear T ac; intro ac T
    refine gq (v := (.pointer (some ⟨g4, 0, none⟩))) T 7 255 rfl (fun _ _ _ _ _ => (Zrf (off := 0) rfl (T.e 9 rfl) (fun _ _ _ => by kernel_rfl))) ?_; clear T ac; intro ac T
    refine gq T 8 511 rfl (fun B w' hD hl hS => (Zro (Mem.nth (show Mem w noEx w' _ from ((MA.lft hS) (hD.wait (i := 8) (m := 20) (by kernel_rfl) hl))) 0 rfl) rfl (T.e 0 rfl) rfl)) ?_; clear T ac; intro ac T
    refine gq T 9 1023 rfl (fun _ _ _ _ _ => (rn_min2 rfl (T.e 2 rfl) (T.e 0 rfl))) ?_; clear T ac; intro ac T
    refine gq T 10 2047 rfl (fun _ _ _ _ _ => (Zrm rfl (T.e 10 rfl))) ?_; clear T ac; intro ac T
    refine gq T 11 4095 rfl (fun _ _ _ _ _ => (Zrm rfl (T.e 12 rfl))) ?_; clear T ac; intro ac T
    refine gq T 12 8191 rfl (fun _ _ _ _ _ => (Zri (size := 2) k rfl (T.e 1 rfl) (T.e 0 rfl) ⟨_, Try.underlying24, by kernel_rfl⟩ rfl (by omega) hbY)) ?_; clear T ac; intro ac T
    refine gq T 13 16383 rfl (fun _ _ _ _ _ => (Zrf (off := 1) rfl (T.e 0 rfl) (fun _ _ _ => by kernel_rfl))) ?_; clear T ac; intro ac T
    refine gq T 14 32767 rfl (fun B w' hD hl hS => (rn_cell (Sp.rc1 SY (show Mem w noEx w' _ from ((MA.lft hS) (hD.wait (i := 14) (m := 20) (by kernel_rfl) hl))) (.cons _ (Zsq _ _)) hkY) rfl (T.e 0 rfl))) ?_; clear T ac; intro ac T
    refine gq (v := (.pointer (some ⟨g4, 1, none⟩))) T 15 65535 rfl (fun _ _ _ _ _ => (Zrf (off := 1) rfl (T.e 17 rfl) (fun _ _ _ => by kernel_rfl))) ?_; clear T ac; intro ac T
    refine gq T 16 131071 rfl (fun B w' hD hl hS => (Zro (Mem.nth (show Mem w noEx w' _ from ((MA.lft hS) (hD.wait (i := 16) (m := 20) (by kernel_rfl) hl))) 0 rfl) rfl (T.e 0 rfl) rfl)) ?_; clear T ac; intro ac T
    refine gq T 17 262143 rfl (fun _ _ _ _ _ => (rn_max2 rfl (T.e 2 rfl) (T.e 0 rfl))) ?_; clear T ac; intro ac T
    refine gq (v := (.agg #[.int .i64 (min y0 y0), .int .i64 (max y1 y1)])) T 18 524287 rfl (fun _ _ _ _ _ => (rn_build rfl (.cons (T.e 8 rfl) (.cons (T.e 0 rfl) .nil)) (fun _ => by kernel_rfl))) ?_; clear T ac; intro ac T
    refine gq T 19 1048575 rfl (fun _ _ _ _ _ => (Zri (size := 2) k rfl (T.e 18 rfl) (T.e 17 rfl) ⟨_, Try.underlying24, by kernel_rfl⟩ rfl (by omega) hbY)) ?_; clear T ac; intro ac T
    refine gw 20 2097151 ?_; intro K hK
    refine ow_stSlR (((g4, .cells [.int .i64 y0, .int .i64 y1]) :: (Ikur1_7 ++ Ipu3 ++ Icu4))) M (by first | rfl | simp) hslY T rfl rfl (T.e 0 rfl) hbY (T.e 1 rfl) (by omega) (by omega) rfl ?_; clear M T; intro Jw1 wc ac hsw1 M T
    replace M : Mem w noEx wc ((g4, .cells [.int .i64 y0, .int .i64 y1]) :: (Ikur1_7 ++ Ipu3 ++ Icu4 ++ Jw1)) := M
    obtain ⟨lo1, hlo1⟩ : ∃ q, q = LN.set k ((min y0 y0), (max y1 y1)) := ⟨_, rfl⟩
    rw [← hlo1] at hsw1
    have lhlo1 : lo1.length = LN.length := by rw [hlo1, List.length_set]
    refine Zso hK _ _ (MA.mk (fun h => (no_of (by kernel_rfl) h).elim) (M.perm [] rfl rfl)) ?_; clear hK K
    refine Zgd (by kernel_rfl) ?_
    replace T := T.pick [20, 23, 24, 25, 26, 27, 28, 29, 30] rfl
    replace M := M.mask [false] rfl
    replace M : Mem w noEx wc ((Ikur1_7 ++ Ipu3 ++ Icu4 ++ Jw1)) := M
    refine Znb ?_
    refine nm_then ?_
    refine wp_region_lit ?_
    refine lq T (rn_add rfl (T.e 8 rfl) evc (by omega)) ?_; clear T ac; intro ac T
    refine l_q (v := (.int .i64 ((k : Int) + 1))) (T.pick [0, 1, 2, 3, 4, 5, 6, 7, 8] rfl) rfl rfl rfl rfl (Zrm rfl (T.e 0 rfl)) ?_; clear T ac; intro ac T
    replace T := T.pick [0, 2, 3, 4, 5, 6, 7, 8, 9] rfl
    refine Zln ?_
    rw [← lhlo1] at T hsw1
    exact ⟨_, by omega, k + 1, lo1, some ⟨ga1, 0, none⟩, cga1, Jw1, rfl, (by omega), (by rw [hlo1, hLN]; obtain rfl : i = 0 := (by omega); exact inn_0 hO hky (by simpa using hOl)), (by rw [lhlo1, hLN, List.length_append, List.length_singleton, hOl, if_pos (by omega), if_pos (by omega)]), hsw1, T.pick [2, 1, 3, 4, 5, 6, 7, 8, 0] rfl, M.mask [] rfl⟩
   intro h4
   refine Zsk ?_
   have hol9 : OL.length = rlu4.length := by rw [hOl, if_neg (by omega)]
   obtain ⟨bY, hbY, hSY⟩ := hsl4.at (rc_length _) (by omega)
   have SY := hSY w noEx
   obtain ⟨z0, z1, hkY, -⟩ := rc_next (l := OL) (k := k) (by omega)
   refine Zgs M (M.perm [] rfl rfl) 21 (by kernel_rfl) rfl (by kernel_rfl) ?_
   clear M; intro wc M
   refine g_addG 20 M ?_
   refine gq T 0 1 rfl (fun _ _ _ _ _ => (Zrm rfl (T.e 4 rfl))) ?_; clear T ac; intro ac T
   refine gq T 1 3 rfl (fun _ _ _ _ _ => (Zrm rfl (T.e 2 rfl))) ?_; clear T ac; intro ac T
   refine gq T 2 7 rfl (fun _ _ _ _ _ => (Zrm rfl (T.e 6 rfl))) ?_; clear T ac; intro ac T
   refine gq T 3 15 rfl (fun _ _ _ _ _ => (Zrm rfl (T.e 4 rfl))) ?_; clear T ac; intro ac T
   refine gq T 4 31 rfl (fun _ _ _ _ _ => (Zri (size := 2) k rfl (T.e 1 rfl) (T.e 0 rfl) ⟨_, Try.underlying24, by kernel_rfl⟩ rfl (by omega) hbY)) ?_; clear T ac; intro ac T
   refine gq T 5 63 rfl (fun _ _ _ _ _ => (Zrf (off := 0) rfl (T.e 0 rfl) (fun _ _ _ => by kernel_rfl))) ?_; clear T ac; intro ac T
   refine gq T 6 127 rfl (fun B w' hD hl hS => (rn_cell (Sp.rc0 SY (show Mem w noEx w' _ from ((MA.lft hS) (hD.wait (i := 6) (m := 20) (by kernel_rfl) hl))) (.cons _ (Zsq _ _)) hkY) rfl (T.e 0 rfl))) ?_; clear T ac; intro ac T
   refine gq (v := (.pointer (some ⟨g4, 0, none⟩))) T 7 255 rfl (fun _ _ _ _ _ => (Zrf (off := 0) rfl (T.e 9 rfl) (fun _ _ _ => by kernel_rfl))) ?_; clear T ac; intro ac T
   refine gq T 8 511 rfl (fun B w' hD hl hS => (Zro (Mem.nth (show Mem w noEx w' _ from ((MA.lft hS) (hD.wait (i := 8) (m := 20) (by kernel_rfl) hl))) 0 rfl) rfl (T.e 0 rfl) rfl)) ?_; clear T ac; intro ac T
   refine gq T 9 1023 rfl (fun _ _ _ _ _ => (rn_min2 rfl (T.e 2 rfl) (T.e 0 rfl))) ?_; clear T ac; intro ac T
   refine gq T 10 2047 rfl (fun _ _ _ _ _ => (Zrm rfl (T.e 14 rfl))) ?_; clear T ac; intro ac T
   refine gq T 11 4095 rfl (fun _ _ _ _ _ => (Zrm rfl (T.e 12 rfl))) ?_; clear T ac; intro ac T
   refine gq T 12 8191 rfl (fun _ _ _ _ _ => (Zri (size := 2) k rfl (T.e 1 rfl) (T.e 0 rfl) ⟨_, Try.underlying24, by kernel_rfl⟩ rfl (by omega) hbY)) ?_; clear T ac; intro ac T
   refine gq T 13 16383 rfl (fun _ _ _ _ _ => (Zrf (off := 1) rfl (T.e 0 rfl) (fun _ _ _ => by kernel_rfl))) ?_; clear T ac; intro ac T
   refine gq T 14 32767 rfl (fun B w' hD hl hS => (rn_cell (Sp.rc1 SY (show Mem w noEx w' _ from ((MA.lft hS) (hD.wait (i := 14) (m := 20) (by kernel_rfl) hl))) (.cons _ (Zsq _ _)) hkY) rfl (T.e 0 rfl))) ?_; clear T ac; intro ac T
   refine gq (v := (.pointer (some ⟨g4, 1, none⟩))) T 15 65535 rfl (fun _ _ _ _ _ => (Zrf (off := 1) rfl (T.e 17 rfl) (fun _ _ _ => by kernel_rfl))) ?_; clear T ac; intro ac T
   refine gq T 16 131071 rfl (fun B w' hD hl hS => (Zro (Mem.nth (show Mem w noEx w' _ from ((MA.lft hS) (hD.wait (i := 16) (m := 20) (by kernel_rfl) hl))) 0 rfl) rfl (T.e 0 rfl) rfl)) ?_; clear T ac; intro ac T
   refine gq T 17 262143 rfl (fun _ _ _ _ _ => (rn_max2 rfl (T.e 2 rfl) (T.e 0 rfl))) ?_; clear T ac; intro ac T
   refine gq (v := (.agg #[.int .i64 (min z0 y0), .int .i64 (max z1 y1)])) T 18 524287 rfl (fun _ _ _ _ _ => (rn_build rfl (.cons (T.e 8 rfl) (.cons (T.e 0 rfl) .nil)) (fun _ => by kernel_rfl))) ?_; clear T ac; intro ac T
   refine gq T 19 1048575 rfl (fun _ _ _ _ _ => (Zri (size := 2) k rfl (T.e 18 rfl) (T.e 17 rfl) ⟨_, Try.underlying24, by kernel_rfl⟩ rfl (by omega) hbY)) ?_; clear T ac; intro ac T
   refine gw 20 2097151 ?_; intro K hK
   refine ow_stSlR (((g4, .cells [.int .i64 y0, .int .i64 y1]) :: (Ikur1_7 ++ Ipu3 ++ Icu4))) M (by first | rfl | simp) hsl4 T rfl rfl (T.e 0 rfl) hbY (T.e 1 rfl) (by omega) (by omega) rfl ?_; clear M T; intro Jw2 wc ac hsw2 M T
   replace M : Mem w noEx wc ((g4, .cells [.int .i64 y0, .int .i64 y1]) :: (Ikur1_7 ++ Ipu3 ++ Icu4 ++ Jw2)) := M
   obtain ⟨lo2, hlo2⟩ : ∃ q, q = OL.set k ((min z0 y0), (max z1 y1)) := ⟨_, rfl⟩
   rw [← hlo2] at hsw2
   have lhlo2 : lo2.length = OL.length := by rw [hlo2, List.length_set]
   refine Zso hK _ _ (MA.mk (fun h => (no_of (by kernel_rfl) h).elim) (M.perm [] rfl rfl)) ?_; clear hK K
   refine Zgd (by kernel_rfl) ?_
   replace T := T.pick [23, 24, 25, 26, 27, 28, 29, 30, 31] rfl
   replace M := M.mask [false] rfl
   replace M : Mem w noEx wc ((Ikur1_7 ++ Ipu3 ++ Icu4 ++ Jw2)) := M
   refine Znb ?_
   refine nm_then ?_
   refine wp_region_lit ?_
   refine lq T (rn_add rfl (T.e 8 rfl) evc (by omega)) ?_; clear T ac; intro ac T
   refine l_q (v := (.int .i64 ((k : Int) + 1))) (T.pick [0, 1, 2, 3, 4, 5, 6, 7, 8] rfl) rfl rfl rfl rfl (Zrm rfl (T.e 0 rfl)) ?_; clear T ac; intro ac T
   replace T := T.pick [0, 2, 3, 4, 5, 6, 7, 8, 9] rfl
   refine Zln ?_
   rw [← lhlo2] at T hsw2
   exact ⟨_, by omega, k + 1, lo2, A4, c4, Jw2, rfl, (by omega), (by rw [hlo2]; exact inn_1 (by omega) (hll (by omega)) hO hky hkY), (by rw [lhlo2, hOl, if_neg (by omega), if_neg (by omega)]), hsw2, T.pick [1, 2, 3, 4, 5, 6, 7, 8, 0] rfl, M.mask [] rfl⟩
  intro h3
  obtain rfl : k = rlu4.length := by omega
  refine wp_exit ?_
  refine Zet ?_
  refine Zet ?_
  refine ex_hit ?_
  refine Znb ?_
  refine nm_then ?_
  refine wp_region_lit ?_
  refine lq T (rn_add rfl (T.e 6 rfl) evc (by omega)) ?_; clear T ac; intro ac T
  refine l_q (v := (.int .i64 ((i : Int) + 1))) (T.pick [0, 1, 2, 3, 4, 5, 6, 8, 9, 10] rfl) rfl rfl rfl rfl (Zrm rfl (T.e 0 rfl)) ?_; clear T ac; intro ac T
  replace T := T.pick [0, 3, 4, 6, 7] rfl
  refine Zln ?_
  replace M : Mem w noEx wc ((Ikur1_7 ++ Ipu3 ++ Ij ++ Icu4)) := M.tail3 (K := []) (A := Ikur1_7 ++ Ipu3)
  exact ⟨_, by omega, i + 1, OL, A4, c4, Ij, rfl, (by omega), (by rw [hO, levF_succ hks, ← hL0, show LF s = rlu4 by rw [hrlu4, hLF]]; exact inn_end hll), (by rw [hOl, if_neg (by omega : ¬ i + 1 = 0)]; split <;> omega), hsl4, T.pick [1, 2, 3, 4, 0] rfl, ((M.mask [] rfl).sub (Zsl _ _))⟩
 intro h2
 rw [List.take_of_length_le (by omega)] at hL0
 refine wp_exit ?_
 refine Zet ?_
 refine Zet ?_
 refine ex_hit ?_
 refine nm_then ?_
 refine Zsr ?_
 refine Zg3 T (Zq (Zrm rfl (T.e 2 rfl))) rfl (Za 0 rfl rfl) rfl (Zc rfl) rfl ?_; clear T ac; intro ac T
 replace T := T.pick [0, 1] rfl
 refine Zln ?_
 refine wp_ret ?_
 subst hw9
 refine nqR_r M ?_; clear M; intro wc M
 refine rt_2 T rfl (T.e 1 rfl) (T.e 0 rfl) ?_
 have e8 : lvlE b p g = 0 := hke
 have e9 : lvlL b p g = L0 := by unfold lvlL; rw [if_neg (by omega), hL0, hsvu3, hlt, hLF]; rfl
 rw [e8, e9]
 have hcap := hsl.capLe M (Zsq _ _)
 exact ⟨A3, c3, Io, rfl, hcap, hsl.spV (rc_length _), M.sub ((Zsq _ _))⟩
end
section
open Go.RowKit Go.Proofs.Ytoheddpnnjldgaa.Bq
theorem rn_quo {P : Program} {op : Oper} {a : Act} {w : World} {ty ty' : TypeId} {x y : Operand} {p q : Int} (ho : op.op = .binOp .quo ty x y ty') (hx : a.eval x = .int .i64 p) (hy : a.eval y = .int .i64 q) (hq : q ≠ 0) (hb : -9223372036854775808 ≤ p.tdiv q ∧ p.tdiv q ≤ 9223372036854775807) : Runs P op a (.int .i64 (p.tdiv q)) w := by
 refine rn_bin ho hx hy ?_
 rw [eqGuard_quo, binOp_quo]
 unfold Op.intDiv
 rw [if_neg (by simpa using hq)]
 show Result.ok (Value.int .i64 (IntKind.i64.wrap (p.tdiv q))) w = _
 rw [IntWalk.i64_in _ hb]
theorem truths_few {b : Bw} (h : BwVal b) : (truthsB b).length ≤ 1296 := by
 have key : ∀ (r : List (Int × Int)) (k : Nat) (l : List Int), (∀ x ∈ r, 0 ≤ x.1 ∧ x.1 ≤ 5 ∧ 0 ≤ x.2 ∧ x.2 ≤ 5) → (trs b.ts r k l).length ≤ 6 ^ r.length := by
  intro r
  induction r with
  | nil => intro k l _; unfold trs; split <;> simp
  | cons x r ih =>
   intro k l hx
   obtain ⟨h1, h2, h3, h4⟩ := hx x Zz2
   unfold trs
   have hlen : (upI x.1 x.2).length ≤ 6 := by unfold upI; simp; omega
   have : ∀ (u : List Int), ((u.flatMap fun n => trs b.ts r (k + 1) (l.set k n)).length) ≤ u.length * 6 ^ r.length := by
    intro u
    induction u with
    | nil => simp
    | cons n u ihu =>
     rw [List.flatMap_cons, List.length_append, List.length_cons, Nat.succ_mul]
     have := ih (k + 1) (l.set k n) fun y hy => hx y (Zz1 hy)
     omega
   refine Nat.le_trans (this _) ?_
   rw [List.length_cons, Nat.pow_succ, Nat.mul_comm]
   exact Nat.mul_le_mul_left _ hlen
 have h1 := key b.cs 0 [0, 0, 0, 0] h.cr
 have h2 : 6 ^ b.cs.length ≤ 6 ^ 4 := Nat.pow_le_pow_right (by omega) h.n4
 exact Nat.le_trans h1 (Nat.le_trans h2 (by decide))
theorem tdiv_bd {p q : Int} (hp : 0 ≤ p) (hq : 0 < q) : 0 ≤ p.tdiv q ∧ p.tdiv q ≤ p := by
 rw [Int.tdiv_eq_ediv_of_nonneg hp]
 exact ⟨Int.ediv_nonneg hp (by omega), Int.ediv_le_self _ hp⟩
theorem room_bd {way x full : Int} (h0 : 0 ≤ x) (h1 : x ≤ full) : 0 ≤ roomW way x full ∧ roomW way x full ≤ full := by
 unfold roomW
 split <;> omega
def spnI (x0 : Int × Int) (l : List Int) : Int × Int := l.foldl (fun a y => (min a.1 y, max a.2 y)) x0
def spn (l : List Int) : Int × Int := spnI (l.getD 0 0, l.getD 0 0) l
theorem spnI_succ {x0 : Int × Int} {l : List Int} {k : Nat} {y : Int} (h : l[k]? = some y) : spnI x0 (l.take (k + 1)) = (min (spnI x0 (l.take k)).1 y, max (spnI x0 (l.take k)).2 y) := by
 unfold spnI
 rw [List.take_add_one, h]
 simp
def holdJ (b : Bw) (air way t : Int) (j : Nat) : Int := if 0 < air + t then min 600 (Int.tdiv (roomW way (b.a0 + (j : Int)) b.full) (air + t)) else 600
def holdR (b : Bw) (air way t : Int) (j : Nat) : List Int := (List.range j).map (holdJ b air way t)
theorem holdR_succ (b : Bw) (air way t : Int) (j : Nat) : holdR b air way t (j + 1) = holdR b air way t j ++ [holdJ b air way t j] := by unfold holdR; rw [List.range_succ, List.map_append]; rfl
def airN (b : Bw) : Nat := (b.a1 - b.a0 + 1).toNat
def holdT (b : Bw) (air way : Int) (rest : List Int) (l : List L4) : List Int := l.flatMap fun x => holdR b air way (totL x.l rest) (airN b)
theorem holdT_succ {b : Bw} {air way : Int} {rest : List Int} {l : List L4} {k : Nat} {x : L4} (h : l[k]? = some x) : holdT b air way rest (l.take (k + 1)) = holdT b air way rest (l.take k) ++ holdR b air way (totL x.l rest) (airN b) := by
 unfold holdT
 rw [List.take_add_one, h]
 simp
def wrE (air way : Int) : Int := if withinB air 0 9 = false then 1 else if withinB way 1 2 = false then 8 else 0
def holE (b : Bw) (air way : Int) : Int := knownE b [wrE air way]
def holR (b : Bw) (air way : Int) : Int × Int := if holE b air way ≠ 0 then (0, 0) else spn (holdT b air way (cornL b.cs.length []) (truthsL b))
theorem wr_dead {b : Bw} {e : Int} (nop : ∀ t ∈ b.ts, t.op.length ≤ 1000) (h : knownE b [e] = 0) (he : e ≠ 0) : False := he (first1 (known_ok nop h).2.1)
theorem holds1_any (x : Int)  (w : World)  :
  Calls Try.prog 82 #[.int .i64 x] w fun e w' => e = .returned (.int .i64 x) ∧ Below w.heap.size w w' := by
 refine Zpx noEx Try.func82 rfl 4 rfl [.int .i64 x] rfl rfl (Mem.init w _) ?_
 intro ac wc T M
 refine Zsr ?_
 refine lq T (Zra rfl evc) ?_; clear T ac; intro ac T
 replace T := T.pick [1] rfl
 refine Zln ?_
 refine Zsr ?_
 refine Zg2 T (Zq (Zrm rfl (T.e 0 rfl))) rfl (Za 0 rfl rfl) rfl ?_; clear T ac; intro ac T
 replace T := T.pick [0] rfl
 refine Zln ?_
 refine wp_ret ?_
 refine rt_1 T rfl (T.e 0 rfl) ?_
 exact ⟨rfl, M.below⟩
theorem spanI_any (G : Option Addr) (n : Nat) (g : List Int)  (w : World) (hG : Rd w w.heap.size 1 G g.length (ic g)) (nG : g.length ≤ 1000000) (h0 : 0 < g.length)  :
   Calls Try.prog 81 #[.slice G g.length n, .func (.func 82) #[] #[]] w fun e w' => e = .returned (.agg #[.int .i64 ((spn g).1), .int .i64 ((spn g).2)]) ∧ Below w.heap.size w w' := by
 obtain ⟨bG, oG, SG⟩ := Sp.old hG
 obtain ⟨z, hkz, -⟩ := ic_next (l := g) (k := 0) h0
 have hz9 : spn g = spnI (z, z) g := by unfold spn; rw [List.getD_eq_getElem?_getD, hkz]; rfl
 refine Zpx noEx Try.func81 rfl 40 rfl [.slice G g.length n, .func (.func 82) #[] #[]] rfl rfl (Mem.init w _) ?_
 intro ac wc T M
 refine Zsr ?_
 refine Zl2 ?_
 refine Zoa M T rfl rfl rfl rfl ?_; clear M T; intro g1 wc ac M T
 refine Zln ?_
 refine wp_seq ?_
 refine Zgs M (M.mask [true] rfl) 13 (by kernel_rfl) rfl (by kernel_rfl) ?_
 clear M; intro wc M
 refine g_have (fun ac wc => ∃ (gr1_11 : Nat), Tm ac 40 [(5, .pointer (some ⟨gr1_11, 0, none⟩)), (18, .agg #[.int .i64 z, .int .i64 z]), (17, .int .i64 z), (12, .int .i64 z), (16, .int .i64 z), (15, .pointer (some ⟨bG, oG + 0 * 1, none⟩)), (14, .slice G g.length n), (13, .func (.func 82) #[] #[]), (11, .int .i64 z), (10, .pointer (some ⟨bG, oG + 0 * 1, none⟩)), (9, .slice G g.length n), (8, .func (.func 82) #[] #[]), (4, .pointer (some ⟨g1, 0, none⟩)), (0, .slice G g.length n), (1, .func (.func 82) #[] #[])] ∧ Mem w noEx wc [(gr1_11, .cells [.int .i64 0, .int .i64 0]), (g1, .cells [.int .i64 0, .int .i64 0])]) (Zpb 13 4095) 1 ?_ ?_
 ·clear T M
  rintro ac wc ⟨gr1_11, T, M⟩
  refine gw 12 8191 ?_; intro K hK
  refine Zos M T rfl rfl (T.e 0 rfl) (T.e 1 rfl) rfl .head rfl (by simp) rfl (by kernel_rfl) ?_; clear M T; intro wc ac M T
  refine Zso hK _ _ (M.mask [false, true] rfl) ?_; clear hK K
  refine Zgd (by kernel_rfl) ?_
  replace T := T.pick [0, 12, 13, 14] rfl
  refine Zns ?_
  refine Zsr ?_
  refine Zg3 T (Zq (Zrm rfl (T.e 2 rfl))) rfl (Zl Try.underlying28 0 rfl rfl) rfl (fun _ T => Zq (Zrm rfl evc)) rfl ?_; clear T ac; intro ac T
  replace T := T.pick [0, 1, 2, 3, 4, 6] rfl
  refine Zln ?_
  refine wp_block ?_
  refine wp_loop_n (fun mz ac wc => ∃ (k : Nat) (m0 m1 : Int), mz = g.length - k ∧ (k ≤ g.length) ∧ ((m0, m1) = spnI (z, z) (g.take k)) ∧ Tm ac 40 [(1, .func (.func 82) #[] #[]), (4, .pointer (some ⟨g1, 0, none⟩)), (5, .pointer (some ⟨gr1_11, 0, none⟩)), (19, .slice G g.length n), (20, .int .i64 ((g.length : Nat) : Int)), (21, .int .i64 (k : Int))] ∧ Mem w noEx wc [(gr1_11, .cells [.int .i64 m0, .int .i64 m1]), (g1, .cells [.int .i64 0, .int .i64 0])]) ?_ ?_
  ·exact ⟨_, 0, z, z, rfl, (Nat.zero_le _), rfl, T.pick [5, 4, 3, 2, 1, 0] rfl, M.mask [true, true] rfl⟩
  clear T M
  rintro mz ac wc ⟨k, m0, m1, hmm1, hk, H, T, M⟩
  refine Zsr ?_
  refine lq T (rn_lss rfl (T.e 5 rfl) (T.e 4 rfl)) ?_; clear T ac; intro ac T
  refine Zln ?_
  refine wp_seq ?_
  refine wp_if (T.e 0 rfl) ?_ ?_
  ·intro h1
   obtain ⟨y, hky, -⟩ := ic_next (l := g) (k := k) (by omega)
   have hsc := spnI_succ (x0 := (z, z)) hky
   rw [← H] at hsc
   refine Zsk ?_
   refine wp_seq ?_
   refine wp_block ?_
   refine Zsr ?_
   refine Zg3 T (Zq (Zri (size := 1) k rfl (T.e 4 rfl) (T.e 6 rfl) ⟨_, Try.underlying28, by kernel_rfl⟩ rfl (by omega) (SG.at0 (by omega)))) rfl (fun _ T => Zq (rn_cell (Sp.ic0 SG M (Zz9 _) hky) rfl (T.e 0 rfl))) rfl (Za 0 rfl rfl) rfl ?_; clear T ac; intro ac T
   replace T := T.pick [0, 4, 5, 6, 7, 8, 9] rfl
   refine Zln ?_
   refine Zgs M (M.perm [1] rfl rfl) 14 (by kernel_rfl) rfl (by kernel_rfl) ?_
   clear M; intro wc M
   refine g_addG 13 M ?_
   refine gq (v := (.pointer (some ⟨gr1_11, 0, none⟩))) T 0 1 rfl (fun _ _ _ _ _ => (Zrf (off := 0) rfl (T.e 3 rfl) (fun _ _ _ => by kernel_rfl))) ?_; clear T ac; intro ac T
   refine gq T 1 3 rfl (fun B w' hD hl hS => (Zro (Mem.nth (show Mem w noEx w' _ from ((MA.lft hS) (hD.wait (i := 1) (m := 13) (by kernel_rfl) hl))) 0 rfl) rfl (T.e 0 rfl) rfl)) ?_; clear T ac; intro ac T
   refine gq T 2 7 rfl (fun _ _ _ _ _ => (Zrm rfl (T.e 3 rfl))) ?_; clear T ac; intro ac T
   refine gq T 3 15 rfl (fun _ _ _ _ _ => (Zrm rfl (T.e 3 rfl))) ?_; clear T ac; intro ac T
   refine gq (v := (.pointer (some ⟨gr1_11, 1, none⟩))) T 6 79 rfl (fun _ _ _ _ _ => (Zrf (off := 1) rfl (T.e 7 rfl) (fun _ _ _ => by kernel_rfl))) ?_; clear T ac; intro ac T
   refine gq T 7 207 rfl (fun B w' hD hl hS => (Zro (Mem.nth (show Mem w noEx w' _ from ((MA.lft hS) (hD.wait (i := 7) (m := 13) (by kernel_rfl) hl))) 0 rfl) rfl (T.e 0 rfl) rfl)) ?_; clear T ac; intro ac T
   refine gq T 8 463 rfl (fun _ _ _ _ _ => (Zrm rfl (T.e 7 rfl))) ?_; clear T ac; intro ac T
   refine gq T 9 975 rfl (fun _ _ _ _ _ => (Zrm rfl (T.e 7 rfl))) ?_; clear T ac; intro ac T
   refine gw 4 991 ?_; intro K hK
   refine Zoc (first := []) (cap := []) T rfl rfl rfl rfl (T.e 5 rfl) (.cons (T.e 4 rfl) .nil) Try.func82 rfl rfl ?_
   refine Calls.mono (holds1_any y _) ?_
   clear T; rintro e wc ⟨rfl, hb⟩ ac T
   replace M := M.call hb; clear hb
   refine Zso hK _ _ (MA.mk (fun _ => M.mask [true, true] rfl) (M.mask [false, true] rfl)) ?_; clear hK K
   refine gq T 5 1023 rfl (fun _ _ _ _ _ => (rn_min2 rfl (T.e 7 rfl) (T.e 0 rfl))) ?_; clear T ac; intro ac T
   refine gw 10 2047 ?_; intro K hK
   refine Zoc (first := []) (cap := []) T rfl rfl rfl rfl (T.e 3 rfl) (.cons (T.e 2 rfl) .nil) Try.func82 rfl rfl ?_
   refine Calls.mono (holds1_any y _) ?_
   clear T; rintro e wc ⟨rfl, hb⟩ ac T
   replace M := M.call hb; clear hb
   refine Zso hK _ _ (MA.mk (fun _ => M.mask [true, true] rfl) (M.mask [false, true] rfl)) ?_; clear hK K
   refine gq T 11 4095 rfl (fun _ _ _ _ _ => (rn_max2 rfl (T.e 5 rfl) (T.e 0 rfl))) ?_; clear T ac; intro ac T
   refine gq (v := (.agg #[.int .i64 (min m0 y), .int .i64 (max m1 y)])) T 12 8191 rfl (fun _ _ _ _ _ => (rn_build rfl (.cons (T.e 2 rfl) (.cons (T.e 0 rfl) .nil)) (fun _ => by kernel_rfl))) ?_; clear T ac; intro ac T
   refine gw 13 16383 ?_; intro K hK
   refine Zos M T rfl rfl (T.e 16 rfl) (T.e 0 rfl) rfl .head rfl (by simp) rfl (by kernel_rfl) ?_; clear M T; intro wc ac M T
   refine Zso hK _ _ (MA.mk (fun h => (no_of (by kernel_rfl) h).elim) (M.mask [false, true] rfl)) ?_; clear hK K
   refine Zgd (by kernel_rfl) ?_
   replace T := T.pick [14, 15, 16, 17, 18, 19] rfl
   refine Znb ?_
   refine nm_then ?_
   refine wp_region_lit ?_
   refine lq T (rn_add rfl (T.e 5 rfl) evc (by omega)) ?_; clear T ac; intro ac T
   refine l_q (v := (.int .i64 ((k : Int) + 1))) (T.pick [0, 1, 2, 3, 4, 5] rfl) rfl rfl rfl rfl (Zrm rfl (T.e 0 rfl)) ?_; clear T ac; intro ac T
   replace T := T.pick [0, 2, 3, 4, 5, 6] rfl
   refine Zln ?_
   exact ⟨_, by omega, k + 1, (min m0 y), (max m1 y), rfl, (by omega), (by rw [hsc]), T.pick [1, 2, 3, 4, 5, 0] rfl, M.mask [true, true] rfl⟩
  intro h1
  rw [List.take_of_length_le (by omega)] at H
  refine wp_exit ?_
  refine Zet ?_
  refine Zet ?_
  refine ex_hit ?_
  refine nm_then ?_
  refine Zsr ?_
  refine lq T (Zrr (Mem.nth M 0 rfl) rfl (T.e 3 rfl) rfl) ?_; clear T ac; intro ac T
  refine Zl2 ?_
  refine Zos M T rfl rfl (T.e 3 rfl) (T.e 0 rfl) rfl (.tail .head) rfl (by simp) rfl (by kernel_rfl) ?_; clear M T; intro wc ac M T
  refine wpList_nil ?_
  replace T := T.pick [3] rfl
  replace M := M.mask [false, true] rfl
  refine Znr ?_
  refine rt_c M T rfl (T.e 0 rfl) (Zne (i := 0) rfl) rfl ?_
  rw [hz9, ← H]
  exact ⟨rfl, M.below⟩
 intro H1
 refine g_have (fun ac wc => ∃ (gr1_11 : Nat), Tm ac 40 [(5, .pointer (some ⟨gr1_11, 0, none⟩)), (12, .int .i64 z), (16, .int .i64 z), (15, .pointer (some ⟨bG, oG + 0 * 1, none⟩)), (14, .slice G g.length n), (13, .func (.func 82) #[] #[]), (11, .int .i64 z), (10, .pointer (some ⟨bG, oG + 0 * 1, none⟩)), (9, .slice G g.length n), (8, .func (.func 82) #[] #[]), (4, .pointer (some ⟨g1, 0, none⟩)), (0, .slice G g.length n), (1, .func (.func 82) #[] #[])] ∧ Mem w noEx wc [(gr1_11, .cells [.int .i64 0, .int .i64 0]), (g1, .cells [.int .i64 0, .int .i64 0])]) (Zpb 13 2559) 3 ?_ ?_
 ·clear T M
  rintro ac wc ⟨gr1_11, T, M⟩
  refine gw 9 3071 ?_; intro K hK
  refine Zoc (first := []) (cap := []) T rfl rfl rfl rfl (T.e 5 rfl) (.cons (T.e 2 rfl) .nil) Try.func82 rfl rfl ?_
  refine Calls.mono (holds1_any z _) ?_
  clear T; rintro e wc ⟨rfl, hb⟩ ac T
  replace M := M.call hb; clear hb
  refine Zso hK _ _ (M.mask [false, true] rfl) ?_; clear hK K
  refine gq (v := (.agg #[.int .i64 z, .int .i64 z])) T 10 4095 rfl (fun _ _ _ _ _ => (rn_build rfl (.cons (T.e 2 rfl) (.cons (T.e 0 rfl) .nil)) (fun _ => by kernel_rfl))) ?_; clear T ac; intro ac T
  exact H1 _ _ ⟨gr1_11, T.pick [2, 0, 1, 3, 4, 5, 6, 7, 8, 9, 10, 11, 12, 13, 14] rfl, M⟩
 intro H0
 refine gq T 0 1 rfl (fun _ _ _ _ _ => (Zrm rfl (T.e 2 rfl))) ?_; clear T ac; intro ac T
 refine gq T 1 3 rfl (fun _ _ _ _ _ => (Zrm rfl (T.e 2 rfl))) ?_; clear T ac; intro ac T
 refine gq T 2 7 rfl (fun _ _ _ _ _ => (Zri (size := 1) 0 rfl (T.e 0 rfl) evc ⟨_, Try.underlying28, by kernel_rfl⟩ rfl (by omega) (SG.at0 (by omega)))) ?_; clear T ac; intro ac T
 refine gq T 3 15 rfl (fun B w' hD hl hS => (rn_cell (Sp.ic0 SG (show Mem w noEx w' _ from hS) (Zz9 _) hkz) rfl (T.e 0 rfl))) ?_; clear T ac; intro ac T
 refine gq T 5 47 rfl (fun _ _ _ _ _ => (Zrm rfl (T.e 6 rfl))) ?_; clear T ac; intro ac T
 refine gq T 6 111 rfl (fun _ _ _ _ _ => (Zrm rfl (T.e 6 rfl))) ?_; clear T ac; intro ac T
 refine gq T 7 239 rfl (fun _ _ _ _ _ => (Zri (size := 1) 0 rfl (T.e 0 rfl) evc ⟨_, Try.underlying28, by kernel_rfl⟩ rfl (by omega) (SG.at0 (by omega)))) ?_; clear T ac; intro ac T
 refine gq T 8 495 rfl (fun B w' hD hl hS => (rn_cell (Sp.ic0 SG (show Mem w noEx w' _ from hS) (Zz9 _) hkz) rfl (T.e 0 rfl))) ?_; clear T ac; intro ac T
 refine g_m2 (i := 4) (j := 11) (by kernel_rfl) ?_ ?_
 ·refine gi 511 ?_; intro K hK
  refine Zoc (first := []) (cap := []) T rfl rfl rfl rfl (T.e 7 rfl) (.cons (T.e 4 rfl) .nil) Try.func82 rfl rfl ?_
  refine Calls.mono (holds1_any z _) ?_
  clear T; rintro e wc ⟨rfl, hb⟩ ac T
  replace M := M.call hb; clear hb
  refine Zso hK _ _ (M.mask [true] rfl) ?_; clear hK K
  refine g_m2 (i := 9) (j := 11) (by kernel_rfl) ?_ ?_
  ·refine gi 1023 ?_; intro K hK
   refine Zoc (first := []) (cap := []) T rfl rfl rfl rfl (T.e 4 rfl) (.cons (T.e 1 rfl) .nil) Try.func82 rfl rfl ?_
   refine Calls.mono (holds1_any z _) ?_
   clear T; rintro e wc ⟨rfl, hb⟩ ac T
   replace M := M.call hb; clear hb
   refine Zso hK _ _ (M.mask [true] rfl) ?_; clear hK K
   refine gq (v := (.agg #[.int .i64 z, .int .i64 z])) T 10 2047 rfl (fun _ _ _ _ _ => (rn_build rfl (.cons (T.e 1 rfl) (.cons (T.e 0 rfl) .nil)) (fun _ => by kernel_rfl))) ?_; clear T ac; intro ac T
   refine gw 11 4095 ?_; intro K hK
   refine Zoa M T rfl rfl rfl rfl ?_; clear M T; intro gr1_11 wc ac M T
   refine Zso hK _ _ (M.mask [false, true] rfl) ?_; clear hK K
   exact H1 _ _ ⟨gr1_11, T, M⟩
  refine gi 2559 ?_; intro K hK
  refine Zoa M T rfl rfl rfl rfl ?_; clear M T; intro gr1_11 wc ac M T
  refine Zso hK _ _ (M.mask [false, true] rfl) ?_; clear hK K
  exact H0 _ _ ⟨gr1_11, T, M⟩
 refine gi 2543 ?_; intro K hK
 refine Zoa M T rfl rfl rfl rfl ?_; clear M T; intro gr1_11 wc ac M T
 refine Zso hK _ _ (M.mask [false, true] rfl) ?_; clear hK K
 refine gw 4 2559 ?_; intro K hK
 refine Zoc (first := []) (cap := []) T rfl rfl rfl rfl (T.e 8 rfl) (.cons (T.e 5 rfl) .nil) Try.func82 rfl rfl ?_
 refine Calls.mono (holds1_any z _) ?_
 clear T; rintro e wc ⟨rfl, hb⟩ ac T
 replace M := M.call hb; clear hb
 refine Zso hK _ _ (M.mask [false, true] rfl) ?_; clear hK K
 exact H0 _ _ ⟨gr1_11, T.pick [1, 0, 2, 3, 4, 5, 6, 7, 8, 9, 10, 11, 12] rfl, M⟩
set_option maxHeartbeats 4000000 in
theorem Holds_any {J : Nat → Option Obj} (hP : FuncsOk Try.prog) (b : Bw) (A : Option Addr) (c : Nat) (D : Option Addr) (d : Nat) (air way : Int)  (w : World) (hA : Rd w w.heap.size 2 A b.cs.length (rc b.cs)) (hD : Rd w w.heap.size 4 D b.ts.length (lkc b.ts)) (hop : ∀ t ∈ b.ts, Rd w w.heap.size 1 t.A t.op.length (ic t.op)) (nA : b.cs.length ≤ 1000) (nD : b.ts.length ≤ 1000) (nop : ∀ t ∈ b.ts, t.op.length ≤ 1000)  :
   CallsB Try.prog J 22 #[.agg #[.int .i64 b.full, .int .i64 b.a0, .int .i64 b.a1, .slice A b.cs.length c, .slice D b.ts.length d], .int .i64 air, .int .i64 way] w fun e w' => e = .returned (.tuple #[.agg #[.int .i64 ((holR b air way).1), .int .i64 ((holR b air way).2)], .int .i64 (holE b air way)]) ∧ Below w.heap.size w w' := by
 obtain ⟨bA, oA, SA⟩ := Sp.old hA
 obtain ⟨bD, oD, SD⟩ := Sp.old hD
 refine px_enterB hP noEx Try.func22 rfl 80 rfl [.agg #[.int .i64 b.full, .int .i64 b.a0, .int .i64 b.a1, .slice A b.cs.length c, .slice D b.ts.length d], .int .i64 air, .int .i64 way] rfl rfl (Mem.init w _) ?_
 intro ac wc T M
 refine wpB_seq hP ?_
 refine b_lone hP w fun T9 => ?_
 replace M := M.tp T9 0 0
 replace SA := SA.tp T9 0
 replace SD := SD.tp T9 0
 refine wp_region_lit ?_
 refine Zl2 ?_
 refine Zob M T rfl rfl rfl rfl (T.e 0 rfl) rfl ?_; clear M T; intro g1 wc ac M T
 refine Zl2 ?_
 refine Zoa M T rfl rfl rfl rfl ?_; clear M T; intro g2 wc ac M T
 refine lq T (Zra rfl evc) ?_; clear T ac; intro ac T
 refine wpList_nil ?_
 refine nqR_n M ?_; clear M; intro wc M
 replace SA := SA.pt
 replace SD := SD.pt
 replace T := T.pick [1, 2, 4, 5] rfl
 refine nm_then ?_
 refine wpB_seq hP ?_
 refine b_lone hP w fun T9 => ?_
 replace M := M.tp T9 0 0
 replace SA := SA.tp T9 0
 replace SD := SD.tp T9 0
 refine wp_region_lit ?_
 refine lq T (Zra rfl evc) ?_; clear T ac; intro ac T
 refine wpList_nil ?_
 refine nqR_n M ?_; clear M; intro wc M
 replace SA := SA.pt
 replace SD := SD.pt
 refine nm_then ?_
 refine wpB_seq hP ?_
 refine b_lone hP w fun T9 => ?_
 replace M := M.tp T9 0 0
 replace SA := SA.tp T9 0
 replace SD := SD.tp T9 0
 generalize hw9 : Bq.tp w T9 0 = w at M SA SD
 generalize Bq.tp wc T9 0 = wc at M ⊢
 refine wp_block ?_
 refine Zsr ?_
 refine lq T (Zrm rfl (T.e 3 rfl)) ?_; clear T ac; intro ac T
 refine Zl2 ?_
 refine Zoc (first := []) (cap := []) T rfl rfl rfl rfl evf (.cons (T.e 0 rfl) (.cons evc (.cons evc .nil))) Try.func76 rfl rfl ?_
 refine Calls.mono (bin_any air 0 9 _) ?_
 clear T; rintro e wc ⟨rfl, hb⟩ ac T
 replace M := M.call hb; clear hb
 refine Zg2 T (Zq (rn_not rfl (T.e 0 rfl))) rfl (Za 0 rfl rfl) rfl ?_; clear T ac; intro ac T
 replace T := T.pick [0, 4, 5, 6, 7, 8] rfl
 refine Zln ?_
 refine wp_cond_split (T.e 0 rfl) ?_ ?_
 ·intro h1
  (have h1' := h1; try simp only [Zb1, Zb2, Zb3, Zb4, Zb5, Zb6, Zb7] at h1')
  refine wp_region_lit ?_
  refine l_q (v := (.int .i64 1)) (T.pick [0, 2, 3, 4, 5] rfl) rfl rfl rfl rfl (Zra rfl evc) ?_; clear T ac; intro ac T
  refine wpList_nil ?_
  replace T := T.pick [0, 2, 3, 4, 5] rfl
  refine Znb ?_
  subst hw9
  refine nqR_n M ?_; clear M; intro wc M
  replace SA := SA.pt
  replace SD := SD.pt
  refine nm_then ?_
  refine wpB_seq hP ?_
  refine rB_preN hP w 3 (by decide) fun T9 => ?_
  replace M := M.tp T9 0 0
  replace SA := SA.tp T9 0
  replace SD := SD.tp T9 0
  refine Zg2 T (Zq (Zrr (Mem.nth M 1 rfl) rfl (T.e 2 rfl) rfl)) rfl (Zm 1 rfl rfl) rfl ?_; clear T ac; intro ac T
  refine Zl2 ?_
  refine ow_bs (e := 39) [.int .i64 1] M T rfl rfl rfl rfl (.cons (T.e 0 rfl) .nil) (fun _ => by kernel_rfl) ?_; clear M T; intro g3 wc ac M T
  refine wpList_nil ?_
  refine pqR_n M ?_; clear M; intro wc M
  replace SA := SA.pt
  replace SD := SD.pt
  refine rB_call hP (m := 5) (first := []) (cap := []) T rfl rfl rfl rfl rfl evf (.cons (T.e 2 rfl) (.cons (T.e 0 rfl) .nil)) Try.func77 rfl rfl (known_any hP b A c D d (some ⟨g3, 0, none⟩) 1 [1] _ (SA.rd M (Zz9 _)) (SD.rd M (Zz9 _)) (fun t ht => M.rd (hop t ht) (Nat.le_refl _)) nA nD nop (M.rdOwn (Zne (i := 0) rfl) rfl rfl) (by first | omega | simp)) ?_
  clear T
  rintro e wc ⟨Aku2, cku2, Iku2, rfl, hcku2, N⟩
  refine ⟨_, rfl, ?_⟩
  intro ac T
  obtain ⟨lku2, hlku2⟩ : ∃ q, q = knownL b [1] := ⟨_, rfl⟩
  obtain ⟨eku2, heku2⟩ : ∃ q, q = knownE b [1] := ⟨_, rfl⟩
  rw [← hlku2] at hcku2 T
  rw [← heku2] at T
  obtain ⟨bku2, oku2, hSku2⟩ := hcku2.spV (l4c_length _)
  have SLku2 := hSku2 w noEx
  clear hSku2
  replace M := (M.join N).swapI
  clear N
  replace M : Mem w noEx wc ((g3, .cells [.int .i64 1]) :: (g2, .cells [.int .i64 0, .int .i64 0]) :: (g1, .cells [.int .i64 b.full, .int .i64 b.a0, .int .i64 b.a1, .slice A b.cs.length c, .slice D b.ts.length d]) :: Iku2) := M
  refine rB_moreN hP w 5 0 rfl (by decide) fun T9 => ?_
  replace M := M.tp T9 0 0
  replace SA := SA.tp T9 0
  replace SD := SD.tp T9 0
  replace SLku2 := SLku2.tp T9 0
  refine Zg5 T (Zq (Zrm rfl (T.e 0 rfl))) rfl (Ze 0 rfl rfl rfl) rfl (Ze 1 rfl rfl rfl) rfl (Za 1 rfl rfl) rfl (Za 1 rfl rfl) rfl ?_; clear T ac; intro ac T
  refine wpList_nil ?_
  refine pqR_n M ?_; clear M; intro wc M
  replace SA := SA.pt
  replace SD := SD.pt
  replace SLku2 := SLku2.pt
  refine rB_nil hP ?_
  replace T := T.pick [0, 1, 10, 11, 12, 13] rfl
  replace M := M.mask [false, true, true] rfl
  refine nm_then ?_
  refine b_lone hP w fun T9 => ?_
  replace M := M.tp T9 0 0
  replace SA := SA.tp T9 0
  replace SD := SD.tp T9 0
  replace SLku2 := SLku2.tp T9 0
  generalize hw9 : Bq.tp w T9 0 = w at M SA SD SLku2
  generalize Bq.tp wc T9 0 = wc at M ⊢
  refine wp_seq ?_
  refine Zsr ?_
  refine Zg2 T (Zq (Zrm rfl (T.e 0 rfl))) rfl (fun _ T => Zq (rn_neq rfl (T.e 0 rfl) evc)) rfl ?_; clear T ac; intro ac T
  replace T := T.pick [0, 2, 3, 4, 5, 6, 7] rfl
  refine Zln ?_
  refine wp_ifn (T.e 0 rfl) ?_ ?_
  ·intro h2
   refine Zsr ?_
   refine Zg2 (v1 := (.agg #[.int .i64 0, .int .i64 0])) T (Zq (rn_build rfl .nil (fun _ => by kernel_rfl))) rfl (Zm 2 rfl rfl) rfl ?_; clear T ac; intro ac T
   refine Zl2 ?_
   refine Zos M T rfl rfl (T.e 5 rfl) (T.e 1 rfl) rfl .head rfl (by simp) rfl (by kernel_rfl) ?_; clear M T; intro wc ac M T
   refine lq T (Zra rfl (T.e 0 rfl)) ?_; clear T ac; intro ac T
   refine wpList_nil ?_
   replace T := T.pick [0, 6] rfl
   replace M := M.mask [true, false] rfl
   refine Znr ?_
   refine Zrt ?_
   subst hw9
   refine nqR_r M ?_; clear M; intro wc M
   refine rt_ct M T rfl (T.e 1 rfl) (T.e 0 rfl) (Zne (i := 0) rfl) rfl ?_
   have hke : holE b air way = eku2 := by unfold holE wrE; rw [heku2]; congr 2; (repeat' split) <;> first | rfl | (simp_all; done)
   have hne : holE b air way ≠ 0 := by rw [hke]; omega
   have e9 : holR b air way = (0, 0) := by unfold holR; rw [if_pos hne]
   rw [e9, hke]
   exact ⟨rfl, M.below⟩
  intro h2
  exfalso
  exact wr_dead (b := b) (e := 1) nop (by rw [← heku2]; omega) (by omega)
 intro h1
 (have h1' := h1; try simp only [Zb1, Zb2, Zb3, Zb4, Zb5, Zb6, Zb7] at h1')
 refine Zsr ?_
 refine lq T (Zrm rfl (T.e 5 rfl)) ?_; clear T ac; intro ac T
 refine Zl2 ?_
 refine Zoc (first := []) (cap := []) T rfl rfl rfl rfl evf (.cons (T.e 0 rfl) (.cons evc (.cons evc .nil))) Try.func76 rfl rfl ?_
 refine Calls.mono (bin_any way 1 2 _) ?_
 clear T; rintro e wc ⟨rfl, hb⟩ ac T
 replace M := M.call hb; clear hb
 refine Zg2 T (Zq (rn_not rfl (T.e 0 rfl))) rfl (Za 0 rfl rfl) rfl ?_; clear T ac; intro ac T
 replace T := T.pick [0, 5, 6, 7, 8, 9] rfl
 refine Zln ?_
 refine wp_cond_split (T.e 0 rfl) ?_ ?_
 ·intro h3
  (have h3' := h3; try simp only [Zb1, Zb2, Zb3, Zb4, Zb5, Zb6, Zb7] at h3')
  refine wp_region_lit ?_
  refine l_q (v := (.int .i64 8)) (T.pick [0, 2, 3, 4, 5] rfl) rfl rfl rfl rfl (Zra rfl evc) ?_; clear T ac; intro ac T
  refine wpList_nil ?_
  replace T := T.pick [0, 2, 3, 4, 5] rfl
  refine Znb ?_
  subst hw9
  refine nqR_n M ?_; clear M; intro wc M
  replace SA := SA.pt
  replace SD := SD.pt
  refine nm_then ?_
  refine wpB_seq hP ?_
  refine rB_preN hP w 3 (by decide) fun T9 => ?_
  replace M := M.tp T9 0 0
  replace SA := SA.tp T9 0
  replace SD := SD.tp T9 0
  refine Zg2 T (Zq (Zrr (Mem.nth M 1 rfl) rfl (T.e 2 rfl) rfl)) rfl (Zm 1 rfl rfl) rfl ?_; clear T ac; intro ac T
  refine Zl2 ?_
  refine ow_bs (e := 39) [.int .i64 8] M T rfl rfl rfl rfl (.cons (T.e 0 rfl) .nil) (fun _ => by kernel_rfl) ?_; clear M T; intro g4 wc ac M T
  refine wpList_nil ?_
  refine pqR_n M ?_; clear M; intro wc M
  replace SA := SA.pt
  replace SD := SD.pt
  refine rB_call hP (m := 5) (first := []) (cap := []) T rfl rfl rfl rfl rfl evf (.cons (T.e 2 rfl) (.cons (T.e 0 rfl) .nil)) Try.func77 rfl rfl (known_any hP b A c D d (some ⟨g4, 0, none⟩) 1 [8] _ (SA.rd M (Zz9 _)) (SD.rd M (Zz9 _)) (fun t ht => M.rd (hop t ht) (Nat.le_refl _)) nA nD nop (M.rdOwn (Zne (i := 0) rfl) rfl rfl) (by first | omega | simp)) ?_
  clear T
  rintro e wc ⟨Aku4, cku4, Iku4, rfl, hcku4, N⟩
  refine ⟨_, rfl, ?_⟩
  intro ac T
  obtain ⟨lku4, hlku4⟩ : ∃ q, q = knownL b [8] := ⟨_, rfl⟩
  obtain ⟨eku4, heku4⟩ : ∃ q, q = knownE b [8] := ⟨_, rfl⟩
  rw [← hlku4] at hcku4 T
  rw [← heku4] at T
  obtain ⟨bku4, oku4, hSku4⟩ := hcku4.spV (l4c_length _)
  have SLku4 := hSku4 w noEx
  clear hSku4
  replace M := (M.join N).swapI
  clear N
  replace M : Mem w noEx wc ((g4, .cells [.int .i64 8]) :: (g2, .cells [.int .i64 0, .int .i64 0]) :: (g1, .cells [.int .i64 b.full, .int .i64 b.a0, .int .i64 b.a1, .slice A b.cs.length c, .slice D b.ts.length d]) :: Iku4) := M
  refine rB_moreN hP w 5 0 rfl (by decide) fun T9 => ?_
  replace M := M.tp T9 0 0
  replace SA := SA.tp T9 0
  replace SD := SD.tp T9 0
  replace SLku4 := SLku4.tp T9 0
  refine Zg5 T (Zq (Zrm rfl (T.e 0 rfl))) rfl (Ze 0 rfl rfl rfl) rfl (Ze 1 rfl rfl rfl) rfl (Za 1 rfl rfl) rfl (Za 1 rfl rfl) rfl ?_; clear T ac; intro ac T
  refine wpList_nil ?_
  refine pqR_n M ?_; clear M; intro wc M
  replace SA := SA.pt
  replace SD := SD.pt
  replace SLku4 := SLku4.pt
  refine rB_nil hP ?_
  replace T := T.pick [0, 1, 10, 11, 12, 13] rfl
  replace M := M.mask [false, true, true] rfl
  refine nm_then ?_
  refine b_lone hP w fun T9 => ?_
  replace M := M.tp T9 0 0
  replace SA := SA.tp T9 0
  replace SD := SD.tp T9 0
  replace SLku4 := SLku4.tp T9 0
  generalize hw9 : Bq.tp w T9 0 = w at M SA SD SLku4
  generalize Bq.tp wc T9 0 = wc at M ⊢
  refine wp_seq ?_
  refine Zsr ?_
  refine Zg2 T (Zq (Zrm rfl (T.e 0 rfl))) rfl (fun _ T => Zq (rn_neq rfl (T.e 0 rfl) evc)) rfl ?_; clear T ac; intro ac T
  replace T := T.pick [0, 2, 3, 4, 5, 6, 7] rfl
  refine Zln ?_
  refine wp_ifn (T.e 0 rfl) ?_ ?_
  ·intro h4
   refine Zsr ?_
   refine Zg2 (v1 := (.agg #[.int .i64 0, .int .i64 0])) T (Zq (rn_build rfl .nil (fun _ => by kernel_rfl))) rfl (Zm 2 rfl rfl) rfl ?_; clear T ac; intro ac T
   refine Zl2 ?_
   refine Zos M T rfl rfl (T.e 5 rfl) (T.e 1 rfl) rfl .head rfl (by simp) rfl (by kernel_rfl) ?_; clear M T; intro wc ac M T
   refine lq T (Zra rfl (T.e 0 rfl)) ?_; clear T ac; intro ac T
   refine wpList_nil ?_
   replace T := T.pick [0, 6] rfl
   replace M := M.mask [true, false] rfl
   refine Znr ?_
   refine Zrt ?_
   subst hw9
   refine nqR_r M ?_; clear M; intro wc M
   refine rt_ct M T rfl (T.e 1 rfl) (T.e 0 rfl) (Zne (i := 0) rfl) rfl ?_
   have hke : holE b air way = eku4 := by unfold holE wrE; rw [heku4]; congr 2; (repeat' split) <;> first | rfl | (simp_all; done)
   have hne : holE b air way ≠ 0 := by rw [hke]; omega
   have e9 : holR b air way = (0, 0) := by unfold holR; rw [if_pos hne]
   rw [e9, hke]
   exact ⟨rfl, M.below⟩
  intro h4
  exfalso
  exact wr_dead (b := b) (e := 8) nop (by rw [← heku4]; omega) (by omega)
 intro h3
 (have h3' := h3; try simp only [Zb1, Zb2, Zb3, Zb4, Zb5, Zb6, Zb7] at h3')
 refine wp_skip ?_
 refine Znb ?_
 subst hw9
 refine nqR_n M ?_; clear M; intro wc M
 replace SA := SA.pt
 replace SD := SD.pt
 refine nm_then ?_
 refine wpB_seq hP ?_
 refine rB_preN hP w 3 (by decide) fun T9 => ?_
 replace M := M.tp T9 0 0
 replace SA := SA.tp T9 0
 replace SD := SD.tp T9 0
 refine Zg2 T (Zq (Zrr (Mem.nth M 1 rfl) rfl (T.e 3 rfl) rfl)) rfl (Zm 2 rfl rfl) rfl ?_; clear T ac; intro ac T
 refine Zl2 ?_
 refine ow_bs (e := 39) [.int .i64 0] M T rfl rfl rfl rfl (.cons (T.e 0 rfl) .nil) (fun _ => by kernel_rfl) ?_; clear M T; intro g5 wc ac M T
 refine wpList_nil ?_
 refine pqR_n M ?_; clear M; intro wc M
 replace SA := SA.pt
 replace SD := SD.pt
 refine rB_call hP (m := 5) (first := []) (cap := []) T rfl rfl rfl rfl rfl evf (.cons (T.e 2 rfl) (.cons (T.e 0 rfl) .nil)) Try.func77 rfl rfl (known_any hP b A c D d (some ⟨g5, 0, none⟩) 1 [0] _ (SA.rd M (Zz9 _)) (SD.rd M (Zz9 _)) (fun t ht => M.rd (hop t ht) (Nat.le_refl _)) nA nD nop (M.rdOwn (Zne (i := 0) rfl) rfl rfl) (by first | omega | simp)) ?_
 clear T
 rintro e wc ⟨Aku5, cku5, Iku5, rfl, hcku5, N⟩
 refine ⟨_, rfl, ?_⟩
 intro ac T
 obtain ⟨lku5, hlku5⟩ : ∃ q, q = knownL b [0] := ⟨_, rfl⟩
 obtain ⟨eku5, heku5⟩ : ∃ q, q = knownE b [0] := ⟨_, rfl⟩
 rw [← hlku5] at hcku5 T
 rw [← heku5] at T
 obtain ⟨bku5, oku5, hSku5⟩ := hcku5.spV (l4c_length _)
 have SLku5 := hSku5 w noEx
 clear hSku5
 replace M := (M.join N).swapI
 clear N
 replace M : Mem w noEx wc ((g5, .cells [.int .i64 0]) :: (g2, .cells [.int .i64 0, .int .i64 0]) :: (g1, .cells [.int .i64 b.full, .int .i64 b.a0, .int .i64 b.a1, .slice A b.cs.length c, .slice D b.ts.length d]) :: Iku5) := M
 refine rB_moreN hP w 5 0 rfl (by decide) fun T9 => ?_
 replace M := M.tp T9 0 0
 replace SA := SA.tp T9 0
 replace SD := SD.tp T9 0
 replace SLku5 := SLku5.tp T9 0
 refine Zg5 T (Zq (Zrm rfl (T.e 0 rfl))) rfl (Ze 0 rfl rfl rfl) rfl (Ze 1 rfl rfl rfl) rfl (Za 1 rfl rfl) rfl (Za 1 rfl rfl) rfl ?_; clear T ac; intro ac T
 refine wpList_nil ?_
 refine pqR_n M ?_; clear M; intro wc M
 replace SA := SA.pt
 replace SD := SD.pt
 replace SLku5 := SLku5.pt
 refine rB_nil hP ?_
 replace T := T.pick [0, 1, 11, 12, 13, 14] rfl
 replace M := M.mask [false, true, true] rfl
 refine nm_then ?_
 refine b_lone hP w fun T9 => ?_
 replace M := M.tp T9 0 0
 replace SA := SA.tp T9 0
 replace SD := SD.tp T9 0
 replace SLku5 := SLku5.tp T9 0
 generalize hw9 : Bq.tp w T9 0 = w at M SA SD SLku5
 generalize Bq.tp wc T9 0 = wc at M ⊢
 refine wp_seq ?_
 refine Zsr ?_
 refine Zg2 T (Zq (Zrm rfl (T.e 0 rfl))) rfl (fun _ T => Zq (rn_neq rfl (T.e 0 rfl) evc)) rfl ?_; clear T ac; intro ac T
 replace T := T.pick [0, 2, 3, 4, 5, 6, 7] rfl
 refine Zln ?_
 refine wp_ifn (T.e 0 rfl) ?_ ?_
 ·intro h5
  refine Zsr ?_
  refine Zg2 (v1 := (.agg #[.int .i64 0, .int .i64 0])) T (Zq (rn_build rfl .nil (fun _ => by kernel_rfl))) rfl (Zm 2 rfl rfl) rfl ?_; clear T ac; intro ac T
  refine Zl2 ?_
  refine Zos M T rfl rfl (T.e 5 rfl) (T.e 1 rfl) rfl .head rfl (by simp) rfl (by kernel_rfl) ?_; clear M T; intro wc ac M T
  refine lq T (Zra rfl (T.e 0 rfl)) ?_; clear T ac; intro ac T
  refine wpList_nil ?_
  replace T := T.pick [0, 6] rfl
  replace M := M.mask [true, false] rfl
  refine Znr ?_
  refine Zrt ?_
  subst hw9
  refine nqR_r M ?_; clear M; intro wc M
  refine rt_ct M T rfl (T.e 1 rfl) (T.e 0 rfl) (Zne (i := 0) rfl) rfl ?_
  have hke : holE b air way = eku5 := by unfold holE wrE; rw [heku5]; congr 2; (repeat' split) <;> first | rfl | (simp_all; done)
  have hne : holE b air way ≠ 0 := by rw [hke]; omega
  have e9 : holR b air way = (0, 0) := by unfold holR; rw [if_pos hne]
  rw [e9, hke]
  exact ⟨rfl, M.below⟩
 intro h5
 have hw1 : withinB air 0 9 = true := by simpa using h1
 have hw2 : withinB way 1 2 = true := by simpa using h3
 have hwr : wrE air way = 0 := by unfold wrE; rw [hw1, hw2]; rfl
 have hke : knownE b [(0 : Int)] = 0 := by rw [← heku5]; omega
 obtain ⟨hgood, hf9, hlt, hl4, hlp, hln⟩ := known_ok nop hke
 rw [← hlku5] at hlt hl4 hlp hln
 have hgb := hgood.airs
 have h4 := hgood.n4
 have ha9 : 0 ≤ air ∧ air ≤ 9 := withinB_iff.1 hw1
 have hcs := hgood.n4
 refine Zsk ?_
 refine Zsr ?_
 refine lq T (Zra rfl evc) ?_; clear T ac; intro ac T
 replace T := T.pick [0, 3, 4, 5, 6, 7] rfl
 refine Zln ?_
 refine Zsr ?_
 refine lq T (Zrr (Mem.nth M 1 rfl) rfl (T.e 3 rfl) rfl) ?_; clear T ac; intro ac T
 refine Zl2 ?_
 refine Zoc (first := []) (cap := []) T rfl rfl rfl rfl evf (.cons (T.e 0 rfl) (.cons evc .nil)) Try.func78 rfl rfl ?_
 refine Calls.mono (corners_any b A c D d none 0 [] _ (by omega) ⟨by simp [ic], fun h => absurd h (by simp)⟩ (by simp)) ?_
 clear T; rintro e wc ⟨Acu6, ccu6, Icu6, rfl, hclu6, N⟩ ac T
 obtain ⟨rlu6, hrlu6⟩ : ∃ q, q = cornL b.cs.length [] := ⟨_, rfl⟩
 rw [← hrlu6] at hclu6 T
 have hnrlu6 : rlu6.length ≤ b.cs.length := by rw [hrlu6]; exact cornL_len _ _
 have hgrlu6 : ∀ c ∈ rlu6, 0 ≤ c ∧ c < 4 := fun c hc => by rw [hrlu6] at hc; have := cornL_mem hc; omega
 obtain ⟨bRu6, oRu6, SRu6⟩ := hclu6.spV (by simp [ic_length])
 replace SRu6 := SRu6 w noEx
 replace M := (M.join N).swapI
 clear N
 replace M : Mem w noEx wc ((g2, .cells [.int .i64 0, .int .i64 0]) :: (g1, .cells [.int .i64 b.full, .int .i64 b.a0, .int .i64 b.a1, .slice A b.cs.length c, .slice D b.ts.length d]) :: (Iku5 ++ Icu6)) := M
 refine lq T (Zra rfl (T.e 0 rfl)) ?_; clear T ac; intro ac T
 replace T := T.pick [0, 3, 4, 5, 6, 7, 8] rfl
 refine Zln ?_
 refine wp_seq ?_
 refine Zsr ?_
 refine Zg3 T (Zq (Zrm rfl (T.e 2 rfl))) rfl (Zl Try.underlying104 0 rfl rfl) rfl (fun _ T => Zq (Zrm rfl evc)) rfl ?_; clear T ac; intro ac T
 replace T := T.pick [0, 1, 2, 3, 4, 6, 7, 8, 9] rfl
 refine Zln ?_
 refine wp_block ?_
 have hlf : lku5.length ≤ 1296 := by rw [hlt]; unfold truthsL; rw [List.length_map]; exact truths_few (hgood.val nop)
 have hgb1 := hgb.full
 have hgb2 := hgb.air
 have hgrl := hgrlu6
 refine wp_loop_n (fun mz ac wc => ∃ (k : Nat) (OL : List Int) (A3 : Option Addr) (c3 : Nat) (Io : List (Nat × BA)), mz = lku5.length - k ∧ (k ≤ lku5.length) ∧ (OL = holdT b air way rlu6 (lku5.take k)) ∧ (OL.length = k * airN b) ∧ (Sl 3 1 (.slice A3 OL.length c3) OL.length (ic OL) Io) ∧ Tm ac 80 [(1, .int .i64 air), (2, .int .i64 way), (3, .pointer (some ⟨g1, 0, none⟩)), (6, .pointer (some ⟨g2, 0, none⟩)), (11, .slice A3 OL.length c3), (12, .slice Acu6 rlu6.length ccu6), (39, .slice Aku5 lku5.length cku5), (40, .int .i64 ((lku5.length : Nat) : Int)), (41, .int .i64 (k : Int))] ∧ Mem w noEx wc ((g2, .cells [.int .i64 0, .int .i64 0]) :: (g1, .cells [.int .i64 b.full, .int .i64 b.a0, .int .i64 b.a1, .slice A b.cs.length c, .slice D b.ts.length d]) :: (Iku5 ++ Icu6 ++ Io))) ?_ ?_
 ·exact ⟨_, 0, [], none, 0, [], rfl, (Nat.zero_le _), rfl, (by simp), (Sl.nil _ _), T.pick [7, 8, 6, 5, 4, 3, 2, 1, 0] rfl, (by simp only [List.append_nil]; exact M)⟩
 clear T M
 rintro mz ac wc ⟨k, OL, A3, c3, Io, hmm1, hk, hO, hOl, hsl, T, M⟩
 refine Zsr ?_
 refine lq T (rn_lss rfl (T.e 8 rfl) (T.e 7 rfl)) ?_; clear T ac; intro ac T
 refine Zln ?_
 refine wp_seq ?_
 refine wp_if (T.e 0 rfl) ?_ ?_
 ·intro h6
  obtain ⟨x, hkx, -⟩ := l4c_next (l := lku5) (k := k) (by omega)
  have hxx := hl4 x (List.mem_of_getElem? hkx)
  have hB9 := totL_bound (op := rlu6) hxx.all
  refine Zsk ?_
  refine wp_seq ?_
  refine wp_block ?_
  refine Zsr ?_
  refine Zg2 (v2 := (.agg #[.int .i64 x.a, .int .i64 x.b, .int .i64 x.c, .int .i64 x.d])) T (Zq (Zri (size := 4) k rfl (T.e 7 rfl) (T.e 9 rfl) ⟨_, Try.underlying104, by kernel_rfl⟩ rfl (by omega) (SLku5.at0 (by omega)))) rfl (fun _ T => Zq (rn_rowat (Sp.l4cR SLku5 M (.cons _ (.cons _ (subL (subL (List.Sublist.refl _))))) hkx) rfl (T.e 0 rfl) rfl)) rfl ?_; clear T ac; intro ac T
  refine Zl2 ?_
  refine Zoa M T rfl rfl rfl rfl ?_; clear M T; intro g6 wc ac M T
  refine Zl2 ?_
  refine Zos M T rfl rfl (T.e 0 rfl) (T.e 1 rfl) rfl .head rfl (by simp) rfl (by kernel_rfl) ?_; clear M T; intro wc ac M T
  replace T := T.pick [0, 4, 5, 6, 7, 8, 9, 10, 11, 12] rfl
  refine Zln ?_
  refine Zsr ?_
  refine Zg4 (v1 := (.pointer (some ⟨g1, 1, none⟩))) (v2 := (.pointer (some ⟨g1, 1, none⟩))) T (Zq (Zrf (off := 1) rfl (T.e 3 rfl) (fun _ _ _ => by kernel_rfl))) rfl (Zf 0 0 rfl rfl) rfl (Zo M 2 0 rfl rfl rfl rfl) rfl (Za 0 rfl rfl) rfl ?_; clear T ac; intro ac T
  replace T := T.pick [0, 4, 5, 6, 7, 8, 9, 10, 11, 12, 13] rfl
  refine Zln ?_
  refine wp_block ?_
  have han : airN b = (b.a1 - b.a0 + 1).toNat := rfl
  have hkn : k * airN b ≤ 1296 * 201 := Nat.mul_le_mul (by omega) (by omega)
  rw [show b.a0 = b.a0 + ((0 : Nat) : Int) by omega] at T
  refine wp_loop_n (fun mz ac wc => ∃ (j : Nat) (OM : List Int) (A4 : Option Addr) (c4 : Nat) (Ij : List (Nat × BA)), mz = airN b - j ∧ (j ≤ airN b) ∧ (OM = OL ++ holdR b air way (totL x.l rlu6) j) ∧ (OM.length = OL.length + j) ∧ (Sl 3 1 (.slice A4 OM.length c4) OM.length (ic OM) Ij) ∧ Tm ac 80 [(1, .int .i64 air), (2, .int .i64 way), (3, .pointer (some ⟨g1, 0, none⟩)), (6, .pointer (some ⟨g2, 0, none⟩)), (11, .slice A4 OM.length c4), (12, .slice Acu6 rlu6.length ccu6), (14, .pointer (some ⟨g6, 0, none⟩)), (15, .int .i64 (b.a0 + (j : Int))), (39, .slice Aku5 lku5.length cku5), (40, .int .i64 ((lku5.length : Nat) : Int)), (41, .int .i64 (k : Int))] ∧ Mem w noEx wc ((g6, .cells [.int .i64 x.a, .int .i64 x.b, .int .i64 x.c, .int .i64 x.d]) :: (g2, .cells [.int .i64 0, .int .i64 0]) :: (g1, .cells [.int .i64 b.full, .int .i64 b.a0, .int .i64 b.a1, .slice A b.cs.length c, .slice D b.ts.length d]) :: (Iku5 ++ Icu6 ++ Ij))) ?_ ?_
  ·exact ⟨_, 0, OL, A3, c3, Io, rfl, (Nat.zero_le _), (by unfold holdR; simp), rfl, hsl, T.pick [2, 3, 4, 5, 6, 7, 1, 0, 8, 9, 10] rfl, M.mask [true, true, true] rfl⟩
  clear T M
  rintro mz ac wc ⟨j, OM, A4, c4, Ij, hmm2, hj, hM, hMl, hsl4, T, M⟩
  refine wp_seq ?_
  refine Zsr ?_
  refine Zg5 (v2 := (.pointer (some ⟨g1, 1, none⟩))) (v3 := (.pointer (some ⟨g1, 2, none⟩))) T (Zq (Zrm rfl (T.e 7 rfl))) rfl (Zf 1 3 rfl rfl) rfl (Zf 1 0 rfl rfl) rfl (Zo M 2 0 rfl rfl rfl rfl) rfl (fun _ T => Zq (rn_leq rfl (T.e 3 rfl) (T.e 0 rfl))) rfl ?_; clear T ac; intro ac T
  replace T := T.pick [0, 5, 6, 7, 8, 9, 10, 11, 12, 13, 14, 15] rfl
  refine Zln ?_
  refine wp_if (T.e 0 rfl) ?_ ?_
  ·intro h7
   have hrm := room_bd (way := way) (x := b.a0 + (j : Int)) (full := b.full) (by omega) (by omega)
   have hqd : 0 < air + (totL x.l rlu6) → 0 ≤ Int.tdiv (roomW way (b.a0 + (j : Int)) b.full) (air + (totL x.l rlu6)) ∧ Int.tdiv (roomW way (b.a0 + (j : Int)) b.full) (air + (totL x.l rlu6)) ≤ roomW way (b.a0 + (j : Int)) b.full := fun h => tdiv_bd hrm.1 h
   refine Zsk ?_
   refine wp_seq ?_
   refine wp_block ?_
   refine Zsr ?_
   refine lq T (Zra rfl evc) ?_; clear T ac; intro ac T
   replace T := T.pick [0, 2, 3, 4, 5, 6, 7, 8, 9, 10, 11, 12] rfl
   refine Zln ?_
   refine wp_seq ?_
   refine Zsr ?_
   refine Zg3 T (Zq (Zrm rfl (T.e 1 rfl))) rfl (Zr M 0 8 rfl rfl rfl rfl) rfl (Zm 8 rfl rfl) rfl ?_; clear T ac; intro ac T
   refine Zl2 ?_
   refine Zoc (first := []) (cap := []) T rfl rfl rfl rfl evf (.cons (T.e 1 rfl) (.cons (T.e 0 rfl) .nil)) Try.func79 rfl rfl ?_
   refine Calls.mono (total_any x Acu6 ccu6 rlu6 _ hxx (SRu6.rd M (.cons _ (.cons _ (.cons _ (subL (Zsq _ _)))))) (by omega) hgrl) ?_
   clear T; rintro e wc ⟨rfl, hb⟩ ac T
   replace M := M.call hb; clear hb
   refine Zg2 T (Zq (rn_add rfl (T.e 3 rfl) (T.e 0 rfl) (by omega))) rfl (Za 0 rfl rfl) rfl ?_; clear T ac; intro ac T
   replace T := T.pick [0, 6, 7, 8, 9, 10, 11, 12, 13, 14, 15, 16, 17] rfl
   refine Zln ?_
   refine Zsr ?_
   refine Zg2 T (Zq (Zrm rfl (T.e 0 rfl))) rfl (fun _ T => Zq (rn_gtr rfl (T.e 0 rfl) evc)) rfl ?_; clear T ac; intro ac T
   replace T := T.pick [0, 2, 3, 4, 5, 6, 7, 8, 9, 10, 11, 12, 13, 14] rfl
   refine Zln ?_
   refine wp_if (T.e 0 rfl) ?_ ?_
   ·intro h8
    refine Zgs M (M.mask [true, true, true] rfl) 12 (by kernel_rfl) rfl (by kernel_rfl) ?_
    clear M; intro wc M
    refine gq T 0 1 rfl (fun _ _ _ _ _ => (Zrm rfl (T.e 2 rfl))) ?_; clear T ac; intro ac T
    refine gq T 1 3 rfl (fun _ _ _ _ _ => (Zrm rfl (T.e 5 rfl))) ?_; clear T ac; intro ac T
    refine gq T 4 19 rfl (fun _ _ _ _ _ => (Zrm rfl (T.e 12 rfl))) ?_; clear T ac; intro ac T
    refine gq (v := (.pointer (some ⟨g1, 0, none⟩))) T 5 51 rfl (fun _ _ _ _ _ => (Zrf (off := 0) rfl (T.e 8 rfl) (fun _ _ _ => by kernel_rfl))) ?_; clear T ac; intro ac T
    refine gq T 6 115 rfl (fun B w' hD hl hS => (Zro (Mem.nth (show Mem w noEx w' _ from hS) 2 rfl) rfl (T.e 0 rfl) rfl)) ?_; clear T ac; intro ac T
    refine gq T 8 371 rfl (fun _ _ _ _ _ => (Zrm rfl (T.e 6 rfl))) ?_; clear T ac; intro ac T
    refine gw 2 375 ?_; intro K hK
    refine Zoc (first := []) (cap := []) T rfl rfl rfl rfl evf (.cons (T.e 4 rfl) .nil) Try.func80 rfl rfl ?_
    refine Calls.mono (works_fn way _) ?_
    clear T; rintro e wc ⟨FAu8, FRu8, rfl, hfau8, hfru8, hb⟩ ac T
    replace M := M.call hb; clear hb
    obtain ⟨fau8, ha1u8, ha2u8, ha3u8, ha4u8⟩ := hfau8
    obtain ⟨fru8, hr1u8, hr2u8, hr3u8, hr4u8⟩ := hfru8
    refine Zso hK _ _ (M.mask [true, true, true] rfl) ?_; clear hK K
    refine gq (v := (.func (.func FRu8) #[] [].toArray)) T 3 383 rfl (fun _ _ _ _ _ => (rn_field rfl (T.e 0 rfl) (by kernel_rfl))) ?_; clear T ac; intro ac T
    refine gw 7 511 ?_; intro K hK
    refine Zoc (first := []) (cap := []) T rfl rfl rfl rfl (T.e 0 rfl) (.cons (T.e 5 rfl) (.cons (T.e 3 rfl) .nil)) hr1u8 hr2u8 hr3u8 ?_
    refine Calls.mono (hr4u8 (b.a0 + (j : Int)) b.full _ (by omega)) ?_
    clear T; rintro e wc ⟨rfl, hb⟩ ac T
    replace M := M.call hb; clear hb
    refine Zso hK _ _ (M.mask [true, true, true] rfl) ?_; clear hK K
    refine gq T 9 1023 rfl (fun _ _ _ _ _ => (rn_quo rfl (T.e 0 rfl) (T.e 3 rfl) (by omega) (by omega))) ?_; clear T ac; intro ac T
    refine gq T 10 2047 rfl (fun _ _ _ _ _ => (rn_min2 rfl (T.e 9 rfl) (T.e 0 rfl))) ?_; clear T ac; intro ac T
    refine g_q (v := (.int .i64 (min 600 (Int.tdiv (roomW way (b.a0 + (j : Int)) b.full) (air + (totL x.l rlu6)))))) (T := T.pick [0, 1, 2, 3, 4, 5, 6, 7, 8, 9, 10, 11, 12, 14, 15, 16, 17, 18, 19, 20, 21, 22, 23, 24] rfl) (i := 11) rfl (by kernel_rfl) (by kernel_rfl : (Zpb 12 2047).setIfInBounds 11 true = Zpb 12 4095) si_U (fun _ _ _ h => h) rfl rfl rfl rfl (fun _ _ _ _ _ => (Zra rfl (T.e 0 rfl))) ?_; clear T ac; intro ac T
    refine Zgd (by kernel_rfl) ?_
    replace T := T.pick [0, 14, 15, 16, 17, 18, 19, 20, 21, 22, 23, 24] rfl
    refine nm_then ?_
    refine wp_region_lit ?_
    refine Zg2 T (Zq (Zrm rfl (T.e 5 rfl))) rfl (Zm 1 rfl rfl) rfl ?_; clear T ac; intro ac T
    refine Zl2 ?_
    refine ow_bs (e := 3) [.int .i64 (min 600 (Int.tdiv (roomW way (b.a0 + (j : Int)) b.full) (air + (totL x.l rlu6))))] M T rfl rfl rfl rfl (.cons (T.e 0 rfl) .nil) (fun _ => by kernel_rfl) ?_; clear M T; intro g7 wc ac M T
    refine Zl2 ?_
    refine ow_app (((g7, .cells [.int .i64 (min 600 (Int.tdiv (roomW way (b.a0 + (j : Int)) b.full) (air + (totL x.l rlu6))))]) :: (g6, .cells [.int .i64 x.a, .int .i64 x.b, .int .i64 x.c, .int .i64 x.d]) :: (g2, .cells [.int .i64 0, .int .i64 0]) :: (g1, .cells [.int .i64 b.full, .int .i64 b.a0, .int .i64 b.a1, .slice A b.cs.length c, .slice D b.ts.length d]) :: (Iku5 ++ Icu6))) Try.info3 hsl4 M (by first | rfl | simp) T rfl rfl rfl rfl Try.underlying28 rfl rfl rfl (by omega) (T.e 2 rfl) (T.e 0 rfl) (Zne (i := 0) rfl) rfl rfl ?_; clear M T; intro ga1 cga1 wc ac M T
    refine l_q (v := (.slice (some ⟨ga1, 0, none⟩) (OM.length + 1) cga1)) (T.pick [0, 1, 2, 3, 4, 5, 6, 7, 8, 10, 11, 12, 13, 14, 15] rfl) rfl rfl rfl rfl (Zra rfl (T.e 0 rfl)) ?_; clear T ac; intro ac T
    refine wpList_nil ?_
    replace T := T.pick [0, 6, 7, 8, 9, 10, 11, 12, 13, 14, 15] rfl
    replace M := M.mask [true, false, true, true, true] rfl
    refine Znb ?_
    refine nm_then ?_
    refine wp_region_lit ?_
    refine Zg2 T (Zq (Zrm rfl (T.e 7 rfl))) rfl (fun _ T => Zq (rn_add rfl (T.e 0 rfl) evc (by omega))) rfl ?_; clear T ac; intro ac T
    refine l_q (v := (.int .i64 ((b.a0 + (j : Int)) + 1))) (T.pick [0, 1, 2, 3, 4, 5, 6, 7, 8, 10, 11, 12] rfl) rfl rfl rfl rfl (Zra rfl (T.e 0 rfl)) ?_; clear T ac; intro ac T
    replace T := T.pick [0, 3, 4, 5, 6, 7, 8, 9, 10, 11, 12] rfl
    refine Zln ?_
    have e9 : OM.length + 1 = (OM ++ [((min 600 (Int.tdiv (roomW way (b.a0 + (j : Int)) b.full) (air + (totL x.l rlu6)))) : Int)]).length := by simp
    have e8 : ((ic OM) ++ [.int .i64 (min 600 (Int.tdiv (roomW way (b.a0 + (j : Int)) b.full) (air + (totL x.l rlu6))))]) = ic (OM ++ [((min 600 (Int.tdiv (roomW way (b.a0 + (j : Int)) b.full) (air + (totL x.l rlu6)))) : Int)]) := by rw [← ic_snoc]
    rw [e9, e8] at M
    rw [e9, show b.a0 + (j : Int) + 1 = b.a0 + ((j + 1 : Nat) : Int) by omega] at T
    clear e9 e8
    exact ⟨_, by omega, j + 1, (OM ++ [((min 600 (Int.tdiv (roomW way (b.a0 + (j : Int)) b.full) (air + (totL x.l rlu6)))) : Int)]), _, _, [(ga1, .row 3 1 (OM ++ [((min 600 (Int.tdiv (roomW way (b.a0 + (j : Int)) b.full) (air + (totL x.l rlu6)))) : Int)]).length (ic (OM ++ [((min 600 (Int.tdiv (roomW way (b.a0 + (j : Int)) b.full) (air + (totL x.l rlu6)))) : Int)])) cga1)], rfl, (by omega), (by rw [holdR_succ, ← List.append_assoc, ← hM]; unfold holdJ; first | rw [if_pos (by omega)] | rw [if_neg (by omega)]), (by simp [hMl]; omega), (Sl.row _ _ _ _ _ _), T.pick [2, 3, 4, 5, 1, 6, 7, 0, 8, 9, 10] rfl, (Mem.swapI (I := [(ga1, .row 3 1 (OM ++ [((min 600 (Int.tdiv (roomW way (b.a0 + (j : Int)) b.full) (air + (totL x.l rlu6)))) : Int)]).length (ic (OM ++ [((min 600 (Int.tdiv (roomW way (b.a0 + (j : Int)) b.full) (air + (totL x.l rlu6)))) : Int)])) cga1)]) (L := ((g6, .cells [.int .i64 x.a, .int .i64 x.b, .int .i64 x.c, .int .i64 x.d]) :: (g2, .cells [.int .i64 0, .int .i64 0]) :: (g1, .cells [.int .i64 b.full, .int .i64 b.a0, .int .i64 b.a1, .slice A b.cs.length c, .slice D b.ts.length d]) :: (Iku5 ++ Icu6))) (M.permT [0, 1, 2, 3] 4 rfl rfl rfl rfl))⟩
   intro h8
   refine Zsk ?_
   refine wp_region_lit ?_
   refine Zg2 T (Zq (Zrm rfl (T.e 7 rfl))) rfl (Zm 3 rfl rfl) rfl ?_; clear T ac; intro ac T
   refine Zl2 ?_
   refine ow_bs (e := 3) [.int .i64 600] M T rfl rfl rfl rfl (.cons (T.e 0 rfl) .nil) (fun _ => by kernel_rfl) ?_; clear M T; intro g8 wc ac M T
   refine Zl2 ?_
   refine ow_app (((g8, .cells [.int .i64 600]) :: (g6, .cells [.int .i64 x.a, .int .i64 x.b, .int .i64 x.c, .int .i64 x.d]) :: (g2, .cells [.int .i64 0, .int .i64 0]) :: (g1, .cells [.int .i64 b.full, .int .i64 b.a0, .int .i64 b.a1, .slice A b.cs.length c, .slice D b.ts.length d]) :: (Iku5 ++ Icu6))) Try.info3 hsl4 M (by first | rfl | simp) T rfl rfl rfl rfl Try.underlying28 rfl rfl rfl (by omega) (T.e 2 rfl) (T.e 0 rfl) (Zne (i := 0) rfl) rfl rfl ?_; clear M T; intro ga2 cga2 wc ac M T
   refine l_q (v := (.slice (some ⟨ga2, 0, none⟩) (OM.length + 1) cga2)) (T.pick [0, 1, 2, 3, 4, 5, 6, 7, 8, 9, 10, 12, 13, 14, 15, 16, 17] rfl) rfl rfl rfl rfl (Zra rfl (T.e 0 rfl)) ?_; clear T ac; intro ac T
   refine wpList_nil ?_
   replace T := T.pick [0, 8, 9, 10, 11, 12, 13, 14, 15, 16, 17] rfl
   replace M := M.mask [true, false, true, true, true] rfl
   refine Znb ?_
   refine nm_then ?_
   refine wp_region_lit ?_
   refine Zg2 T (Zq (Zrm rfl (T.e 7 rfl))) rfl (fun _ T => Zq (rn_add rfl (T.e 0 rfl) evc (by omega))) rfl ?_; clear T ac; intro ac T
   refine l_q (v := (.int .i64 ((b.a0 + (j : Int)) + 1))) (T.pick [0, 1, 2, 3, 4, 5, 6, 7, 8, 10, 11, 12] rfl) rfl rfl rfl rfl (Zra rfl (T.e 0 rfl)) ?_; clear T ac; intro ac T
   replace T := T.pick [0, 3, 4, 5, 6, 7, 8, 9, 10, 11, 12] rfl
   refine Zln ?_
   have e9 : OM.length + 1 = (OM ++ [(600 : Int)]).length := by simp
   have e8 : ((ic OM) ++ [.int .i64 600]) = ic (OM ++ [(600 : Int)]) := by rw [← ic_snoc]
   rw [e9, e8] at M
   rw [e9, show b.a0 + (j : Int) + 1 = b.a0 + ((j + 1 : Nat) : Int) by omega] at T
   clear e9 e8
   exact ⟨_, by omega, j + 1, (OM ++ [(600 : Int)]), _, _, [(ga2, .row 3 1 (OM ++ [(600 : Int)]).length (ic (OM ++ [(600 : Int)])) cga2)], rfl, (by omega), (by rw [holdR_succ, ← List.append_assoc, ← hM]; unfold holdJ; first | rw [if_pos (by omega)] | rw [if_neg (by omega)]), (by simp [hMl]; omega), (Sl.row _ _ _ _ _ _), T.pick [2, 3, 4, 5, 1, 6, 7, 0, 8, 9, 10] rfl, (Mem.swapI (I := [(ga2, .row 3 1 (OM ++ [(600 : Int)]).length (ic (OM ++ [(600 : Int)])) cga2)]) (L := ((g6, .cells [.int .i64 x.a, .int .i64 x.b, .int .i64 x.c, .int .i64 x.d]) :: (g2, .cells [.int .i64 0, .int .i64 0]) :: (g1, .cells [.int .i64 b.full, .int .i64 b.a0, .int .i64 b.a1, .slice A b.cs.length c, .slice D b.ts.length d]) :: (Iku5 ++ Icu6))) (M.permT [0, 1, 2, 3] 4 rfl rfl rfl rfl))⟩
  intro h7
  obtain rfl : j = airN b := by omega
  refine wp_exit ?_
  refine Zet ?_
  refine Zet ?_
  refine ex_hit ?_
  refine Znb ?_
  refine nm_then ?_
  refine wp_region_lit ?_
  refine lq T (rn_add rfl (T.e 11 rfl) evc (by omega)) ?_; clear T ac; intro ac T
  refine l_q (v := (.int .i64 ((k : Int) + 1))) (T.pick [0, 1, 2, 3, 4, 5, 6, 7, 8, 9, 10, 11] rfl) rfl rfl rfl rfl (Zrm rfl (T.e 0 rfl)) ?_; clear T ac; intro ac T
  refine wpList_nil ?_
  replace T := T.pick [0, 3, 4, 5, 6, 7, 8, 11, 12] rfl
  replace M := M.mask [false, true, true] rfl
  replace M : Mem w noEx wc ((g2, .cells [.int .i64 0, .int .i64 0]) :: (g1, .cells [.int .i64 b.full, .int .i64 b.a0, .int .i64 b.a1, .slice A b.cs.length c, .slice D b.ts.length d]) :: (Iku5 ++ Icu6 ++ Ij)) := M
  refine nm_then ?_
  exact ⟨_, by omega, k + 1, OM, A4, c4, Ij, rfl, (by omega), (by rw [hM, holdT_succ hkx, ← hO]), (by rw [hMl, hOl, Nat.succ_mul]), hsl4, T.pick [1, 2, 3, 4, 5, 6, 7, 8, 0] rfl, (M.mask [true, true] rfl)⟩
 intro h6
 rw [List.take_of_length_le (by omega)] at hO
 have hk9 : k = lku5.length := by omega
 rw [hk9] at hOl
 have hp9 : 0 < lku5.length * airN b := Nat.mul_pos (by omega) (by unfold airN; omega)
 have hp8 : lku5.length * airN b ≤ 1296 * 201 := Nat.mul_le_mul (by omega) (by unfold airN; omega)
 obtain ⟨bO, oO, hSO⟩ := hsl.spV (by simp [ic_length])
 have SO9 := hSO w noEx
 refine wp_exit ?_
 refine Zet ?_
 refine Zet ?_
 refine ex_hit ?_
 refine nm_then ?_
 refine Zsr ?_
 refine lq T (Zrm rfl (T.e 5 rfl)) ?_; clear T ac; intro ac T
 refine Zl2 ?_
 refine Zoc (first := []) (cap := []) T rfl rfl rfl rfl evf (.cons (T.e 0 rfl) (.cons evf .nil)) Try.func81 rfl rfl ?_
 refine Calls.mono (spanI_any A3 c3 OL _ (SO9.rd M (.cons _ (.cons _ (Zsq _ _)))) (by omega) (by omega)) ?_
 clear T; rintro e wc ⟨rfl, hb⟩ ac T
 replace M := M.call hb; clear hb
 refine Zl2 ?_
 refine Zos M T rfl rfl (T.e 6 rfl) (T.e 0 rfl) rfl .head rfl (by simp) rfl (by kernel_rfl) ?_; clear M T; intro wc ac M T
 refine lq T (Zra rfl evc) ?_; clear T ac; intro ac T
 refine wpList_nil ?_
 replace T := T.pick [0, 7] rfl
 replace M := M.mask [true, false] rfl
 replace M : Mem w noEx wc ((g2, .cells [.int .i64 ((spn OL).1), .int .i64 ((spn OL).2)]) :: (Iku5 ++ Icu6 ++ Io)) := M
 refine Znr ?_
 subst hw9
 refine nqR_r M ?_; clear M; intro wc M
 refine rt_ct M T rfl (T.e 1 rfl) (T.e 0 rfl) (Zne (i := 0) rfl) rfl ?_
 have hke2 : holE b air way = 0 := by unfold holE; rw [hwr]; exact hke
 have e9 : holR b air way = spn OL := by unfold holR; rw [if_neg (by omega), hO, ← hlt]; rw [show rlu6 = cornL b.cs.length [] by assumption]
 rw [e9, hke2]
 exact ⟨rfl, M.below⟩
end
section
open Go.RowKit Go.Proofs.Ytoheddpnnjldgaa.Bq
end
open Go.RowKit
section
variable {P : Program} {op : Oper} {a : Act} {K : Act → World → Prop} {Q : Exit → Act → World → Prop} {w0 w : World} {ex : Nat → Prop} {L L' : List (Nat × BA)} {E : List (Nat × Value)} {df : List Deferred} {t nn : Nat}
theorem ow_stTK {α : Type} (enc : α → List Value) (z : Nat) (hz : ∀ x, (enc x).length = z) (f : Nat) {ty : TypeId} {x y : Operand} {A : Option Addr} {m b k : Nat} {v : Value} {ds : List Value} {l : List α} {p p' : α} {L0 I : List (Nat × BA)} (L1 : List (Nat × BA)) (M : Mem w0 ex w L0) (hsp : L0 = L1 ++ I) (hsw : Sw z A m b (l.flatMap enc) I) (T : TmD df a nn E) (ho : op.op = .store ty x y) (hd : op.dst = none)
   (hx : a.eval x = .pointer (some ⟨b, 0 + k * z + f, none⟩)) (hy : a.eval y = v) (hv : v.cells = ds.toArray) (hp : l[k]? = some p) (hkm : k < m) (he : enc p' = (enc p).take f ++ ds ++ (enc p).drop (f + ds.length)) (hf : f + ds.length ≤ z) (h1 : ds.all (·.oneCell') = true) (hi : (P.info? ty).map (·.size) = some ds.length)
   (h : ∀ I' w' a', Sw z A m b ((l.set k p').flatMap enc) I' → Mem w0 ex w' (L1 ++ I') → TmD df a' nn E → K a' w') : op.wp P a w K Q := by
 subst hsp
 obtain ⟨hl, h0 | ⟨rfl, ys, rfl⟩⟩ := hsw
 · omega
 · refine ow_stK enc z hz f (M.swapI (I := L1) (L := [(b, .cells (l.flatMap enc ++ ys))])) T ho hd hx hy hv hp he hf h1 hi (L' := (b, .cells ((l.set k p').flatMap enc ++ ys)) :: L1) .head fun w' a' M' T' => ?_
   refine h [(b, .cells ((l.set k p').flatMap enc ++ ys))] w' a' ⟨?_, .inr ⟨rfl, ys, rfl⟩⟩ (M'.swapI (I := [(b, .cells ((l.set k p').flatMap enc ++ ys))]) (L := L1)) T'
   rw [fm_length enc z hz, List.length_set, ← fm_length enc z hz]
   exact hl
end
section
open Go.RowKit Go.Proofs.Ytoheddpnnjldgaa.Bq
def setR (p : List Nt) (c : Int) : List Nt := p.set c.toNat { p.getD c.toNat nt0 with rest := true }
def restP (p : List Nt) (r : List Int) : List Nt := r.foldl setR p
theorem restP_succ {p : List Nt} {g : List Int} {k : Nat} {c : Int} (h : g[k]? = some c) : restP p (g.take (k + 1)) = setR (restP p (g.take k)) c := by
 unfold restP
 rw [List.take_add_one, h]
 simp
theorem restP_length (g : List Int) : ∀ p : List Nt, (restP p g).length = p.length := by
 induction g with
 | nil => intro p; rfl
 | cons c g ih =>
  intro p
  show (restP (setR p c) g).length = _
  rw [ih]
  unfold setR
  rw [List.length_set]
theorem setR_good {p : List Nt} (h : NtGood p) (c : Int) : NtGood (setR p c) := by
 unfold setR
 refine ⟨by rw [List.length_set]; exact h.n6, fun q hq => ?_⟩
 rcases Nat.lt_or_ge c.toNat p.length with hc | hc
 ·rcases List.mem_or_eq_of_mem_set hq with hq | rfl
  ·exact h.ok q hq
  ·have := h.ok p[c.toNat] (List.getElem_mem _)
   rw [List.getD_eq_getElem?_getD, List.getElem?_eq_getElem hc]
   exact this
 ·rw [List.set_eq_of_length_le hc] at hq
  exact h.ok q hq
theorem NtGood.rest {p : List Nt} (h : NtGood p) (g : List Int) : NtGood (restP p g) := by
 induction g generalizing p with
 | nil => exact h
 | cons c g ih => exact ih (setR_good h c)
def rsL (b : Bw) (p : List Nt) : List Int := if knownE b [pieceE p] ≠ 0 then [] else fewL p.length fun r => fineB b (restP p r) (sums0 b)
def rsE (b : Bw) (p : List Nt) : Int := if knownE b [pieceE p] ≠ 0 then knownE b [pieceE p] else fewE p.length fun r => fineB b (restP p r) (sums0 b)
theorem rests1_any (b : Bw) (A : Option Addr) (c : Nat) (D : Option Addr) (d : Nat) (p : List Nt) (P : Option Addr) (pc : Nat) (l : List L4) (B : Option Addr) (lc : Nat) (G : Option Addr) (n : Nat) (g : List Int) (g1 g2 g3 : Nat)  (w : World) (hP9 : Rd w w.heap.size 4 P p.length (ntc p)) (hG : Rd w w.heap.size 1 G g.length (ic g)) (hL : Rd w w.heap.size 4 B l.length (l4c l)) (nL : l.length ≤ 1000000) (hl4 : ∀ x ∈ l, x.ok) (h4 : b.cs.length ≤ 4) (nG : g.length ≤ 1000) (hg : ∀ c ∈ g, 0 ≤ c ∧ c < (p.length : Int)) (hgp : NtGood p) (hgb : BwAir b) (q1 : Bk w g1 #[.slice P p.length pc]) (q2 : Bk w g2 #[.int .i64 b.full, .int .i64 b.a0, .int .i64 b.a1, .slice A b.cs.length c, .slice D b.ts.length d]) (q3 : Bk w g3 #[.slice B l.length lc])  :
   Calls Try.prog 89 #[.slice G g.length n, .pointer (some ⟨g1, 0, none⟩), .pointer (some ⟨g2, 0, none⟩), .pointer (some ⟨g3, 0, none⟩)] w fun e w' => e = .returned (.bool (fineB b (restP p g) (sumsB (cornL b.cs.length []) l))) ∧ Below w.heap.size w w' := by
 obtain ⟨bP, oP, SP⟩ := Sp.old hP9
 obtain ⟨bG, oG, SG⟩ := Sp.old hG
 obtain ⟨bL, oL, SL⟩ := Sp.old hL
 have hp6 := hgp.n6
 refine Zpx noEx Try.func89 rfl 28 rfl [.slice G g.length n, .pointer (some ⟨g1, 0, none⟩), .pointer (some ⟨g2, 0, none⟩), .pointer (some ⟨g3, 0, none⟩)] rfl rfl (Mem.init w _) ?_
 intro ac wc T M
 refine Zsr ?_
 refine lq T (Zra rfl evc) ?_; clear T ac; intro ac T
 replace T := T.pick [1, 2, 3, 4] rfl
 refine Zln ?_
 refine Zsr ?_
 refine lq T (Zro (Mem.old M q1 (fun h => h)) rfl (T.e 1 rfl) rfl) ?_; clear T ac; intro ac T
 refine Zl2 ?_
 refine Zoc (first := []) (cap := []) T rfl rfl rfl rfl evf (.cons (T.e 0 rfl) .nil) Try.func90 rfl rfl ?_
 refine Calls.mono (cloneN_any P pc p _ (SP.rd M (Zz9 _)) (by omega)) ?_
 clear T; rintro e wc ⟨Acu1, ccu1, Icu1, rfl, hclu1, N⟩ ac T
 obtain ⟨LX, hLX⟩ : ∃ q : List Nt, q = p := ⟨_, rfl⟩
 rw [← hLX] at hclu1
 replace M := (M.join N).swapI
 clear N
 replace M : Mem w noEx wc (Icu1) := M
 obtain ⟨bX, IX, hswX, M⟩ := hclu1.sw (L := []) M
 replace M : Mem w noEx wc (IX) := M
 have SX := hswX.sp (w := w) (ex := noEx)
 have hLl9 : LX.length = p.length := by rw [hLX]
 rw [← hLl9] at T
 refine lq T (Zra rfl (T.e 0 rfl)) ?_; clear T ac; intro ac T
 replace T := T.pick [0, 3, 5, 6] rfl
 refine Zln ?_
 refine wp_seq ?_
 refine Zsr ?_
 refine Zg3 T (Zq (Zrm rfl (T.e 1 rfl))) rfl (Zl Try.underlying28 0 rfl rfl) rfl (fun _ T => Zq (Zrm rfl evc)) rfl ?_; clear T ac; intro ac T
 replace T := T.pick [0, 1, 2, 3, 5, 6] rfl
 refine Zln ?_
 refine wp_block ?_
 refine wp_loop_n (fun mz ac wc => ∃ (k : Nat) (Lq : List Nt) (Iw : List (Nat × BA)), mz = g.length - k ∧ (k ≤ g.length) ∧ (Lq = restP p (g.take k)) ∧ (Lq.length = LX.length) ∧ (Sw 4 Acu1 LX.length bX (ntc Lq) Iw) ∧ Tm ac 28 [(2, .pointer (some ⟨g2, 0, none⟩)), (3, .pointer (some ⟨g3, 0, none⟩)), (6, .slice Acu1 LX.length ccu1), (11, .slice G g.length n), (12, .int .i64 ((g.length : Nat) : Int)), (13, .int .i64 (k : Int))] ∧ Mem w noEx wc (Iw)) ?_ ?_
 ·exact ⟨_, 0, LX, IX, rfl, (Nat.zero_le _), hLX, rfl, hswX, T.pick [4, 5, 3, 2, 1, 0] rfl, M.mask [] rfl⟩
 clear T M
 rintro mz ac wc ⟨k, Lq, Iw, hmm1, hk, hL, hLl, hsw, T, M⟩
 have Sq := hsw.sp (w := w) (ex := noEx)
 refine Zsr ?_
 refine lq T (rn_lss rfl (T.e 5 rfl) (T.e 4 rfl)) ?_; clear T ac; intro ac T
 refine Zln ?_
 refine wp_seq ?_
 refine wp_if (T.e 0 rfl) ?_ ?_
 ·intro h1
  obtain ⟨c, hkc, -⟩ := ic_next (l := g) (k := k) (by omega)
  have hc9 := hg c (List.mem_of_getElem? hkc)
  obtain ⟨q, hkq, -⟩ := ntc_next (l := Lq) (k := c.toNat) (by omega)
  refine Zsk ?_
  refine wp_seq ?_
  refine wp_block ?_
  refine Zsr ?_
  refine Zg3 T (Zq (Zri (size := 1) k rfl (T.e 4 rfl) (T.e 6 rfl) ⟨_, Try.underlying28, by kernel_rfl⟩ rfl (by omega) (SG.at0 (by omega)))) rfl (fun _ T => Zq (rn_cell (Sp.ic0 SG M (Zz9 _) hkc) rfl (T.e 0 rfl))) rfl (Za 0 rfl rfl) rfl ?_; clear T ac; intro ac T
  replace T := T.pick [0, 4, 5, 6, 7, 8, 9] rfl
  refine Zln ?_
  refine wp_region_lit ?_
  refine Zg4 T (Zq (Zrm rfl (T.e 3 rfl))) rfl (Zm 1 rfl rfl) rfl (fun _ T => Zq (Zri (size := 4) c.toNat rfl (T.e 1 rfl) (T.e 0 rfl) ⟨_, Try.underlying44, by kernel_rfl⟩ (by omega) (by omega) (Sq.at0 (by omega)))) rfl (Zf 3 0 rfl rfl) rfl ?_; clear T ac; intro ac T
  refine Zl2 ?_
  refine ow_stTK ntcE 4 (fun _ => rfl) 3 (p' := ({ q with rest := true } : Nt)) ([]) M (by first | rfl | simp) hsw T rfl rfl (T.e 0 rfl) evc rfl hkq (by omega) rfl (Nat.le_of_ble_eq_true rfl) rfl rfl ?_; clear M T; intro Jw1 wc ac hsw1 M T
  replace M : Mem w noEx wc (Jw1) := M
  obtain ⟨lo1, hlo1⟩ : ∃ qq9 : List Nt, qq9 = Lq.set c.toNat ({ q with rest := true }) := ⟨_, rfl⟩
  replace hsw1 : Sw 4 Acu1 LX.length bX (ntc lo1) Jw1 := by rw [hlo1]; exact hsw1
  have lhlo1 : lo1.length = Lq.length := by rw [hlo1, List.length_set]
  have Ss1 := hsw1.sp (w := w) (ex := noEx)
  refine wpList_nil ?_
  replace T := T.pick [5, 6, 7, 8, 9, 10] rfl
  refine Znb ?_
  refine nm_then ?_
  refine wp_region_lit ?_
  refine lq T (rn_add rfl (T.e 5 rfl) evc (by omega)) ?_; clear T ac; intro ac T
  refine l_q (v := (.int .i64 ((k : Int) + 1))) (T.pick [0, 1, 2, 3, 4, 5] rfl) rfl rfl rfl rfl (Zrm rfl (T.e 0 rfl)) ?_; clear T ac; intro ac T
  replace T := T.pick [0, 2, 3, 4, 5, 6] rfl
  refine Zln ?_
  exact ⟨_, by omega, k + 1, lo1, Jw1, rfl, (by omega), (by rw [hlo1, restP_succ hkc, ← hL]; unfold setR; rw [List.getD_eq_getElem?_getD, hkq]; rfl), (by omega), hsw1, T.pick [1, 2, 3, 4, 5, 0] rfl, (M.mask [] rfl)⟩
 intro h1
 rw [List.take_of_length_le (by omega)] at hL
 rw [← hLl] at T Sq
 have hLq6 : Lq.length ≤ 6 := by rw [hLl, hLl9]; exact hgp.n6
 refine wp_exit ?_
 refine Zet ?_
 refine Zet ?_
 refine ex_hit ?_
 refine nm_then ?_
 refine Zsr ?_
 refine Zg3 T (Zq (Zrr (Mem.old M q2 (fun h => h)) rfl (T.e 1 rfl) rfl)) rfl (fun _ T => Zq (Zro (Mem.old M q3 (fun h => h)) rfl (T.e 3 rfl) rfl)) rfl (Zm 5 rfl rfl) rfl ?_; clear T ac; intro ac T
 refine Zl2 ?_
 refine Zoc (first := []) (cap := []) T rfl rfl rfl rfl evf (.cons (T.e 2 rfl) (.cons (T.e 1 rfl) (.cons (T.e 0 rfl) (.cons evc .nil)))) Try.func85 rfl rfl ?_
 refine Calls.mono (playedBy_any b A c D d l B lc Lq Acu1 ccu1 none 0 [] _ (SL.rd M (Zz9 _)) (by omega) hl4 h4 (⟨by simp [ic], fun h => absurd h (by simp)⟩) (by first | omega | simp)) ?_
 clear T; rintro e wc ⟨Apu2, cpu2, Ipu2, rfl, hclu2, N⟩ ac T
 obtain ⟨svu2, hsvu2⟩ : ∃ q, q = sumsB (cornL b.cs.length []) l := ⟨_, rfl⟩
 rw [← hsvu2] at hclu2 T
 have hssvu2 : ∀ s ∈ svu2, 0 ≤ s ∧ s ≤ 20 := by rw [hsvu2]; exact sums_bd hl4 h4
 have hnsvu2 : svu2.length ≤ l.length := by rw [hsvu2]; exact sumsB_len _
 obtain ⟨bpu2, opu2, Spu2⟩ := hclu2.spV (by rw [pdc_length, List.length_map])
 replace Spu2 := Spu2 w noEx
 replace M := (M.join N).swapI
 clear N
 replace M : Mem w noEx wc ((Iw ++ Ipu2)) := M
 refine lq T (Zrm rfl (T.e 7 rfl)) ?_; clear T ac; intro ac T
 refine Zl2 ?_
 refine Zoc (first := []) (cap := []) T rfl rfl rfl rfl evf (.cons (T.e 1 rfl) (.cons (T.e 0 rfl) .nil)) Try.func84 rfl rfl ?_
 refine Calls.mono (fine_any b A c D d Lq Acu1 ccu1 svu2 Apu2 cpu2 _ (Sq.rd M (subL (List.Sublist.refl _))) (Spu2.rd M (Zsq _ _)) (by omega) (by rw [hL]; exact hgp.rest g) hgb hssvu2) ?_
 clear T; rintro e wc ⟨rfl, hb⟩ ac T
 replace M := M.call hb; clear hb
 refine lq T (Zra rfl (T.e 0 rfl)) ?_; clear T ac; intro ac T
 replace T := T.pick [0] rfl
 refine Zln ?_
 refine wp_ret ?_
 refine rt_1 T rfl (T.e 0 rfl) ?_
 rw [← hsvu2, ← hL]
 exact ⟨rfl, M.below⟩
set_option maxHeartbeats 4000000 in
theorem Rests_any {J : Nat → Option Obj} (hP : FuncsOk Try.prog) (b : Bw) (A : Option Addr) (c : Nat) (D : Option Addr) (d : Nat) (p : List Nt) (P : Option Addr) (pc : Nat)  (w : World) (hA : Rd w w.heap.size 2 A b.cs.length (rc b.cs)) (hD : Rd w w.heap.size 4 D b.ts.length (lkc b.ts)) (hop : ∀ t ∈ b.ts, Rd w w.heap.size 1 t.A t.op.length (ic t.op)) (nA : b.cs.length ≤ 1000) (nD : b.ts.length ≤ 1000) (nop : ∀ t ∈ b.ts, t.op.length ≤ 1000) (hP9 : Rd w w.heap.size 4 P p.length (ntc p)) (nP : p.length ≤ 1000)  :
   CallsB Try.prog J 28 #[.agg #[.int .i64 b.full, .int .i64 b.a0, .int .i64 b.a1, .slice A b.cs.length c, .slice D b.ts.length d], .slice P p.length pc] w (LsEPost (rsL b p) (rsE b p) w) := by
 obtain ⟨bA, oA, SA⟩ := Sp.old hA
 obtain ⟨bD, oD, SD⟩ := Sp.old hD
 obtain ⟨bP, oP, SP⟩ := Sp.old hP9
 refine px_enterB hP noEx Try.func28 rfl 25 rfl [.agg #[.int .i64 b.full, .int .i64 b.a0, .int .i64 b.a1, .slice A b.cs.length c, .slice D b.ts.length d], .slice P p.length pc] rfl rfl (Mem.init w _) ?_
 intro ac wc T M
 refine wpB_seq hP ?_
 refine b_lone hP w fun T9 => ?_
 replace M := M.tp T9 0 0
 replace SA := SA.tp T9 0
 replace SD := SD.tp T9 0
 replace SP := SP.tp T9 0
 refine wp_region_lit ?_
 refine Zl2 ?_
 refine Zob M T rfl rfl rfl rfl (T.e 0 rfl) rfl ?_; clear M T; intro g1 wc ac M T
 refine Zl2 ?_
 refine Zob M T rfl rfl rfl rfl (T.e 2 rfl) rfl ?_; clear M T; intro g2 wc ac M T
 refine Zg2 T (Zq (Zra rfl evc)) rfl (Zc rfl) rfl ?_; clear T ac; intro ac T
 refine wpList_nil ?_
 refine nqR_n M ?_; clear M; intro wc M
 replace SA := SA.pt
 replace SD := SD.pt
 replace SP := SP.pt
 replace T := T.pick [2, 3] rfl
 refine nm_then ?_
 refine wpB_seq hP ?_
 refine gB_start2 hP M (M.mask [true, true] rfl) 11 (by kernel_rfl) rfl (by kernel_rfl) ?_
 clear M; intro wc M
 refine gB_have (fun ac wc => ∃ (Akur1_4 : Option Addr), ∃ (ckur1_4 : Nat), ∃ (Ikur1_4 : List (Nat × BA)), ∃ (lkur1_4 : List L4), ∃ (ekur1_4 : Int), ∃ (bkur1_4 : Nat), ∃ (okur1_4 : Nat), (lkur1_4 = knownL b [(pieceE p)]) ∧ (ekur1_4 = knownE b [(pieceE p)]) ∧ (Sp w noEx Ikur1_4 Akur1_4 lkur1_4.length 4 bkur1_4 okur1_4 (l4c lkur1_4)) ∧ ∃ (gr1_8 gr1_3 : Nat), Tm ac 25 [(6, .pointer (some ⟨gr1_8, 0, none⟩)), (15, .int .i64 ekur1_4), (14, .slice Akur1_4 lkur1_4.length ckur1_4), (8, .tuple #[.slice Akur1_4 lkur1_4.length ckur1_4, .int .i64 ekur1_4]), (13, .tuple #[.slice Akur1_4 lkur1_4.length ckur1_4, .int .i64 ekur1_4]), (12, .slice (some ⟨gr1_3, 0, none⟩) 1 1), (11, .int .i64 (pieceE p)), (10, .slice P p.length pc), (9, .agg #[.int .i64 b.full, .int .i64 b.a0, .int .i64 b.a1, .slice A b.cs.length c, .slice D b.ts.length d]), (3, .pointer (some ⟨g2, 0, none⟩)), (2, .pointer (some ⟨g1, 0, none⟩))] ∧ Mem w noEx wc ((gr1_8, .cells [.slice none 0 0]) :: (gr1_3, .cells [.int .i64 (pieceE p)]) :: (g2, .cells [.slice P p.length pc]) :: (g1, .cells [.int .i64 b.full, .int .i64 b.a0, .int .i64 b.a1, .slice A b.cs.length c, .slice D b.ts.length d]) :: Ikur1_4)) (Zpb 11 511) 2 ?_ ?_
 ·clear T M
  rintro ac wc ⟨Akur1_4, ckur1_4, Ikur1_4, lkur1_4, ekur1_4, bkur1_4, okur1_4, hlkur1_4, hekur1_4, SLkur1_4, gr1_8, gr1_3, T, M⟩
  refine gB_w (i := 9) (by kernel_rfl) rfl (by kernel_rfl : (Zpb 11 511).setIfInBounds 9 true = Zpb 11 1023) rfl ?_; intro T9 K hK
  replace M := M.tp T9 0 0
  replace SA := SA.tp T9 0
  replace SD := SD.tp T9 0
  replace SLkur1_4 := SLkur1_4.tp T9 0
  replace SP := SP.tp T9 0
  refine Zos M T rfl rfl (T.e 0 rfl) (T.e 2 rfl) rfl .head rfl (by simp) rfl (by kernel_rfl) ?_; clear M T; intro wc ac M T
  refine gB_out hK M ?_; clear hK K M; intro wc M
  replace SA := SA.pt
  replace SD := SD.pt
  replace SLkur1_4 := SLkur1_4.pt
  replace SP := SP.pt
  refine ⟨(M.perm [2, 3] rfl rfl), ?_⟩
  refine gB_q (T := T) (i := 10) rfl (by kernel_rfl) (by kernel_rfl : (Zpb 11 1023).setIfInBounds 10 true = Zpb 11 2047) (fun _ => si_U) rfl rfl rfl rfl (fun _ _ _ _ _ _ => (Zra rfl (T.e 1 rfl))) ?_; clear T ac; intro ac T
  refine gB_done (by kernel_rfl) M ?_; clear M; intro wc M
  replace T := T.pick [0, 1, 10, 11] rfl
  replace M := M.mask [true, false, true, true] rfl
  refine nm_then ?_
  refine b_lone hP w fun T9 => ?_
  replace M := M.tp T9 0 0
  replace SA := SA.tp T9 0
  replace SD := SD.tp T9 0
  replace SLkur1_4 := SLkur1_4.tp T9 0
  replace SP := SP.tp T9 0
  generalize hw9 : Bq.tp w T9 0 = w at M SA SD SLkur1_4 SP
  generalize Bq.tp wc T9 0 = wc at M ⊢
  refine wp_seq ?_
  refine Zsr ?_
  refine Zg2 T (Zq (Zrm rfl (T.e 0 rfl))) rfl (fun _ T => Zq (rn_neq rfl (T.e 0 rfl) evc)) rfl ?_; clear T ac; intro ac T
  replace T := T.pick [0, 2, 3, 4, 5] rfl
  refine Zln ?_
  refine wp_ifn (T.e 0 rfl) ?_ ?_
  ·intro h1
   refine Zsr ?_
   refine Zg3 T (Zq (Zrm rfl (T.e 1 rfl))) rfl (Zc rfl) rfl (Za 1 rfl rfl) rfl ?_; clear T ac; intro ac T
   refine wpList_nil ?_
   replace T := T.pick [0, 1] rfl
   replace M := M.mask [false, false, false] rfl
   refine Znr ?_
   refine Zrt ?_
   subst hw9
   refine nqR_r M ?_; clear M; intro wc M
   refine rt_2 T rfl (T.e 1 rfl) (T.e 0 rfl) ?_
   have hke : knownE b [pieceE p] ≠ 0 := by rw [← hekur1_4]; omega
   have e9 : rsL b p = [] ∧ rsE b p = ekur1_4 := by unfold rsL rsE; rw [if_pos hke, if_pos hke, hekur1_4]; exact ⟨rfl, rfl⟩
   rw [e9.1, e9.2]
   exact ⟨none, 0, [], rfl, Nat.le_refl _, ⟨0, 0, fun w1 ex => Sp.nil⟩, M.sub (Zz9 _)⟩
  intro h1
  have hke : knownE b [pieceE p] = 0 := by rw [← hekur1_4]; omega
  obtain ⟨hgood, hf9, hlt, hl4, hlp, hln⟩ := known_ok nop hke
  rw [← hlkur1_4] at hlt hl4 hlp hln
  have hgp := pieceE_good (first1 hf9)
  have hgb := hgood.airs
  have h4 := hgood.n4
  refine Zsk ?_
  refine Zsr ?_
  refine Zg3 (v3 := (.func (.func 89) #[] #[.pointer (some ⟨g2, 0, none⟩), .pointer (some ⟨g1, 0, none⟩), .pointer (some ⟨gr1_8, 0, none⟩)])) T (Zq (Zro (Mem.nth M 1 rfl) rfl (T.e 3 rfl) rfl)) rfl (Zl Try.underlying44 0 rfl rfl) rfl (fun _ T => Zq (rn_makeFunc rfl .nil (.cons (T.e 5 rfl) (.cons (T.e 6 rfl) (.cons (T.e 4 rfl) .nil))))) rfl ?_; clear T ac; intro ac T
  refine Zl2 ?_
  have hP8 := SP.rd M (Zz9 _)
  have hL8 := SLkur1_4.rd M (.cons _ (.cons _ (.cons _ (List.Sublist.refl _))))
  have q5 := M.nth 1 rfl
  have q6 := M.nth 2 rfl
  have q7 := M.nth 0 rfl
  refine Zoc (first := []) (cap := []) T rfl rfl rfl rfl evf (.cons (T.e 1 rfl) (.cons (T.e 0 rfl) .nil)) Try.func88 rfl rfl ?_
  refine Calls.mono (fewest_any p.length 89 _ [.pointer (some ⟨g2, 0, none⟩), .pointer (some ⟨g1, 0, none⟩), .pointer (some ⟨gr1_8, 0, none⟩)] (fun r => fineB b (restP p r) (sumsB (cornL b.cs.length []) lkur1_4)) _ (by omega) Try.func89 rfl rfl (fun x W hW hR hx => rests1_any b A c D d p P pc lkur1_4 Akur1_4 ckur1_4 x.A x.c x.l g2 g1 gr1_8 W ((hP8.below hW).more hW.size) hR ((hL8.below hW).more hW.size) (by omega) hl4 h4 (by have := hx.2; omega) hx.1 hgp hgb (q5.below hW) (q6.below hW) (q7.below hW))) ?_
  clear T; rintro e wc ⟨Awu1, cwu1, Iwu1, rfl, hwcu1, ⟨bwu1, owu1, hSwu1⟩, N⟩ ac T
  replace M := (M.join N).swapI
  clear N
  replace M : Mem w noEx wc ((gr1_8, .cells [.slice Akur1_4 lkur1_4.length ckur1_4]) :: (g2, .cells [.slice P p.length pc]) :: (g1, .cells [.int .i64 b.full, .int .i64 b.a0, .int .i64 b.a1, .slice A b.cs.length c, .slice D b.ts.length d]) :: (Ikur1_4 ++ Iwu1)) := M
  refine Zg4 T (Zq (Zre rfl (T.e 0 rfl) rfl)) rfl (Ze 1 rfl rfl rfl) rfl (Za 1 rfl rfl) rfl (Za 1 rfl rfl) rfl ?_; clear T ac; intro ac T
  refine wpList_nil ?_
  replace T := T.pick [0, 1] rfl
  replace M := M.mask [false, false, false] rfl
  refine Znr ?_
  subst hw9
  refine nqR_r M ?_; clear M; intro wc M
  refine rt_2 T rfl (T.e 1 rfl) (T.e 0 rfl) ?_
  have e9 : rsL b p = fewL p.length (fun r => fineB b (restP p r) (sumsB (cornL b.cs.length []) lkur1_4)) ∧ rsE b p = fewE p.length (fun r => fineB b (restP p r) (sumsB (cornL b.cs.length []) lkur1_4)) := by unfold rsL rsE; rw [if_neg (by omega), if_neg (by omega), hlt]; exact ⟨rfl, rfl⟩
  rw [e9.1, e9.2]
  exact ⟨_, _, Iwu1, rfl, hwcu1, ⟨_, _, hSwu1⟩, M.sub ((Zsq _ _))⟩
 intro H2
 refine gB_have (fun ac wc => ∃ (gr1_8 gr1_3 : Nat), Tm ac 25 [(6, .pointer (some ⟨gr1_8, 0, none⟩)), (12, .slice (some ⟨gr1_3, 0, none⟩) 1 1), (11, .int .i64 (pieceE p)), (10, .slice P p.length pc), (9, .agg #[.int .i64 b.full, .int .i64 b.a0, .int .i64 b.a1, .slice A b.cs.length c, .slice D b.ts.length d]), (3, .pointer (some ⟨g2, 0, none⟩)), (2, .pointer (some ⟨g1, 0, none⟩))] ∧ Mem w noEx wc [(gr1_8, .cells [.slice none 0 0]), (gr1_3, .cells [.int .i64 (pieceE p)]), (g2, .cells [.slice P p.length pc]), (g1, .cells [.int .i64 b.full, .int .i64 b.a0, .int .i64 b.a1, .slice A b.cs.length c, .slice D b.ts.length d])]) (Zpb 11 271) 6 ?_ ?_
 ·clear T M
  rintro ac wc ⟨gr1_8, gr1_3, T, M⟩
  refine gB_one (i := 4) (by kernel_rfl) (by kernel_rfl : (Zpb 11 271).setIfInBounds 4 true = Zpb 11 287) (opB_call (first := []) (cap := []) T rfl rfl rfl rfl rfl evf (.cons (T.e 4 rfl) (.cons (T.e 1 rfl) .nil)) Try.func77 rfl rfl (known_any hP b A c D d (some ⟨gr1_3, 0, none⟩) 1 [(pieceE p)] _ (SA.rd M (Zz9 _)) (SD.rd M (Zz9 _)) (fun t ht => M.rd (hop t ht) (Nat.le_refl _)) nA nD nop (M.rdOwn (Zne (i := 1) rfl) rfl rfl) (by first | omega | simp)) ?_ rfl)
  clear T
  rintro e wc ⟨Akur1_4, ckur1_4, Ikur1_4, rfl, hckur1_4, N⟩
  refine ⟨_, rfl, ?_⟩
  intro ac T
  obtain ⟨lkur1_4, hlkur1_4⟩ : ∃ q, q = knownL b [(pieceE p)] := ⟨_, rfl⟩
  obtain ⟨ekur1_4, hekur1_4⟩ : ∃ q, q = knownE b [(pieceE p)] := ⟨_, rfl⟩
  rw [← hlkur1_4] at hckur1_4 T
  rw [← hekur1_4] at T
  obtain ⟨bkur1_4, okur1_4, hSkur1_4⟩ := hckur1_4.spV (l4c_length _)
  have SLkur1_4 := hSkur1_4 w noEx
  clear hSkur1_4
  replace M := (M.join N).swapI
  clear N
  replace M : Mem w noEx wc ((gr1_8, .cells [.slice none 0 0]) :: (gr1_3, .cells [.int .i64 (pieceE p)]) :: (g2, .cells [.slice P p.length pc]) :: (g1, .cells [.int .i64 b.full, .int .i64 b.a0, .int .i64 b.a1, .slice A b.cs.length c, .slice D b.ts.length d]) :: Ikur1_4) := M
  refine ⟨(M.perm [2, 3] rfl rfl), ?_⟩
  refine gB_q (T := T) (i := 5) rfl (by kernel_rfl) (by kernel_rfl : (Zpb 11 287).setIfInBounds 5 true = Zpb 11 319) (fun _ => si_U) rfl rfl rfl rfl (fun _ _ _ _ _ _ => (Zrm rfl (T.e 0 rfl))) ?_; clear T ac; intro ac T
  refine gB_q (T := T) (i := 6) rfl (by kernel_rfl) (by kernel_rfl : (Zpb 11 319).setIfInBounds 6 true = Zpb 11 383) (fun _ => si_U) rfl rfl rfl rfl (fun _ _ _ _ _ _ => (Zre rfl (T.e 0 rfl) rfl)) ?_; clear T ac; intro ac T
  refine gB_q (T := T) (i := 7) rfl (by kernel_rfl) (by kernel_rfl : (Zpb 11 383).setIfInBounds 7 true = Zpb 11 511) (fun _ => si_U) rfl rfl rfl rfl (fun _ _ _ _ _ _ => (Zre rfl (T.e 1 rfl) rfl)) ?_; clear T ac; intro ac T
  exact H2 _ _ ⟨Akur1_4, ckur1_4, Ikur1_4, lkur1_4, ekur1_4, bkur1_4, okur1_4, hlkur1_4, hekur1_4, SLkur1_4, gr1_8, gr1_3, T.pick [4, 0, 1, 2, 3, 5, 6, 7, 8, 9, 10] rfl, M⟩
 intro H1
 refine gB_have (fun ac wc => ∃ (gr1_8 : Nat), Tm ac 25 [(6, .pointer (some ⟨gr1_8, 0, none⟩)), (11, .int .i64 (pieceE p)), (10, .slice P p.length pc), (9, .agg #[.int .i64 b.full, .int .i64 b.a0, .int .i64 b.a1, .slice A b.cs.length c, .slice D b.ts.length d]), (3, .pointer (some ⟨g2, 0, none⟩)), (2, .pointer (some ⟨g1, 0, none⟩))] ∧ Mem w noEx wc [(gr1_8, .cells [.slice none 0 0]), (g2, .cells [.slice P p.length pc]), (g1, .cells [.int .i64 b.full, .int .i64 b.a0, .int .i64 b.a1, .slice A b.cs.length c, .slice D b.ts.length d])]) (Zpb 11 263) 7 ?_ ?_
 ·clear T M
  rintro ac wc ⟨gr1_8, T, M⟩
  refine gB_w (i := 3) (by kernel_rfl) rfl (by kernel_rfl : (Zpb 11 263).setIfInBounds 3 true = Zpb 11 271) rfl ?_; intro T9 K hK
  replace M := M.tp T9 0 0
  replace SA := SA.tp T9 0
  replace SD := SD.tp T9 0
  replace SP := SP.tp T9 0
  refine ow_bs (e := 39) [.int .i64 (pieceE p)] M T rfl rfl rfl rfl (.cons (T.e 1 rfl) .nil) (fun _ => by kernel_rfl) ?_; clear M T; intro gr1_3 wc ac M T
  refine gB_out hK M ?_; clear hK K M; intro wc M
  replace SA := SA.pt
  replace SD := SD.pt
  replace SP := SP.pt
  refine ⟨(M.mask [false, false, true, true] rfl), ?_⟩
  exact H1 _ _ ⟨gr1_8, gr1_3, T.pick [1, 0, 2, 3, 4, 5, 6] rfl, M.perm [1, 0, 2, 3] rfl rfl⟩
 intro H0
 refine gB_q (T := T) (i := 0) rfl (by kernel_rfl) (by kernel_rfl : (Zpb 11 0).setIfInBounds 0 true = Zpb 11 1) (fun _ => si_U) rfl rfl rfl rfl (fun T9 B w' hD hl hS => (Zrr (Mem.nth (show Mem (Bq.tp w T9 0) noEx w' _ from hS) 1 rfl) rfl (T.e 1 rfl) rfl)) ?_; clear T ac; intro ac T
 refine gB_q (T := T) (i := 1) rfl (by kernel_rfl) (by kernel_rfl : (Zpb 11 1).setIfInBounds 1 true = Zpb 11 3) (fun _ => si_U) rfl rfl rfl rfl (fun T9 B w' hD hl hS => (Zro (Mem.nth (show Mem (Bq.tp w T9 0) noEx w' _ from hS) 0 rfl) rfl (T.e 1 rfl) rfl)) ?_; clear T ac; intro ac T
 refine gB_m2 (i := 2) (j := 8) (by kernel_rfl) ?_ ?_
 ·refine gB_i rfl (by kernel_rfl : (Zpb 11 3).setIfInBounds 2 true = Zpb 11 7) rfl ?_; intro T9 K hK
  replace M := M.tp T9 0 0
  replace SA := SA.tp T9 0
  replace SD := SD.tp T9 0
  replace SP := SP.tp T9 0
  refine Zoc (first := []) (cap := []) T rfl rfl rfl rfl evf (.cons (T.e 0 rfl) .nil) Try.func40 rfl rfl ?_
  refine Calls.mono (piece_any p P pc _ (SP.rd M (Zz9 _)) (by omega)) ?_
  clear T; rintro e wc ⟨rfl, hb⟩ ac T
  replace M := M.call hb; clear hb
  refine gB_out hK M ?_; clear hK K M; intro wc M
  replace SA := SA.pt
  replace SD := SD.pt
  replace SP := SP.pt
  refine ⟨(M.mask [true, true] rfl), ?_⟩
  refine gB_m2 (i := 3) (j := 8) (by kernel_rfl) ?_ ?_
  ·refine gB_i rfl (by kernel_rfl : (Zpb 11 7).setIfInBounds 3 true = Zpb 11 15) rfl ?_; intro T9 K hK
   replace M := M.tp T9 0 0
   replace SA := SA.tp T9 0
   replace SD := SD.tp T9 0
   replace SP := SP.tp T9 0
   refine ow_bs (e := 39) [.int .i64 (pieceE p)] M T rfl rfl rfl rfl (.cons (T.e 0 rfl) .nil) (fun _ => by kernel_rfl) ?_; clear M T; intro gr1_3 wc ac M T
   refine gB_out hK M ?_; clear hK K M; intro wc M
   replace SA := SA.pt
   replace SD := SD.pt
   replace SP := SP.pt
   refine ⟨(M.mask [false, true, true] rfl), ?_⟩
   refine gB_m2 (i := 4) (j := 8) (by kernel_rfl) ?_ ?_
   ·refine gB_ic (by kernel_rfl : (Zpb 11 15).setIfInBounds 4 true = Zpb 11 31) (opB_call (first := []) (cap := []) T rfl rfl rfl rfl rfl evf (.cons (T.e 3 rfl) (.cons (T.e 0 rfl) .nil)) Try.func77 rfl rfl (known_any hP b A c D d (some ⟨gr1_3, 0, none⟩) 1 [(pieceE p)] _ (SA.rd M (Zz9 _)) (SD.rd M (Zz9 _)) (fun t ht => M.rd (hop t ht) (Nat.le_refl _)) nA nD nop (M.rdOwn (Zne (i := 0) rfl) rfl rfl) (by first | omega | simp)) ?_ rfl)
    clear T
    rintro e wc ⟨Akur1_4, ckur1_4, Ikur1_4, rfl, hckur1_4, N⟩
    refine ⟨_, rfl, ?_⟩
    intro ac T
    obtain ⟨lkur1_4, hlkur1_4⟩ : ∃ q, q = knownL b [(pieceE p)] := ⟨_, rfl⟩
    obtain ⟨ekur1_4, hekur1_4⟩ : ∃ q, q = knownE b [(pieceE p)] := ⟨_, rfl⟩
    rw [← hlkur1_4] at hckur1_4 T
    rw [← hekur1_4] at T
    obtain ⟨bkur1_4, okur1_4, hSkur1_4⟩ := hckur1_4.spV (l4c_length _)
    have SLkur1_4 := hSkur1_4 w noEx
    clear hSkur1_4
    replace M := (M.join N).swapI
    clear N
    replace M : Mem w noEx wc ((gr1_3, .cells [.int .i64 (pieceE p)]) :: (g2, .cells [.slice P p.length pc]) :: (g1, .cells [.int .i64 b.full, .int .i64 b.a0, .int .i64 b.a1, .slice A b.cs.length c, .slice D b.ts.length d]) :: Ikur1_4) := M
    refine ⟨(M.perm [1, 2] rfl rfl), ?_⟩
    refine gB_q (T := T) (i := 5) rfl (by kernel_rfl) (by kernel_rfl : (Zpb 11 31).setIfInBounds 5 true = Zpb 11 63) (fun _ => si_U) rfl rfl rfl rfl (fun _ _ _ _ _ _ => (Zrm rfl (T.e 0 rfl))) ?_; clear T ac; intro ac T
    refine gB_q (T := T) (i := 6) rfl (by kernel_rfl) (by kernel_rfl : (Zpb 11 63).setIfInBounds 6 true = Zpb 11 127) (fun _ => si_U) rfl rfl rfl rfl (fun _ _ _ _ _ _ => (Zre rfl (T.e 0 rfl) rfl)) ?_; clear T ac; intro ac T
    refine gB_q (T := T) (i := 7) rfl (by kernel_rfl) (by kernel_rfl : (Zpb 11 127).setIfInBounds 7 true = Zpb 11 255) (fun _ => si_U) rfl rfl rfl rfl (fun _ _ _ _ _ _ => (Zre rfl (T.e 1 rfl) rfl)) ?_; clear T ac; intro ac T
    refine gB_w (i := 8) (by kernel_rfl) rfl (by kernel_rfl : (Zpb 11 255).setIfInBounds 8 true = Zpb 11 511) rfl ?_; intro T9 K hK
    replace M := M.tp T9 0 0
    replace SA := SA.tp T9 0
    replace SD := SD.tp T9 0
    replace SLkur1_4 := SLkur1_4.tp T9 0
    replace SP := SP.tp T9 0
    refine Zoa M T rfl rfl rfl rfl ?_; clear M T; intro gr1_8 wc ac M T
    refine gB_out hK M ?_; clear hK K M; intro wc M
    replace SA := SA.pt
    replace SD := SD.pt
    replace SLkur1_4 := SLkur1_4.pt
    replace SP := SP.pt
    refine ⟨(M.perm [2, 3] rfl rfl), ?_⟩
    exact H2 _ _ ⟨Akur1_4, ckur1_4, Ikur1_4, lkur1_4, ekur1_4, bkur1_4, okur1_4, hlkur1_4, hekur1_4, SLkur1_4, gr1_8, gr1_3, T, M⟩
   refine gB_i rfl (by kernel_rfl : (Zpb 11 15).setIfInBounds 8 true = Zpb 11 271) rfl ?_; intro T9 K hK
   replace M := M.tp T9 0 0
   replace SA := SA.tp T9 0
   replace SD := SD.tp T9 0
   replace SP := SP.tp T9 0
   refine Zoa M T rfl rfl rfl rfl ?_; clear M T; intro gr1_8 wc ac M T
   refine gB_out hK M ?_; clear hK K M; intro wc M
   replace SA := SA.pt
   replace SD := SD.pt
   replace SP := SP.pt
   refine ⟨(M.mask [false, false, true, true] rfl), ?_⟩
   exact H1 _ _ ⟨gr1_8, gr1_3, T, M⟩
  refine gB_i rfl (by kernel_rfl : (Zpb 11 7).setIfInBounds 8 true = Zpb 11 263) rfl ?_; intro T9 K hK
  replace M := M.tp T9 0 0
  replace SA := SA.tp T9 0
  replace SD := SD.tp T9 0
  replace SP := SP.tp T9 0
  refine Zoa M T rfl rfl rfl rfl ?_; clear M T; intro gr1_8 wc ac M T
  refine gB_out hK M ?_; clear hK K M; intro wc M
  replace SA := SA.pt
  replace SD := SD.pt
  replace SP := SP.pt
  refine ⟨(M.mask [false, true, true] rfl), ?_⟩
  exact H0 _ _ ⟨gr1_8, T, M⟩
 refine gB_i rfl (by kernel_rfl : (Zpb 11 3).setIfInBounds 8 true = Zpb 11 259) rfl ?_; intro T9 K hK
 replace M := M.tp T9 0 0
 replace SA := SA.tp T9 0
 replace SD := SD.tp T9 0
 replace SP := SP.tp T9 0
 refine Zoa M T rfl rfl rfl rfl ?_; clear M T; intro gr1_8 wc ac M T
 refine gB_out hK M ?_; clear hK K M; intro wc M
 replace SA := SA.pt
 replace SD := SD.pt
 replace SP := SP.pt
 refine ⟨(M.mask [false, true, true] rfl), ?_⟩
 refine gB_w (i := 2) (by kernel_rfl) rfl (by kernel_rfl : (Zpb 11 259).setIfInBounds 2 true = Zpb 11 263) rfl ?_; intro T9 K hK
 replace M := M.tp T9 0 0
 replace SA := SA.tp T9 0
 replace SD := SD.tp T9 0
 replace SP := SP.tp T9 0
 refine Zoc (first := []) (cap := []) T rfl rfl rfl rfl evf (.cons (T.e 1 rfl) .nil) Try.func40 rfl rfl ?_
 refine Calls.mono (piece_any p P pc _ (SP.rd M (Zz9 _)) (by omega)) ?_
 clear T; rintro e wc ⟨rfl, hb⟩ ac T
 replace M := M.call hb; clear hb
 refine gB_out hK M ?_; clear hK K M; intro wc M
 replace SA := SA.pt
 replace SD := SD.pt
 replace SP := SP.pt
 refine ⟨(M.mask [false, true, true] rfl), ?_⟩
 exact H0 _ _ ⟨gr1_8, T.pick [1, 0, 2, 3, 4, 5] rfl, M⟩
end
theorem Try.info28 : (Try.prog.info? 28).map (fun i => (i.zero, i.size, i.bytes)) = some (some (.slice none 0 0), 1, 24) := by kernel_rfl
def Els (LL : List LE) (I : List (Nat × BA)) : Prop := ∀ x ∈ LL, ∃ b o, ∀ (w : World) (ex : Nat → Prop), Sp w ex I x.2.1 x.1.length 1 b o (ic x.1)
theorem Els.mono {LL : List LE} {I I' : List (Nat × BA)} (h : Els LL I) (hs : I.Sublist I') : Els LL I' := fun x hx => by
 obtain ⟨b, o, h1⟩ := h x hx
 exact ⟨b, o, fun w ex => (h1 w ex).mono hs⟩
theorem Els.snoc {LL : List LE} {I : List (Nat × BA)} (h : Els LL I) (l : List Int) (g c : Nat) (ys : List Value) : Els (LL ++ [(l, some ⟨g, 0, none⟩, c)]) (I ++ [(g, .cells (ic l ++ ys))]) := fun x hx => by
 rcases List.mem_append.1 hx with hx | hx
 ·exact h.mono (Zsl _ _) x hx
 ·simp only [List.mem_cons, List.not_mem_nil, or_false] at hx
  subst hx
  exact ⟨g, 0, fun w ex => (Sp.pre (by simp [ic_length])).mono (Zsq _ _)⟩
theorem lc_snoc (l : List LE) (x : List Int) (B : Option Addr) (c : Nat) : lc l ++ [.slice B x.length c] = lc (l ++ [(x, B, c)]) := by simp [lc]
theorem Mem.as {w0 w : World} {ex : Nat → Prop} {L L' : List (Nat × BA)} (M : Mem w0 ex w L) (h : L = L') : Mem w0 ex w L' := h ▸ M
def clN (n : Nat) : Nat → Nat → List (List Int)
 | 0, _ => [[]]
 | m + 1, first => (List.range' first (n - first)).flatMap fun i => (clN n m (i + 1)).map ((i : Int) :: ·)
theorem clN_len {n : Nat} : ∀ (m first : Nat), ∀ l ∈ clN n m first, l.length = m ∧ ∀ x ∈ l, 0 ≤ x ∧ x < n
 | 0, _, l, h => by
  rw [clN, List.mem_singleton] at h
  rw [h]; exact ⟨rfl, fun x hx => (by cases hx)⟩
 | m + 1, first, l, h => by
  rw [clN] at h
  obtain ⟨i, hi, h⟩ := List.mem_flatMap.1 h
  obtain ⟨t, ht, rfl⟩ := List.mem_map.1 h
  have hi := List.mem_range'_1.1 hi
  have ih := clN_len m (i + 1) t ht
  refine ⟨by rw [List.length_cons, ih.1], fun x hx => ?_⟩
  rcases List.mem_cons.1 hx with rfl | hx
  ·omega
  ·exact ih.2 x hx
theorem Try.append1i (B : Option Addr) (d g : Nat) (ty : TypeId) (w : World) : (Builtin.append_ #[28, 28] ty #[.slice (some ⟨g, 0, none⟩) 1 1, .slice B 0 d]).run Try.prog w = .ok (.slice (some ⟨g, 0, none⟩) 1 1) w := by
 cases B <;> kernel_rfl
theorem flatMap_lenK {α β : Type} {f : α → List β} {m : Nat} : ∀ (l : List α), (∀ x ∈ l, (f x).length ≤ m) → (l.flatMap f).length ≤ l.length * m
 | [], _ => by simp
 | x :: l, h => by
  rw [List.flatMap_cons, List.length_append, List.length_cons, Nat.succ_mul]
  have h1 := h x Zz2
  have h2 := flatMap_lenK l fun y hy => h y (Zz1 hy)
  omega
theorem clN_few {n : Nat} (hn : n ≤ 6) : ∀ (m first : Nat), (clN n m first).length ≤ 6 ^ m
 | 0, _ => by simp [clN]
 | m + 1, first => by
   unfold clN
   have h := flatMap_lenK (f := fun i : Nat => (clN n m (i + 1)).map ((i : Int) :: ·)) (m := 6 ^ m) (List.range' first (n - first)) fun i _ => by rw [List.length_map]; exact clN_few hn m _
   rw [List.length_range'] at h
   rw [Nat.pow_succ, Nat.mul_comm]
   exact Nat.le_trans h (Nat.mul_le_mul_right _ (by omega))
def clQ (n m first i k : Nat) : List (List Int) := ((List.range' first (i - first)).flatMap fun i => (clN n m (i + 1)).map ((i : Int) :: ·)) ++ ((clN n m (i + 1)).take k).map ((i : Int) :: ·)
theorem clQ_zero (n m first : Nat) : clQ n m first first 0 = [] := by
 unfold clQ
 rw [Nat.sub_self]
 rfl
theorem clQ_step {n m first i k : Nat} {l : List Int} (h : (clN n m (i + 1))[k]? = some l) : clQ n m first i (k + 1) = clQ n m first i k ++ [(i : Int) :: l] := by
 unfold clQ
 rw [List.take_add_one, h, Option.toList_some, List.map_append, List.append_assoc]
 rfl
theorem clQ_next {n m first i k : Nat} (hi : first ≤ i) (hk : (clN n m (i + 1)).length ≤ k) : clQ n m first i k = clQ n m first (i + 1) 0 := by
 unfold clQ
 have e : List.range' first (i + 1 - first) = List.range' first (i - first) ++ [i] := by
  rw [show i + 1 - first = (i - first) + 1 by omega, List.range'_concat]
  simp
  omega
 rw [e, List.take_of_length_le hk, List.flatMap_append]
 simp
theorem clQ_end {n m first i : Nat} (hi : i = n) : clQ n m first i 0 = clN n (m + 1) first := by
 subst hi
 unfold clQ
 rw [List.take_zero, List.map_nil, List.append_nil]
 rfl
theorem clQ_few {n m first i k : Nat} (hn : n ≤ 6) (hm : m ≤ 5) (h1 : first ≤ i) (h2 : i < n) : (clQ n m first i k).length ≤ 100000 := by
 unfold clQ
 have ha := flatMap_lenK (f := fun i : Nat => (clN n m (i + 1)).map ((i : Int) :: ·)) (m := 7776) (List.range' first (i - first)) fun i _ => by rw [List.length_map]; exact Nat.le_trans (clN_few hn m _) (Nat.pow_le_pow_right (by omega) hm)
 have hb : (clN n m (i + 1)).length ≤ 7776 := Nat.le_trans (clN_few hn m _) (Nat.pow_le_pow_right (by omega) hm)
 rw [List.length_range'] at ha
 have hc : (i - first) * 7776 ≤ 6 * 7776 := Nat.mul_le_mul_right _ (by omega)
 have hd : ((clN n m (i + 1)).take k).length ≤ (clN n m (i + 1)).length := by rw [List.length_take]; exact Nat.min_le_right _ _
 rw [List.length_append, List.length_map]
 omega
theorem Mem.rot9 {w0 w : World} {ex : Nat → Prop} {K A B C : List (Nat × BA)} (M : Mem w0 ex w (K ++ (A ++ B ++ C))) : Mem w0 ex w (K ++ (C ++ A ++ B)) :=
 have hp : (K ++ (A ++ B ++ C)).Perm (K ++ (C ++ A ++ B)) := List.Perm.append_left K (by rw [List.append_assoc C]; exact List.perm_append_comm)
 ⟨M.os, M.tape, M.output, M.size, M.block, fun p h => M.blk p (hp.mem_iff.2 h), (hp.map _).nodup_iff.1 M.nd⟩
theorem Mem.drop9 {w0 w : World} {ex : Nat → Prop} {K A B C : List (Nat × BA)} (M : Mem w0 ex w (K ++ (C ++ A ++ B))) : Mem w0 ex w (K ++ (A ++ B)) := M.sub (List.Sublist.append_left (by rw [List.append_assoc]; exact Zsq _ _) _)
def ClPost (R : List (List Int)) (w : World) (e : Ending) (w' : World) : Prop := ∃ (A : Option Addr) (c : Nat) (LL : List LE) (I : List (Nat × BA)), e = .returned (.slice A LL.length c) ∧ LL.map (·.1) = R ∧ (∃ b o, ∀ (w : World) (ex : Nat → Prop), Sp w ex I A LL.length 1 b o (lc LL)) ∧ Els LL I ∧ Mem w noEx w' I
def ClSpec (n m : Nat) : Prop := ∀ (first : Nat) (w : World), first ≤ n → Calls Try.prog 29 #[.int .i64 (first : Int), .int .i64 (n : Int), .int .i64 (m : Int)] w (ClPost (clN n m first) w)
theorem choices_step (first n m : Nat) (w : World) (hn4 : n ≤ 6) (hm4 : m ≤ 6) (hf : first ≤ n) (ih : ∀ m1, m = m1 + 1 → ClSpec n m1) :
   Calls Try.prog 29 #[.int .i64 (first : Int), .int .i64 (n : Int), .int .i64 (m : Int)] w (ClPost (clN n m first) w) := by
 refine Zpx noEx Try.func29 rfl 43 rfl [.int .i64 (first : Int), .int .i64 (n : Int), .int .i64 (m : Int)] rfl rfl (Mem.init w _) ?_
 intro ac wc T M
 refine Zsr ?_
 refine lq T (Zra rfl evc) ?_; clear T ac; intro ac T
 replace T := T.pick [1, 2, 3] rfl
 refine Zln ?_
 refine wp_seq ?_
 refine Zsr ?_
 refine Zg2 T (Zq (Zrm rfl (T.e 2 rfl))) rfl (fun _ T => Zq (rn_eql rfl (T.e 0 rfl) evc)) rfl ?_; clear T ac; intro ac T
 replace T := T.pick [0, 2, 3, 4] rfl
 refine Zln ?_
 refine wp_if (T.e 0 rfl) ?_ ?_
 ·intro h1
  obtain rfl : m = 0 := by omega
  refine Zsr ?_
  refine Zl2 ?_
  refine ow_bs (e := 28) [.slice none 0 0] M T rfl rfl rfl rfl (.cons evc .nil) (fun _ => by kernel_rfl) ?_; clear M T; intro g1 wc ac M T
  refine lq T (Zra rfl (T.e 0 rfl)) ?_; clear T ac; intro ac T
  replace T := T.pick [0] rfl
  refine Zln ?_
  refine wp_ret ?_
  refine Zrt ?_
  refine rt_1 T rfl (T.e 0 rfl) ?_
  exact ⟨_, _, [([], none, 0)], _, rfl, rfl, ⟨g1, 0, fun w ex => Sp.cells (xs := lc [([], none, 0)]) rfl⟩, (fun x hx => by simp only [List.mem_cons, List.not_mem_nil, or_false] at hx; subst hx; exact ⟨0, 0, fun w ex => Sp.nil.mono (Zz9 _)⟩), M⟩
 intro h1
 obtain ⟨m1, rfl⟩ : ∃ k, m = k + 1 := ⟨m - 1, by omega⟩
 have ih1 := ih m1 rfl
 refine Zsk ?_
 refine Zsr ?_
 refine lq T (Zra rfl evc) ?_; clear T ac; intro ac T
 replace T := T.pick [0, 2, 3, 4] rfl
 refine Zln ?_
 refine wp_seq ?_
 refine Zsr ?_
 refine Zg2 T (Zq (Zrm rfl (T.e 1 rfl))) rfl (Za 0 rfl rfl) rfl ?_; clear T ac; intro ac T
 replace T := T.pick [0, 2, 4, 5] rfl
 refine Zln ?_
 refine wp_block ?_
 refine wp_loop_n (fun mz ac wc => ∃ (i : Nat) (OL : List LE) (A3 : Option Addr) (c3 : Nat) (Ie Io : List (Nat × BA)), mz = n - i ∧ (first ≤ i ∧ i ≤ n) ∧ (OL.map (·.1) = clQ n m1 first i 0) ∧ (Els OL Ie) ∧ (Sl 28 1 (.slice A3 OL.length c3) OL.length (lc OL) Io) ∧ Tm ac 43 [(1, .int .i64 (n : Int)), (2, .int .i64 ((m1 + 1 : Nat) : Int)), (7, .slice A3 OL.length c3), (8, .int .i64 (i : Int))] ∧ Mem w noEx wc ((Ie ++ Io))) ?_ ?_
 ·exact ⟨_, first, [], none, 0, [], [], rfl, (by omega), (clQ_zero _ _ _).symm, (fun x hx => by cases hx), (Sl.nil _ _), T.pick [2, 3, 1, 0] rfl, ((M.mask [] rfl).as (by simp))⟩
 clear T M
 rintro mz ac wc ⟨i, OL, A3, c3, Ie, Io, hmm1, hi, hO, hE, hsl, T, M⟩
 refine wp_seq ?_
 refine Zsr ?_
 refine Zg3 T (Zq (Zrm rfl (T.e 3 rfl))) rfl (Zm 1 rfl rfl) rfl (fun _ T => Zq (rn_lss rfl (T.e 1 rfl) (T.e 0 rfl))) rfl ?_; clear T ac; intro ac T
 replace T := T.pick [0, 3, 4, 5, 6] rfl
 refine Zln ?_
 refine wp_if (T.e 0 rfl) ?_ ?_
 ·intro h2
  refine Zsk ?_
  refine wp_seq ?_
  refine wp_block ?_
  refine Zsr ?_
  refine Zg5 T (Zq (Zrm rfl (T.e 4 rfl))) rfl (fun _ T => Zq (rn_add rfl (T.e 0 rfl) evc (by omega))) rfl (Zm 3 rfl rfl) rfl (Zm 5 rfl rfl) rfl (fun _ T => Zq (rn_sub rfl (T.e 0 rfl) evc (by omega))) rfl ?_; clear T ac; intro ac T
  refine Zl2 ?_
  have e7 : ((i : Int) + 1) = ((i + 1 : Nat) : Int) := rfl
  have e6 : (((m1 + 1 : Nat) : Int) - 1) = (m1 : Int) := by omega
  refine Zoc (first := []) (cap := []) T rfl rfl rfl rfl evf (.cons (T.e 3 rfl) (.cons (T.e 2 rfl) (.cons (T.e 0 rfl) .nil))) Try.func29 rfl rfl ?_
  refine Calls.mono ((by rw [e6]; exact ih1 (i + 1) _ (by omega))) ?_
  clear T; rintro e wc ⟨Au1, cu1, LLu1, Iu1, rfl, hLu1, Su1, Eu1, N⟩ ac T
  obtain ⟨bu1, ou1, Su1⟩ := Su1
  replace Su1 := Su1 w noEx
  have nR : LLu1.length = (clN n m1 (i + 1)).length := by rw [← hLu1, List.length_map]
  have nR4 : (clN n m1 (i + 1)).length ≤ 7776 := Nat.le_trans (clN_few hn4 m1 _) (Nat.pow_le_pow_right (by omega) (by omega : m1 ≤ 5))
  replace M := (M.join N).swapI
  clear N
  replace M : Mem w noEx wc ((Iu1 ++ Ie ++ Io)) := Mem.rot9 (K := []) M
  refine lq T (Zra rfl (T.e 0 rfl)) ?_; clear T ac; intro ac T
  replace T := T.pick [0, 8, 9, 10, 11] rfl
  refine Zln ?_
  refine Zsr ?_
  refine lq T (Zra rfl evc) ?_; clear T ac; intro ac T
  refine Zln ?_
  refine wp_block ?_
  refine wp_loop_n (fun mz ac wc => ∃ (k : Nat) (OL2 : List LE) (A4 : Option Addr) (c4 : Nat) (Ie2 Io2 : List (Nat × BA)), mz = LLu1.length - k ∧ (k ≤ LLu1.length) ∧ (OL2.map (·.1) = clQ n m1 first i k) ∧ (Els OL2 Ie2) ∧ (Sl 28 1 (.slice A4 OL2.length c4) OL2.length (lc OL2) Io2) ∧ Tm ac 43 [(1, .int .i64 (n : Int)), (2, .int .i64 ((m1 + 1 : Nat) : Int)), (7, .slice A4 OL2.length c4), (8, .int .i64 (i : Int)), (9, .slice Au1 LLu1.length cu1), (10, .int .i64 (k : Int))] ∧ Mem w noEx wc ((Iu1 ++ Ie2 ++ Io2))) ?_ ?_
  ·exact ⟨_, 0, OL, _, _, Ie, Io, rfl, (Nat.zero_le _), hO, hE, hsl, T.pick [2, 3, 4, 5, 1, 0] rfl, M.mask [] rfl⟩
  clear T M
  rintro mz ac wc ⟨k, OL2, A4, c4, Ie2, Io2, hmm2, hk, hO2, hE2, hsl2, T, M⟩
  refine wp_seq ?_
  refine Zsr ?_
  refine Zg4 T (Zq (Zrm rfl (T.e 5 rfl))) rfl (Zm 5 rfl rfl) rfl (Zl Try.underlying54 0 rfl rfl) rfl (fun _ T => Zq (rn_lss rfl (T.e 2 rfl) (T.e 0 rfl))) rfl ?_; clear T ac; intro ac T
  replace T := T.pick [0, 4, 5, 6, 7, 8, 9] rfl
  refine Zln ?_
  refine wp_if (T.e 0 rfl) ?_ ?_
  ·intro h3
   obtain ⟨⟨lv, Av, cv⟩, hkv⟩ : ∃ x, LLu1[k]? = some x := ⟨_, List.getElem?_eq_getElem (by omega)⟩
   obtain ⟨bv, ov, Sv⟩ := Eu1 _ (List.mem_of_getElem? hkv)
   replace Sv : Sp w noEx Iu1 Av lv.length 1 bv ov (ic lv) := Sv w noEx
   have hkq : (clN n m1 (i + 1))[k]? = some lv := by rw [← hLu1, List.getElem?_map, hkv]; rfl
   have hlv := (clN_len _ _ lv (List.mem_of_getElem? hkq)).1
   have hOn : OL2.length ≤ 100000 := by rw [← List.length_map (f := (·.1)), hO2]; exact clQ_few hn4 (by omega) (by omega) (by omega)
   refine Zsk ?_
   refine wp_seq ?_
   refine wp_block ?_
   refine wp_region_lit ?_
   refine Zg2 T (Zq (Zrm rfl (T.e 3 rfl))) rfl (Zm 5 rfl rfl) rfl ?_; clear T ac; intro ac T
   refine Zl2 ?_
   refine ow_bsR (e := 3) (size := 1) [.int .i64 (i : Int)] M T rfl rfl rfl rfl (.cons (T.e 0 rfl) .nil) (fun _ => by kernel_rfl) rfl rfl rfl ?_; clear M T; intro g2 wc ac M T
   refine Zg4 (v4 := (.slice Av lv.length cv)) T (Zq (Zrm rfl (T.e 8 rfl))) rfl (Zm 10 rfl rfl) rfl (fun _ T => Zq (Zri (size := 1) k rfl (T.e 1 rfl) (T.e 0 rfl) ⟨_, Try.underlying54, by kernel_rfl⟩ rfl (by omega) (Su1.at0 (by omega)))) rfl (fun _ T => Zq (rn_cell (Sp.lc0 Su1 M (.cons _ (subL (subL (List.Sublist.refl _)))) hkv) rfl (T.e 0 rfl))) rfl ?_; clear T ac; intro ac T
   refine Zl2 ?_
   refine ow_appL Try.info3 M T rfl rfl rfl rfl (fun g w => Try.append1i _ _ g _ w) Try.underlying28 rfl rfl rfl (by omega) (T.e 4 rfl) (T.e 0 rfl) (Sv.rd M (.cons _ (subL (subL (List.Sublist.refl _))))) (icl_one _) ?_; clear M T; intro go1 cgo1 ysgo1 wc ac M T
   obtain ⟨lo1, hlo1⟩ : ∃ q : List Int, q = (i : Int) :: lv := ⟨_, rfl⟩
   have lhlo1 : lo1.length = lv.length + 1 := by rw [hlo1]; rfl
   replace M : Mem w noEx wc ((go1, .cells (ic lo1 ++ ysgo1)) :: (Iu1 ++ Ie2 ++ Io2)) := by rw [hlo1]; exact M
   rw [show 1 + lv.length = lo1.length by omega] at T
   refine Zl2 ?_
   refine ow_bs (e := 28) [.slice (some ⟨go1, 0, none⟩) lo1.length cgo1] M T rfl rfl rfl rfl (.cons (T.e 0 rfl) .nil) (fun _ => by kernel_rfl) ?_; clear M T; intro g3 wc ac M T
   refine Zl2 ?_
   refine ow_app (((g3, .cells [.slice (some ⟨go1, 0, none⟩) lo1.length cgo1]) :: (go1, .cells (ic lo1 ++ ysgo1)) :: (Iu1 ++ Ie2))) Try.info28 hsl2 M (by first | rfl | simp) T rfl rfl rfl rfl Try.underlying54 rfl rfl rfl (by omega) (T.e 8 rfl) (T.e 0 rfl) (Zne (i := 0) rfl) rfl rfl ?_; clear M T; intro ga1 cga1 wc ac M T
   refine l_q (v := (.slice (some ⟨ga1, 0, none⟩) (OL2.length + 1) cga1)) (T.pick [0, 1, 2, 3, 4, 5, 6, 7, 8, 9, 10, 11, 12, 14, 15, 16] rfl) rfl rfl rfl rfl (Zra rfl (T.e 0 rfl)) ?_; clear T ac; intro ac T
   refine wpList_nil ?_
   replace T := T.pick [0, 12, 13, 14, 15, 16] rfl
   replace M := M.mask [true, false, true] rfl
   refine Znb ?_
   refine nm_then ?_
   refine wp_region_lit ?_
   refine Zg2 T (Zq (Zrm rfl (T.e 5 rfl))) rfl (fun _ T => Zq (rn_add rfl (T.e 0 rfl) evc (by omega))) rfl ?_; clear T ac; intro ac T
   refine l_q (v := (.int .i64 ((k : Int) + 1))) (T.pick [0, 1, 2, 3, 4, 5, 6] rfl) rfl rfl rfl rfl (Zra rfl (T.e 0 rfl)) ?_; clear T ac; intro ac T
   replace T := T.pick [0, 3, 4, 5, 6, 7] rfl
   refine Zln ?_
   have e9 : OL2.length + 1 = (OL2 ++ [(lo1, (some ⟨go1, 0, none⟩ : Option Addr), cgo1)]).length := by simp
   rw [e9, lc_snoc] at M
   rw [e9] at T
   clear e9
   exact ⟨_, by omega, k + 1, (OL2 ++ [(lo1, (some ⟨go1, 0, none⟩ : Option Addr), cgo1)]), _, _, (Ie2 ++ [(go1, .cells (ic lo1 ++ ysgo1))]), [(ga1, .row 28 1 (OL2 ++ [(lo1, (some ⟨go1, 0, none⟩ : Option Addr), cgo1)]).length (lc (OL2 ++ [(lo1, (some ⟨go1, 0, none⟩ : Option Addr), cgo1)])) cga1)], rfl, (by omega), (by rw [List.map_append, hO2, clQ_step hkq]; simp [hlo1]), (hE2.snoc _ _ _ _), (Sl.row _ _ _ _ _ _), T.pick [2, 3, 1, 4, 5, 0] rfl, ((Mem.swapI (I := [(go1, .cells (ic lo1 ++ ysgo1)), (ga1, .row 28 1 (OL2 ++ [(lo1, (some ⟨go1, 0, none⟩ : Option Addr), cgo1)]).length (lc (OL2 ++ [(lo1, (some ⟨go1, 0, none⟩ : Option Addr), cgo1)])) cga1)]) (L := [] ++ (Iu1 ++ Ie2)) (M.permT [1, 0] 2 rfl rfl rfl rfl)).as (by simp))⟩
  intro h3
  refine wp_exit ?_
  refine Zet ?_
  refine Zet ?_
  refine ex_hit ?_
  refine Znb ?_
  refine nm_then ?_
  refine wp_region_lit ?_
  refine Zg2 T (Zq (Zrm rfl (T.e 4 rfl))) rfl (fun _ T => Zq (rn_add rfl (T.e 0 rfl) evc (by omega))) rfl ?_; clear T ac; intro ac T
  refine l_q (v := (.int .i64 ((i : Int) + 1))) (T.pick [0, 1, 2, 3, 4, 5, 7, 8] rfl) rfl rfl rfl rfl (Zra rfl (T.e 0 rfl)) ?_; clear T ac; intro ac T
  replace T := T.pick [0, 4, 5, 6] rfl
  refine Zln ?_
  exact ⟨_, by omega, i + 1, OL2, _, _, Ie2, Io2, rfl, (by omega), (by rw [hO2, clQ_next (by omega) (by omega)]), hE2, hsl2, T.pick [1, 2, 3, 0] rfl, Mem.drop9 (K := []) M⟩
 intro h2
 refine wp_exit ?_
 refine Zet ?_
 refine Zet ?_
 refine ex_hit ?_
 refine nm_then ?_
 refine Zsr ?_
 refine Zg2 T (Zq (Zrm rfl (T.e 3 rfl))) rfl (Za 0 rfl rfl) rfl ?_; clear T ac; intro ac T
 replace T := T.pick [0] rfl
 refine Zln ?_
 refine wp_ret ?_
 refine rt_1 T rfl (T.e 0 rfl) ?_
 obtain ⟨b9, o9, h9⟩ := hsl.spV (by rw [lc_length, Nat.mul_one])
 refine ⟨A3, c3, OL, _, rfl, ?_, ⟨b9, o9, fun w ex => (h9 w ex).mono (Zsq _ _)⟩, hE.mono (Zsl _ _), M⟩
 rw [hO]
 exact clQ_end (by omega)
theorem choicesK_any (n : Nat) (hn : n ≤ 6) : ∀ m : Nat, m ≤ 6 → ClSpec n m
 | 0, h => fun first w hf => choices_step first n 0 w hn h hf fun m1 e => by omega
 | m + 1, h => fun first w hf => choices_step first n (m + 1) w hn h hf fun m1 e => by
  obtain rfl : m = m1 := by omega
  exact choicesK_any n hn m (by omega)
open Go.RowKit
open Go.RowKit
open Go.RowKit
open Go.RowKit
theorem eqT23 {x y : Operand} {a0 a1 b0 b1 : Int} {w : World} : (do eqGuard .eql 23 x y (.agg #[.int .i64 a0, .int .i64 a1]) (.agg #[.int .i64 b0, .int .i64 b1]); binOp .eql 23 (.agg #[.int .i64 a0, .int .i64 a1]) (.agg #[.int .i64 b0, .int .i64 b1]) : Sem Value).run Try.prog w = .ok (.bool ((decide (a0 = b0) && decide (a1 = b1)))) w := by
 go_simp
 (repeat' split) <;> simp_all
theorem same_start {α : Type} [DecidableEq α] (l r : List α) : decide (l = r) = (decide ((l.length : Int) = (r.length : Int)) && decide (l.drop 0 = r.drop 0)) := by
 by_cases h : l = r
 · subst h; simp
 · simp [h]
theorem same_next {x y x' y' : Int} {l r : List (Int × Int)} : decide ((x, y) :: l = (x', y') :: r) = ((decide (x = x') && decide (y = y')) && decide (l = r)) := by
 by_cases h1 : x = x' <;> by_cases h2 : y = y' <;> simp [h1, h2]
theorem sameRanges_any (A D : Option Addr) (n m c d : Nat) (l r : List (Int × Int)) (w : World) (hr : Rd w w.heap.size 2 A n (rc l)) (hs : Rd w w.heap.size 2 D m (rc r)) (hn : n ≤ 9223372036854775807) (hm : m ≤ 9223372036854775807) :
   Calls Try.prog 42 #[.slice A n c, .slice D m d] w fun e w' => e = .returned (.bool (decide (l = r))) ∧ Below w.heap.size w w' := by
 have hl := hr.len2
 have hl2 := hs.len2
 obtain ⟨bJ, oJ, SJ⟩ := Sp.old hr
 obtain ⟨bI, oI, SI⟩ := Sp.old hs
 refine Zpx noEx Try.func42 rfl 31 rfl [.slice A n c, .slice D m d] rfl rfl (Mem.init w _) ?_
 intro ac wc T M
 refine Zsr ?_
 refine lq T (Zra rfl evc) ?_; clear T ac; intro ac T
 replace T := T.pick [1, 2] rfl
 refine Zln ?_
 refine Zsr ?_
 refine Zg6 T (Zq (Zrm rfl (T.e 0 rfl))) rfl (Zl Try.underlying24 0 rfl rfl) rfl (Zm 3 rfl rfl) rfl (Zl Try.underlying24 0 rfl rfl) rfl (fun _ T => Zq (rn_eql rfl (T.e 2 rfl) (T.e 0 rfl))) rfl (Za 0 rfl rfl) rfl ?_; clear T ac; intro ac T
 replace T := T.pick [0, 6, 7] rfl
 refine Zln ?_
 refine wp_seq ?_
 refine Zsr ?_
 refine lq T (Zra rfl evc) ?_; clear T ac; intro ac T
 refine Zln ?_
 refine wp_block ?_
 refine wp_loop_n (fun mz ac wc => ∃ (k : Nat) (b : Bool), mz = n - k ∧ (k ≤ n) ∧ (b = true → n = m) ∧ (decide (l = r) = (b && decide (l.drop k = r.drop k))) ∧ Tm ac 31 [(0, .slice A n c), (1, .slice D m d), (5, .bool b), (6, .int .i64 (k : Int))] ∧ Mem w noEx wc []) ?_ ?_
 ·exact ⟨_, 0, _, rfl, (by omega), (fun h => by have := of_decide_eq_true h; omega), (by rw [same_start l r, hl, hl2]), T.pick [2, 3, 1, 0] rfl, M.mask [] rfl⟩
 clear T M
 rintro mz ac wc ⟨k, b, hmm1, hk, hb, H, T, M⟩
 refine wp_seq ?_
 refine cut_seq (fun ac wc => Tm ac 31 [(0, .slice A n c), (1, .slice D m d), (5, .bool b), (6, .int .i64 (k : Int)), (18, .bool (b && (decide ((k : Int) < ((n : Nat) : Int)))))] ∧ Mem w noEx wc []) ?_ ?_
 ·refine wp_region_lit ?_
  refine Zg2 T (Zq (Zrm rfl (T.e 2 rfl))) rfl (Zm 0 rfl rfl) rfl ?_; clear T ac; intro ac T
  rcases Bool.eq_false_or_eq_true b with h1 | h1
  ·refine Zg5 T (Zw (Zwy rfl rfl (T.e 0 rfl) h1) (Zrm rfl (T.e 5 rfl))) rfl (fun _ T => Zw (Zwy rfl rfl (T.e 1 rfl) h1) (Zrm rfl (T.e 3 rfl))) rfl (fun _ T => Zw (Zwy rfl rfl (T.e 2 rfl) h1) (Zrl rfl Try.underlying24 (T.e 0 rfl))) rfl (fun _ T => Zw (Zwy rfl rfl (T.e 3 rfl) h1) (rn_lss rfl (T.e 2 rfl) (T.e 0 rfl))) rfl (fun _ T => Zq (Zr1 rfl (T.e 4 rfl) h1 (T.e 0 rfl))) rfl ?_; clear T ac; intro ac T
   refine wpList_nil ?_
   replace T := T.pick [0, 1, 2, 3, 4, 7, 8, 9, 10] rfl
   exact ⟨(T.pick (E' := [(0, .slice A n c), (1, .slice D m d), (5, .bool b), (6, .int .i64 (k : Int)), (18, .bool (decide ((k : Int) < ((n : Nat) : Int))))]) [5, 6, 7, 8, 0] rfl).as (by (try rw [show b = true from h1]); (try rfl)), M.mask [] rfl⟩
  refine Zg5 T (Zp (Zwn rfl rfl (T.e 0 rfl) h1)) rfl (fun _ T => Zp (Zwn rfl rfl (T.e 1 rfl) h1)) rfl (fun _ T => Zp (Zwn rfl rfl (T.e 2 rfl) h1)) rfl (fun _ T => Zp (Zwn rfl rfl (T.e 3 rfl) h1)) rfl (fun _ T => Zq (Zr0 rfl (T.e 4 rfl) h1 evc)) rfl ?_; clear T ac; intro ac T
  refine wpList_nil ?_
  replace T := T.pick [0, 1, 2, 3, 4, 7, 8, 9, 10] rfl
  exact ⟨(T.pick (E' := [(0, .slice A n c), (1, .slice D m d), (5, .bool b), (6, .int .i64 (k : Int)), (18, .bool false)]) [5, 6, 7, 8, 0] rfl).as (by (try rw [show b = false from h1]); (try rfl)), M.mask [] rfl⟩
 clear T M
 rintro ac wc ⟨T, M⟩
 refine wp_cond_split (T.e 4 rfl) ?_ ?_
 ·intro h2
  (have h2' := h2; try simp only [Zb1, Zb2, Zb3, Zb4, Zb5, Zb6, Zb7] at h2')
  have h1 : b = true ∧ (k : Int) < (n : Int) := by simpa using h2
  have hnm := hb h1.1
  obtain ⟨x0, x1, hk1, hd⟩ := rc_next (l := l) (k := k) (by omega)
  obtain ⟨y0, y1, hk2, hd2⟩ := rc_next (l := r) (k := k) (by omega)
  rw [hd, hd2, h1.1, Bool.true_and, same_next] at H
  refine Zsk ?_
  refine wp_seq ?_
  refine wp_block ?_
  refine Zgs M (M.mask [] rfl) 10 (by kernel_rfl) rfl (by kernel_rfl) ?_
  clear M; intro wc M
  refine gq T 0 1 rfl (fun _ _ _ _ _ => (Zrm rfl (T.e 0 rfl))) ?_; clear T ac; intro ac T
  refine gq T 1 3 rfl (fun _ _ _ _ _ => (Zrm rfl (T.e 4 rfl))) ?_; clear T ac; intro ac T
  refine gq T 2 7 rfl (fun _ _ _ _ _ => (Zri (size := 2) k rfl (T.e 1 rfl) (T.e 0 rfl) ⟨_, Try.underlying24, by kernel_rfl⟩ rfl (by omega) (SJ.at0 (by omega)))) ?_; clear T ac; intro ac T
  refine gq (v := (.agg #[.int .i64 x0, .int .i64 x1])) T 3 15 rfl (fun B w' hD hl hS => (rn_rowat (Sp.rcR SJ (show Mem w noEx w' _ from hS) (Zz9 _) hk1) rfl (T.e 0 rfl) rfl)) ?_; clear T ac; intro ac T
  refine gq T 4 31 rfl (fun _ _ _ _ _ => (Zrm rfl (T.e 5 rfl))) ?_; clear T ac; intro ac T
  refine gq T 5 63 rfl (fun _ _ _ _ _ => (Zrm rfl (T.e 8 rfl))) ?_; clear T ac; intro ac T
  refine gq T 6 127 rfl (fun _ _ _ _ _ => (Zri (size := 2) k rfl (T.e 1 rfl) (T.e 0 rfl) ⟨_, Try.underlying24, by kernel_rfl⟩ rfl (by omega) (SI.at0 (by omega)))) ?_; clear T ac; intro ac T
  refine gq (v := (.agg #[.int .i64 y0, .int .i64 y1])) T 7 255 rfl (fun B w' hD hl hS => (rn_rowat (Sp.rcR SI (show Mem w noEx w' _ from hS) (Zz9 _) hk2) rfl (T.e 0 rfl) rfl)) ?_; clear T ac; intro ac T
  refine gq (v := (.bool ((decide (x0 = y0)) && (decide (x1 = y1))))) T 8 511 rfl (fun _ _ _ _ _ => (rn_bin rfl (T.e 4 rfl) (T.e 0 rfl) eqT23)) ?_; clear T ac; intro ac T
  refine g_q (v := (.bool ((decide (x0 = y0)) && (decide (x1 = y1))))) (T := T.pick [0, 1, 2, 3, 4, 5, 6, 7, 8, 9, 10, 12, 13] rfl) (i := 9) rfl (by kernel_rfl) (by kernel_rfl : (Zpb 10 511).setIfInBounds 9 true = Zpb 10 1023) si_U (fun _ _ _ h => h) rfl rfl rfl rfl (fun _ _ _ _ _ => (Zra rfl (T.e 0 rfl))) ?_; clear T ac; intro ac T
  refine Zgd (by kernel_rfl) ?_
  replace T := T.pick [0, 10, 11, 12] rfl
  refine Znb ?_
  refine nm_then ?_
  refine wp_region_lit ?_
  refine Zg2 T (Zq (Zrm rfl (T.e 3 rfl))) rfl (fun _ T => Zq (rn_add rfl (T.e 0 rfl) evc (by omega))) rfl ?_; clear T ac; intro ac T
  refine l_q (v := (.int .i64 ((k : Int) + 1))) (T.pick [0, 1, 2, 3, 4] rfl) rfl rfl rfl rfl (Zra rfl (T.e 0 rfl)) ?_; clear T ac; intro ac T
  replace T := T.pick [0, 3, 4, 5] rfl
  refine Zln ?_
  exact ⟨_, by omega, k + 1, _, rfl, (by omega), (fun _ => hnm), H, T.pick [2, 3, 1, 0] rfl, M.mask [] rfl⟩
 intro h2
 (have h2' := h2; try simp only [Zb1, Zb2, Zb3, Zb4, Zb5, Zb6, Zb7] at h2')
 refine wp_exit ?_
 refine Zet ?_
 refine Zet ?_
 refine ex_hit ?_
 refine nm_then ?_
 refine Zsr ?_
 refine Zg2 T (Zq (Zrm rfl (T.e 2 rfl))) rfl (Za 0 rfl rfl) rfl ?_; clear T ac; intro ac T
 replace T := T.pick [0] rfl
 refine Zln ?_
 refine wp_ret ?_
 refine rt_1 T rfl (T.e 0 rfl) ?_
 refine ⟨ret_bool ?_, M.below⟩
 rw [H]
 rcases Bool.eq_false_or_eq_true b with hb1 | hb1
 · have hnm := hb hb1
   have : ¬ ((k : Int) < (n : Int)) := by intro hc; simp [hb1, hc] at h2
   rw [List.drop_of_length_le (by omega), List.drop_of_length_le (by omega)]
   simp [hb1]
 · simp [hb1]
theorem sameRanges_same (A D : Option Addr) (n m c d : Nat) (l : List (Int × Int)) (w : World) (hr : Rd w w.heap.size 2 A n (rc l)) (hs : Rd w w.heap.size 2 D m (rc l)) (hn : n ≤ 9223372036854775807) (hm : m ≤ 9223372036854775807) :
  Calls Try.prog 42 #[.slice A n c, .slice D m d] w fun e w' => e = .returned (.bool true) ∧ Below w.heap.size w w' := by
 have := sameRanges_any A D n m c d l l w hr hs hn hm
 simpa using this
section
open Go.RowKit Go.Proofs.Ytoheddpnnjldgaa.Bq
structure BwIn (b : Bw) (A : Option Addr) (c : Nat) (D : Option Addr) (d : Nat) (I : List (Nat × BA)) : Prop where
 cs : ∃ g o, ∀ (w : World) (ex : Nat → Prop), Sp w ex I A b.cs.length 2 g o (rc b.cs)
 ts : ∃ g o, ∀ (w : World) (ex : Nat → Prop), Sp w ex I D b.ts.length 4 g o (lkc b.ts)
 op : ∀ t ∈ b.ts, ∃ g o, ∀ (w : World) (ex : Nat → Prop), Sp w ex I t.A t.op.length 1 g o (ic t.op)
 few : b.cs.length ≤ 1000 ∧ b.ts.length ≤ 1000 ∧ ∀ t ∈ b.ts, t.op.length ≤ 1000
theorem BwIn.rd {b : Bw} {A : Option Addr} {c : Nat} {D : Option Addr} {d : Nat} {I L : List (Nat × BA)} {w0 w : World} {ex : Nat → Prop} (h : BwIn b A c D d I) (M : Mem w0 ex w L) (hI : I.Sublist L) :
  Rd w w.heap.size 2 A b.cs.length (rc b.cs) ∧ Rd w w.heap.size 4 D b.ts.length (lkc b.ts) ∧ ∀ t ∈ b.ts, Rd w w.heap.size 1 t.A t.op.length (ic t.op) := by
 obtain ⟨g, o, h1⟩ := h.cs
 obtain ⟨g', o', h2⟩ := h.ts
 exact ⟨(h1 w0 ex).rd M hI, (h2 w0 ex).rd M hI, fun t ht => by obtain ⟨g, o, h3⟩ := h.op t ht; exact (h3 w0 ex).rd M hI⟩
def fBw (X : Option Addr) (xc : Nat) : Bw := ⟨100, 40, 40, [(0, 2), (1, 3)], [⟨X, xc, [0, 1], 10, 25, 30⟩]⟩
def pT (r : Bool) : List Nt := [⟨4, 2, 3, false⟩, ⟨5, 3, 3, r⟩, ⟨6, 1, 2, false⟩]
def FoldsPost (w : World) (e : Ending) (w' : World) : Prop := ∃ A c D d X xc I, e = .returned (.agg #[.int .i64 (fBw X xc).full, .int .i64 (fBw X xc).a0, .int .i64 (fBw X xc).a1, .slice A (fBw X xc).cs.length c, .slice D (fBw X xc).ts.length d]) ∧ BwIn (fBw X xc) A c D d I ∧ Mem w noEx w' I
def PiecePost (r : Bool) (w : World) (e : Ending) (w' : World) : Prop := ∃ g, e = .returned (.slice (some ⟨g, 0, none⟩) (pT r).length 3) ∧ Mem w noEx w' [(g, .cells (ntc (pT r)))]
theorem to_any (x y : Int)  (w : World)  :
  Calls Try.prog 48 #[.int .i64 x, .int .i64 y] w fun e w' => e = .returned (.agg #[.int .i64 x, .int .i64 y]) ∧ Below w.heap.size w w' := by
 refine Zpx noEx Try.func48 rfl 8 rfl [.int .i64 x, .int .i64 y] rfl rfl (Mem.init w _) ?_
 intro ac wc T M
 refine Zsr ?_
 refine Zl2 ?_
 refine Zoa M T rfl rfl rfl rfl ?_; clear M T; intro g1 wc ac M T
 refine Zln ?_
 refine Zsr ?_
 refine Zg3 (v3 := (.agg #[.int .i64 x, .int .i64 y])) T (Zq (Zrm rfl (T.e 1 rfl))) rfl (Zm 3 rfl rfl) rfl (fun _ T => Zq (rn_build rfl (.cons (T.e 1 rfl) (.cons (T.e 0 rfl) .nil)) (fun _ => by kernel_rfl))) rfl ?_; clear T ac; intro ac T
 refine Zl2 ?_
 refine Zos M T rfl rfl (T.e 3 rfl) (T.e 0 rfl) rfl .head rfl (by simp) rfl (by kernel_rfl) ?_; clear M T; intro wc ac M T
 replace T := T.pick [3] rfl
 refine Zln ?_
 refine wp_ret ?_
 refine rt_c M T rfl (T.e 0 rfl) (Zne (i := 0) rfl) rfl ?_
 exact ⟨rfl, M.below⟩
theorem note_any (s lo hi : Int) (r : Bool)  (w : World)  :
  Calls Try.prog 44 #[.int .i64 s, .int .i64 lo, .int .i64 hi, .bool r] w fun e w' => e = .returned (.agg #[.int .i64 s, .int .i64 lo, .int .i64 hi, .bool r]) ∧ Below w.heap.size w w' := by
 refine Zpx noEx Try.func44 rfl 15 rfl [.int .i64 s, .int .i64 lo, .int .i64 hi, .bool r] rfl rfl (Mem.init w _) ?_
 intro ac wc T M
 refine Zsr ?_
 refine Zl2 ?_
 refine Zoa M T rfl rfl rfl rfl ?_; clear M T; intro g1 wc ac M T
 refine Zln ?_
 refine Zsr ?_
 refine Zg3 T (Zq (Zrm rfl (T.e 1 rfl))) rfl (Zm 3 rfl rfl) rfl (Zm 5 rfl rfl) rfl ?_; clear T ac; intro ac T
 refine Zl2 ?_
 refine Zoc (first := []) (cap := []) T rfl rfl rfl rfl evf (.cons (T.e 1 rfl) (.cons (T.e 0 rfl) .nil)) Try.func48 rfl rfl ?_
 refine Calls.mono (to_any lo hi _) ?_
 clear T; rintro e wc ⟨rfl, hb⟩ ac T
 replace M := M.call hb; clear hb
 refine Zg2 (v2 := (.agg #[.int .i64 s, .int .i64 lo, .int .i64 hi, .bool r])) T (Zq (Zrm rfl (T.e 8 rfl))) rfl (fun _ T => Zq (rn_build rfl (.cons (T.e 4 rfl) (.cons (T.e 1 rfl) (.cons (T.e 0 rfl) .nil))) (fun _ => by kernel_rfl))) rfl ?_; clear T ac; intro ac T
 refine Zl2 ?_
 refine Zos M T rfl rfl (T.e 6 rfl) (T.e 0 rfl) rfl .head rfl (by simp) rfl (by kernel_rfl) ?_; clear M T; intro wc ac M T
 replace T := T.pick [6] rfl
 refine Zln ?_
 refine wp_ret ?_
 refine rt_c M T rfl (T.e 0 rfl) (Zne (i := 0) rfl) rfl ?_
 exact ⟨rfl, M.below⟩
theorem folds_any  (w : World)  :
  Calls Try.prog 70 #[] w (FoldsPost w) := by
 refine Zpx noEx Try.func70 rfl 10 rfl [] rfl rfl (Mem.init w _) ?_
 intro ac wc T M
 refine Zsr ?_
 refine Zl2 ?_
 refine Zoa M T rfl rfl rfl rfl ?_; clear M T; intro g1 wc ac M T
 refine Zln ?_
 refine Zsr ?_
 refine Zl2 ?_
 refine Zoc (first := []) (cap := []) T rfl rfl rfl rfl evf (.cons evc (.cons evc .nil)) Try.func48 rfl rfl ?_
 refine Calls.mono (to_any 40 40 _) ?_
 clear T; rintro e wc ⟨rfl, hb⟩ ac T
 replace M := M.call hb; clear hb
 refine Zl2 ?_
 refine Zoc (first := []) (cap := []) T rfl rfl rfl rfl evf (.cons evc (.cons evc .nil)) Try.func48 rfl rfl ?_
 refine Calls.mono (to_any 0 2 _) ?_
 clear T; rintro e wc ⟨rfl, hb⟩ ac T
 replace M := M.call hb; clear hb
 refine Zl2 ?_
 refine Zoc (first := []) (cap := []) T rfl rfl rfl rfl evf (.cons evc (.cons evc .nil)) Try.func48 rfl rfl ?_
 refine Calls.mono (to_any 1 3 _) ?_
 clear T; rintro e wc ⟨rfl, hb⟩ ac T
 replace M := M.call hb; clear hb
 refine Zl2 ?_
 refine ow_bs (e := 23) [.int .i64 0, .int .i64 2, .int .i64 1, .int .i64 3] M T rfl rfl rfl rfl (.cons (T.e 1 rfl) (.cons (T.e 0 rfl) .nil)) (fun _ => by kernel_rfl) ?_; clear M T; intro g2 wc ac M T
 refine Zl2 ?_
 refine ow_bs (e := 3) [.int .i64 0, .int .i64 1] M T rfl rfl rfl rfl (.cons evc (.cons evc .nil)) (fun _ => by kernel_rfl) ?_; clear M T; intro g3 wc ac M T
 refine Zl2 ?_
 refine Zoc (first := []) (cap := []) T rfl rfl rfl rfl evf (.cons evc (.cons evc .nil)) Try.func48 rfl rfl ?_
 refine Calls.mono (to_any 25 30 _) ?_
 clear T; rintro e wc ⟨rfl, hb⟩ ac T
 replace M := M.call hb; clear hb
 refine lq (v := (.agg #[.slice (some ⟨g3, 0, none⟩) 2 2, .int .i64 10, .int .i64 25, .int .i64 30])) T (rn_build rfl (.cons (T.e 1 rfl) (.cons evc (.cons (T.e 0 rfl) .nil))) (fun _ => by kernel_rfl)) ?_; clear T ac; intro ac T
 refine Zl2 ?_
 refine ow_bs (e := 75) [.slice (some ⟨g3, 0, none⟩) 2 2, .int .i64 10, .int .i64 25, .int .i64 30] M T rfl rfl rfl rfl (.cons (T.e 0 rfl) .nil) (fun _ => by kernel_rfl) ?_; clear M T; intro g4 wc ac M T
 refine lq (v := (.agg #[.int .i64 100, .int .i64 40, .int .i64 40, .slice (some ⟨g2, 0, none⟩) 2 2, .slice (some ⟨g4, 0, none⟩) 1 1])) T (rn_build rfl (.cons evc (.cons (T.e 7 rfl) (.cons (T.e 4 rfl) (.cons (T.e 0 rfl) .nil)))) (fun _ => by kernel_rfl)) ?_; clear T ac; intro ac T
 refine Zl2 ?_
 refine Zos M T rfl rfl (T.e 9 rfl) (T.e 0 rfl) rfl (.tail (.tail (.tail .head))) rfl (by simp) rfl (by kernel_rfl) ?_; clear M T; intro wc ac M T
 replace T := T.pick [9] rfl
 refine Zln ?_
 refine wp_ret ?_
 refine rt_c M T rfl (T.e 0 rfl) (Zne (i := 3) rfl) rfl ?_
 refine ⟨some ⟨g2, 0, none⟩, 2, some ⟨g4, 0, none⟩, 1, some ⟨g3, 0, none⟩, 2, _, rfl, ⟨⟨g2, 0, fun w ex => (Sp.cells (g := g2) (xs := rc [(0, 2), (1, 3)]) (n := 2) (size := 2) (by rfl)).mono (.cons _ (.cons _ (List.Sublist.cons_cons _ (Zz9 _))))⟩, ⟨g4, 0, fun w ex => (Sp.cells (g := g4) (xs := lkc (fBw (some ⟨g3, 0, none⟩) 2).ts) (n := 1) (size := 4) (by rfl)).mono (List.Sublist.cons_cons _ (Zz9 _))⟩, fun t ht => ?_, by show 2 ≤ 1000; omega, by show 1 ≤ 1000; omega, fun t ht => ?_⟩, M⟩
 ·rw [List.mem_singleton.1 ht]
  exact ⟨g3, 0, fun w ex => (Sp.cells (g := g3) (xs := ic [0, 1]) (n := 2) (size := 1) (by rfl)).mono (.cons _ (List.Sublist.cons_cons _ (Zz9 _)))⟩
 ·rw [List.mem_singleton.1 ht]
  show 2 ≤ 1000
  omega
theorem piece4_any (r : Bool)  (w : World)  :
  Calls Try.prog 71 #[.bool r] w (PiecePost r w) := by
 refine Zpx noEx Try.func71 rfl 8 rfl [.bool r] rfl rfl (Mem.init w _) ?_
 intro ac wc T M
 refine Zsr ?_
 refine lq T (Zra rfl evc) ?_; clear T ac; intro ac T
 replace T := T.pick [1] rfl
 refine Zln ?_
 refine Zsr ?_
 refine Zl2 ?_
 refine Zoc (first := []) (cap := []) T rfl rfl rfl rfl evf (.cons evc (.cons evc (.cons evc (.cons evc .nil)))) Try.func44 rfl rfl ?_
 refine Calls.mono (note_any 4 2 3 false _) ?_
 clear T; rintro e wc ⟨rfl, hb⟩ ac T
 replace M := M.call hb; clear hb
 refine lq T (Zrm rfl (T.e 1 rfl)) ?_; clear T ac; intro ac T
 refine Zl2 ?_
 refine Zoc (first := []) (cap := []) T rfl rfl rfl rfl evf (.cons evc (.cons evc (.cons evc (.cons (T.e 0 rfl) .nil)))) Try.func44 rfl rfl ?_
 refine Calls.mono (note_any 5 3 3 r _) ?_
 clear T; rintro e wc ⟨rfl, hb⟩ ac T
 replace M := M.call hb; clear hb
 refine Zl2 ?_
 refine Zoc (first := []) (cap := []) T rfl rfl rfl rfl evf (.cons evc (.cons evc (.cons evc (.cons evc .nil)))) Try.func44 rfl rfl ?_
 refine Calls.mono (note_any 6 1 2 false _) ?_
 clear T; rintro e wc ⟨rfl, hb⟩ ac T
 replace M := M.call hb; clear hb
 refine Zl2 ?_
 refine ow_bs (e := 70) [.int .i64 4, .int .i64 2, .int .i64 3, .bool false, .int .i64 5, .int .i64 3, .int .i64 3, .bool r, .int .i64 6, .int .i64 1, .int .i64 2, .bool false] M T rfl rfl rfl rfl (.cons (T.e 3 rfl) (.cons (T.e 1 rfl) (.cons (T.e 0 rfl) .nil))) (fun _ => by kernel_rfl) ?_; clear M T; intro g1 wc ac M T
 refine lq T (Zra rfl (T.e 0 rfl)) ?_; clear T ac; intro ac T
 replace T := T.pick [0] rfl
 refine Zln ?_
 refine wp_ret ?_
 refine rt_1 T rfl (T.e 0 rfl) ?_
 exact ⟨_, rfl, M.mask [true] rfl⟩
theorem air_l (X : Option Addr) (xc : Nat) : lvlL (fBw X xc) (pT true) [1, 2, 2] = [(16, 20), (46, 50), (70, 80)] ∧ lvlE (fBw X xc) (pT true) [1, 2, 2] = 0 := ⟨by kernel_rfl, by kernel_rfl⟩
theorem air_t (X : Option Addr) (xc : Nat) : turL (fBw X xc) (pT true) = [1, 2, 2] ∧ turE (fBw X xc) (pT true) = 0 := ⟨by kernel_rfl, by kernel_rfl⟩
theorem air_m (X : Option Addr) (xc : Nat) : menL (fBw X xc) (pT false) = [0, 1] ∧ menE (fBw X xc) (pT false) = 0 := ⟨by kernel_rfl, by kernel_rfl⟩
theorem air_h (X : Option Addr) (xc : Nat) : holR (fBw X xc) 2 2 = (12, 12) ∧ holE (fBw X xc) 2 2 = 0 := ⟨by kernel_rfl, by kernel_rfl⟩
end
section
open Go.RowKit Go.Proofs.Ytoheddpnnjldgaa.Bq
theorem sameInts_same (A B : Option Addr) (n m c d : Nat) (l : List Int) (w : World) (ha : Rd w w.heap.size 1 A n (ic l)) (hb : Rd w w.heap.size 1 B m (ic l)) (hn : n ≤ 9223372036854775807) (hm : m ≤ 9223372036854775807) :
  Calls Try.prog 31 #[.slice A n c, .slice B m d] w fun e w' => e = .returned (.bool true) ∧ Below w.heap.size w w' := by
 have := sameInts_any A B n m c d l l w ha hb hn hm
 simpa using this
set_option maxHeartbeats 4000000 in
theorem airy_any {J : Nat → Option Obj} (hP : FuncsOk Try.prog)  (w : World)  :
  CallsB Try.prog J 16 #[] w fun e w' => e = .returned (.bool true) ∧ Below w.heap.size w w' := by
 refine px_enterB hP noEx Try.func16 rfl 76 rfl [] rfl rfl (Mem.init w _) ?_
 intro ac wc T M
 refine wpB_seq hP ?_
 refine b_lone hP w fun T9 => ?_
 replace M := M.tp T9 0 0
 refine wp_region_lit ?_
 refine lq T (Zra rfl evc) ?_; clear T ac; intro ac T
 refine wpList_nil ?_
 refine nqR_n M ?_; clear M; intro wc M
 replace T := T.pick [] rfl
 refine nm_then ?_
 refine wpB_seq hP ?_
 refine rB_preN hP w 3 (by decide) fun T9 => ?_
 replace M := M.tp T9 0 0
 refine Zl2 ?_
 refine Zoc (first := []) (cap := []) T rfl rfl rfl rfl evf .nil Try.func70 rfl rfl ?_
 refine Calls.mono (folds_any _) ?_
 clear T; rintro e wc ⟨Abu1, cbu1, Dbu1, dbu1, Xu1, xcu1, Ifu1, rfl, hInu1, N⟩ ac T
 replace M := (M.join N).swapI
 clear N
 replace M : Mem (Bq.tp w T9 0) noEx wc (Ifu1) := M
 refine Zl2 ?_
 refine Zoc (first := []) (cap := []) T rfl rfl rfl rfl evf (.cons evc .nil) Try.func71 rfl rfl ?_
 refine Calls.mono (piece4_any true _) ?_
 clear T; rintro e wc ⟨gpu2, rfl, N⟩ ac T
 have SPu2 := Sp.cells (w := (Bq.tp w T9 0)) (ex := noEx) (g := gpu2) (xs := ntc (pT true)) (n := 3) (size := 4) (by rfl)
 replace M := M.join N
 clear N
 replace M : Mem (Bq.tp w T9 0) noEx wc ((gpu2, .cells (ntc (pT true))) :: Ifu1) := M
 refine Zl2 ?_
 refine ow_bs (e := 3) [.int .i64 1, .int .i64 2, .int .i64 2] M T rfl rfl rfl rfl (.cons evc (.cons evc (.cons evc .nil))) (fun _ => by kernel_rfl) ?_; clear M T; intro g1 wc ac M T
 refine wpList_nil ?_
 refine pqR_n M ?_; clear M; intro wc M
 replace SPu2 := SPu2.pt
 obtain ⟨hA9, hD9, hop9⟩ := hInu1.rd M (.cons _ (.cons _ (List.Sublist.refl _)))
 obtain ⟨nA9, nD9, nop9⟩ := hInu1.few
 refine rB_call hP (m := 5) (first := []) (cap := []) T rfl rfl rfl rfl rfl evf (.cons (T.e 2 rfl) (.cons (T.e 1 rfl) (.cons (T.e 0 rfl) .nil))) Try.func36 rfl rfl (Levels_any hP (fBw Xu1 xcu1) Abu1 cbu1 Dbu1 dbu1 (pT true) (some ⟨gpu2, 0, none⟩) 3 (some ⟨g1, 0, none⟩) 3 ([1, 2, 2]) _ hA9 hD9 hop9 nA9 nD9 nop9 (SPu2.rd M (.cons _ (List.Sublist.cons_cons _ (Zz9 _)))) (by decide) (M.rdOwn (Zne (i := 0) rfl) rfl rfl) (by decide)) ?_
 clear T
 rintro e wc ⟨Aru3, cru3, Iru3, rfl, hrcu3, ⟨bru3, oru3, hSru3⟩, N⟩
 refine ⟨_, rfl, ?_⟩
 intro ac T
 rw [(air_l Xu1 xcu1).1] at T hSru3
 rw [(air_l Xu1 xcu1).2] at T
 replace M := (M.join N).swapI
 clear N
 replace M : Mem w noEx wc ((g1, .cells [.int .i64 1, .int .i64 2, .int .i64 2]) :: (gpu2, .cells (ntc (pT true))) :: (Ifu1 ++ Iru3)) := M
 have Sru3 := hSru3 w noEx
 refine rB_moreN hP w 5 0 rfl (by decide) fun T9 => ?_
 replace M := M.tp T9 0 0
 replace SPu2 := SPu2.tp T9 0
 replace Sru3 := Sru3.tp T9 0
 refine Zg5 T (Zq (Zrm rfl (T.e 0 rfl))) rfl (Ze 0 rfl rfl rfl) rfl (Ze 1 rfl rfl rfl) rfl (Za 1 rfl rfl) rfl (Za 1 rfl rfl) rfl ?_; clear T ac; intro ac T
 refine wpList_nil ?_
 refine pqR_n M ?_; clear M; intro wc M
 replace SPu2 := SPu2.pt
 replace Sru3 := Sru3.pt
 refine rB_nil hP ?_
 replace T := T.pick [0, 1] rfl
 replace M := M.mask [false, true] rfl
 refine nm_then ?_
 refine wpB_seq hP ?_
 refine rB_preN hP w 2 (by decide) fun T9 => ?_
 replace M := M.tp T9 0 0
 replace SPu2 := SPu2.tp T9 0
 replace Sru3 := Sru3.tp T9 0
 refine Zl2 ?_
 refine Zoc (first := []) (cap := []) T rfl rfl rfl rfl evf .nil Try.func70 rfl rfl ?_
 refine Calls.mono (folds_any _) ?_
 clear T; rintro e wc ⟨Abu4, cbu4, Dbu4, dbu4, Xu4, xcu4, Ifu4, rfl, hInu4, N⟩ ac T
 replace M := (M.join N).swapI
 clear N
 replace M : Mem (Bq.tp w T9 0) noEx wc ((gpu2, .cells (ntc (pT true))) :: (Ifu1 ++ Iru3 ++ Ifu4)) := M
 refine Zl2 ?_
 refine Zoc (first := []) (cap := []) T rfl rfl rfl rfl evf (.cons evc .nil) Try.func71 rfl rfl ?_
 refine Calls.mono (piece4_any true _) ?_
 clear T; rintro e wc ⟨gpu5, rfl, N⟩ ac T
 have SPu5 := Sp.cells (w := (Bq.tp w T9 0)) (ex := noEx) (g := gpu5) (xs := ntc (pT true)) (n := 3) (size := 4) (by rfl)
 replace M := M.join N
 clear N
 replace M : Mem (Bq.tp w T9 0) noEx wc ((gpu5, .cells (ntc (pT true))) :: (gpu2, .cells (ntc (pT true))) :: (Ifu1 ++ Iru3 ++ Ifu4)) := M
 refine wpList_nil ?_
 refine pqR_n M ?_; clear M; intro wc M
 replace SPu2 := SPu2.pt
 replace SPu5 := SPu5.pt
 replace Sru3 := Sru3.pt
 obtain ⟨hA9, hD9, hop9⟩ := hInu4.rd M (.cons _ (.cons _ (Zsq _ _)))
 obtain ⟨nA9, nD9, nop9⟩ := hInu4.few
 refine rB_call hP (m := 7) (first := []) (cap := []) T rfl rfl rfl rfl rfl evf (.cons (T.e 1 rfl) (.cons (T.e 0 rfl) .nil)) Try.func27 rfl rfl (Turns_any hP (fBw Xu4 xcu4) Abu4 cbu4 Dbu4 dbu4 (pT true) (some ⟨gpu5, 0, none⟩) 3 _ hA9 hD9 hop9 nA9 nD9 nop9 (SPu5.rd M (List.Sublist.cons_cons _ (Zz9 _))) (by decide)) ?_
 clear T
 rintro e wc ⟨Atu6, ctu6, Itu6, rfl, htcu6, ⟨btu6, otu6, hStu6⟩, N⟩
 refine ⟨_, rfl, ?_⟩
 intro ac T
 rw [(air_t Xu4 xcu4).1] at T hStu6
 rw [(air_t Xu4 xcu4).2] at T
 rw [show turnW [1, 2, 2] = 1 from rfl] at T
 replace M := (M.join N).swapI
 clear N
 replace M : Mem w noEx wc ((gpu5, .cells (ntc (pT true))) :: (gpu2, .cells (ntc (pT true))) :: (Ifu1 ++ Iru3 ++ Ifu4 ++ Itu6)) := M
 have Stu6 := hStu6 w noEx
 refine rB_moreN hP w 7 0 rfl (by decide) fun T9 => ?_
 replace M := M.tp T9 0 0
 replace SPu2 := SPu2.tp T9 0
 replace SPu5 := SPu5.tp T9 0
 replace Sru3 := Sru3.tp T9 0
 replace Stu6 := Stu6.tp T9 0
 refine Zg7 T (Zq (Zrm rfl (T.e 0 rfl))) rfl (Ze 0 rfl rfl rfl) rfl (Ze 1 rfl rfl rfl) rfl (Ze 2 rfl rfl rfl) rfl (Za 2 rfl rfl) rfl (Za 2 rfl rfl) rfl (Za 2 rfl rfl) rfl ?_; clear T ac; intro ac T
 refine wpList_nil ?_
 refine pqR_n M ?_; clear M; intro wc M
 replace SPu2 := SPu2.pt
 replace SPu5 := SPu5.pt
 replace Sru3 := Sru3.pt
 replace Stu6 := Stu6.pt
 refine rB_nil hP ?_
 replace T := T.pick [0, 1, 2, 10, 11] rfl
 refine nm_then ?_
 refine wpB_seq hP ?_
 refine rB_preN hP w 2 (by decide) fun T9 => ?_
 replace M := M.tp T9 0 0
 replace SPu2 := SPu2.tp T9 0
 replace SPu5 := SPu5.tp T9 0
 replace Sru3 := Sru3.tp T9 0
 replace Stu6 := Stu6.tp T9 0
 refine Zl2 ?_
 refine Zoc (first := []) (cap := []) T rfl rfl rfl rfl evf .nil Try.func70 rfl rfl ?_
 refine Calls.mono (folds_any _) ?_
 clear T; rintro e wc ⟨Abu7, cbu7, Dbu7, dbu7, Xu7, xcu7, Ifu7, rfl, hInu7, N⟩ ac T
 replace M := (M.join N).swapI
 clear N
 replace M : Mem (Bq.tp w T9 0) noEx wc ((gpu5, .cells (ntc (pT true))) :: (gpu2, .cells (ntc (pT true))) :: (Ifu1 ++ Iru3 ++ Ifu4 ++ Itu6 ++ Ifu7)) := M
 refine Zl2 ?_
 refine Zoc (first := []) (cap := []) T rfl rfl rfl rfl evf (.cons evc .nil) Try.func71 rfl rfl ?_
 refine Calls.mono (piece4_any false _) ?_
 clear T; rintro e wc ⟨gpu8, rfl, N⟩ ac T
 have SPu8 := Sp.cells (w := (Bq.tp w T9 0)) (ex := noEx) (g := gpu8) (xs := ntc (pT false)) (n := 3) (size := 4) (by rfl)
 replace M := M.join N
 clear N
 replace M : Mem (Bq.tp w T9 0) noEx wc ((gpu8, .cells (ntc (pT false))) :: (gpu5, .cells (ntc (pT true))) :: (gpu2, .cells (ntc (pT true))) :: (Ifu1 ++ Iru3 ++ Ifu4 ++ Itu6 ++ Ifu7)) := M
 refine wpList_nil ?_
 refine pqR_n M ?_; clear M; intro wc M
 replace SPu2 := SPu2.pt
 replace SPu5 := SPu5.pt
 replace SPu8 := SPu8.pt
 replace Sru3 := Sru3.pt
 replace Stu6 := Stu6.pt
 obtain ⟨hA9, hD9, hop9⟩ := hInu7.rd M (.cons _ (.cons _ (.cons _ (Zsq _ _))))
 obtain ⟨nA9, nD9, nop9⟩ := hInu7.few
 refine rB_call hP (m := 5) (first := []) (cap := []) T rfl rfl rfl rfl rfl evf (.cons (T.e 1 rfl) (.cons (T.e 0 rfl) .nil)) Try.func72 rfl rfl (Mend_any hP (fBw Xu7 xcu7) Abu7 cbu7 Dbu7 dbu7 (pT false) (some ⟨gpu8, 0, none⟩) 3 _ hA9 hD9 hop9 nA9 nD9 nop9 (SPu8.rd M (List.Sublist.cons_cons _ (Zz9 _))) (by decide)) ?_
 clear T
 rintro e wc ⟨Amu9, cmu9, Imu9, rfl, hmcu9, ⟨bmu9, omu9, hSmu9⟩, N⟩
 refine ⟨_, rfl, ?_⟩
 intro ac T
 rw [(air_m Xu7 xcu7).1] at T hSmu9
 rw [(air_m Xu7 xcu7).2] at T
 replace M := (M.join N).swapI
 clear N
 replace M : Mem w noEx wc ((gpu8, .cells (ntc (pT false))) :: (gpu5, .cells (ntc (pT true))) :: (gpu2, .cells (ntc (pT true))) :: (Ifu1 ++ Iru3 ++ Ifu4 ++ Itu6 ++ Ifu7 ++ Imu9)) := M
 have Smu9 := hSmu9 w noEx
 refine rB_moreN hP w 5 0 rfl (by decide) fun T9 => ?_
 replace M := M.tp T9 0 0
 replace SPu2 := SPu2.tp T9 0
 replace SPu5 := SPu5.tp T9 0
 replace SPu8 := SPu8.tp T9 0
 replace Smu9 := Smu9.tp T9 0
 replace Sru3 := Sru3.tp T9 0
 replace Stu6 := Stu6.tp T9 0
 refine Zg5 T (Zq (Zrm rfl (T.e 0 rfl))) rfl (Ze 0 rfl rfl rfl) rfl (Ze 1 rfl rfl rfl) rfl (Za 1 rfl rfl) rfl (Za 1 rfl rfl) rfl ?_; clear T ac; intro ac T
 refine wpList_nil ?_
 refine pqR_n M ?_; clear M; intro wc M
 replace SPu2 := SPu2.pt
 replace SPu5 := SPu5.pt
 replace SPu8 := SPu8.pt
 replace Smu9 := Smu9.pt
 replace Sru3 := Sru3.pt
 replace Stu6 := Stu6.pt
 refine rB_nil hP ?_
 replace T := T.pick [0, 1, 8, 9, 10, 11, 12] rfl
 refine nm_then ?_
 refine wpB_seq hP ?_
 refine rB_preN hP w 1 (by decide) fun T9 => ?_
 replace M := M.tp T9 0 0
 replace SPu2 := SPu2.tp T9 0
 replace SPu5 := SPu5.tp T9 0
 replace SPu8 := SPu8.tp T9 0
 replace Smu9 := Smu9.tp T9 0
 replace Sru3 := Sru3.tp T9 0
 replace Stu6 := Stu6.tp T9 0
 refine Zl2 ?_
 refine Zoc (first := []) (cap := []) T rfl rfl rfl rfl evf .nil Try.func70 rfl rfl ?_
 refine Calls.mono (folds_any _) ?_
 clear T; rintro e wc ⟨Abu10, cbu10, Dbu10, dbu10, Xu10, xcu10, Ifu10, rfl, hInu10, N⟩ ac T
 replace M := (M.join N).swapI
 clear N
 replace M : Mem (Bq.tp w T9 0) noEx wc ((gpu8, .cells (ntc (pT false))) :: (gpu5, .cells (ntc (pT true))) :: (gpu2, .cells (ntc (pT true))) :: (Ifu1 ++ Iru3 ++ Ifu4 ++ Itu6 ++ Ifu7 ++ Imu9 ++ Ifu10)) := M
 refine wpList_nil ?_
 refine pqR_n M ?_; clear M; intro wc M
 replace SPu2 := SPu2.pt
 replace SPu5 := SPu5.pt
 replace SPu8 := SPu8.pt
 replace Smu9 := Smu9.pt
 replace Sru3 := Sru3.pt
 replace Stu6 := Stu6.pt
 obtain ⟨hA9, hD9, hop9⟩ := hInu10.rd M (.cons _ (.cons _ (.cons _ (Zsq _ _))))
 obtain ⟨nA9, nD9, nop9⟩ := hInu10.few
 refine rB_call hP (m := 6) (first := []) (cap := []) T rfl rfl rfl rfl rfl evf (.cons (T.e 0 rfl) (.cons evc (.cons evc .nil))) Try.func22 rfl rfl (Holds_any hP (fBw Xu10 xcu10) Abu10 cbu10 Dbu10 dbu10 2 2 _ hA9 hD9 hop9 nA9 nD9 nop9 ) ?_
 clear T
 rintro e wc ⟨rfl, hb⟩
 refine ⟨_, rfl, ?_⟩
 intro ac T
 rw [(air_h Xu10 xcu10).1, (air_h Xu10 xcu10).2] at T
 replace M := M.call hb; clear hb
 refine rB_moreN hP w 6 0 rfl (by decide) fun T9 => ?_
 replace M := M.tp T9 0 0
 replace SPu2 := SPu2.tp T9 0
 replace SPu5 := SPu5.tp T9 0
 replace SPu8 := SPu8.tp T9 0
 replace Smu9 := Smu9.tp T9 0
 replace Sru3 := Sru3.tp T9 0
 replace Stu6 := Stu6.tp T9 0
 refine Zg3 T (Zq (Zrm rfl (T.e 0 rfl))) rfl (Ze 0 rfl rfl rfl) rfl (Ze 1 rfl rfl rfl) rfl ?_; clear T ac; intro ac T
 refine Zl2 ?_
 refine Zoa M T rfl rfl rfl rfl ?_; clear M T; intro g2 wc ac M T
 refine Zl2 ?_
 refine Zos M T rfl rfl (T.e 0 rfl) (T.e 2 rfl) rfl .head rfl (by simp) rfl (by kernel_rfl) ?_; clear M T; intro wc ac M T
 refine lq T (Zra rfl (T.e 1 rfl)) ?_; clear T ac; intro ac T
 refine wpList_nil ?_
 refine pqR_n M ?_; clear M; intro wc M
 replace SPu2 := SPu2.pt
 replace SPu5 := SPu5.pt
 replace SPu8 := SPu8.pt
 replace Smu9 := Smu9.pt
 replace Sru3 := Sru3.pt
 replace Stu6 := Stu6.pt
 refine rB_nil hP ?_
 replace T := T.pick [0, 1, 7, 8, 9, 10, 11, 12, 13] rfl
 refine nm_then ?_
 refine wpB_seq hP ?_
 refine b_lone hP w fun T9 => ?_
 replace M := M.tp T9 0 0
 replace SPu2 := SPu2.tp T9 0
 replace SPu5 := SPu5.tp T9 0
 replace SPu8 := SPu8.tp T9 0
 replace Smu9 := Smu9.tp T9 0
 replace Sru3 := Sru3.tp T9 0
 replace Stu6 := Stu6.tp T9 0
 refine Zgs M (M.mask [true, true, true, true] rfl) 42 (by kernel_rfl) rfl (by kernel_rfl) ?_
 clear M; intro wc M
 refine gq T 0 1 rfl (fun _ _ _ _ _ => (Zrm rfl (T.e 7 rfl))) ?_; clear T ac; intro ac T
 refine gq (v := (.bool true)) T 1 3 rfl (fun _ _ _ _ _ => (Zrq (rn_eql rfl (T.e 0 rfl) evc) (by simp))) ?_; clear T ac; intro ac T
 refine gq T 2 7 rfl (fun _ _ _ _ _ => (Zrm rfl (T.e 0 rfl))) ?_; clear T ac; intro ac T
 refine g_q (T := T) (i := 3) rfl (by kernel_rfl) (by kernel_rfl : (Zpb 42 7).setIfInBounds 3 true = Zpb 42 15) si_U (fun _ _ _ h => h) (Zwy rfl rfl (T.e 0 rfl) rfl) rfl rfl rfl (fun _ _ _ _ _ => (Zrm rfl (T.e 7 rfl))) ?_; clear T ac; intro ac T
 refine g_q (v := (.bool true)) (T := T) (i := 4) rfl (by kernel_rfl) (by kernel_rfl : (Zpb 42 15).setIfInBounds 4 true = Zpb 42 31) si_U (fun _ _ _ h => h) (Zwy rfl rfl (T.e 1 rfl) rfl) rfl rfl rfl (fun _ _ _ _ _ => (Zrq (rn_eql rfl (T.e 0 rfl) evc) (by simp))) ?_; clear T ac; intro ac T
 refine gq T 5 63 rfl (fun _ _ _ _ _ => (Zr1 rfl (T.e 2 rfl) rfl (T.e 0 rfl))) ?_; clear T ac; intro ac T
 refine gq T 6 127 rfl (fun _ _ _ _ _ => (Zrm rfl (T.e 0 rfl))) ?_; clear T ac; intro ac T
 refine g_q (T := T) (i := 7) rfl (by kernel_rfl) (by kernel_rfl : (Zpb 42 127).setIfInBounds 7 true = Zpb 42 255) si_U (fun _ _ _ h => h) (Zwy rfl rfl (T.e 0 rfl) rfl) rfl rfl rfl (fun _ _ _ _ _ => (Zrm rfl (T.e 9 rfl))) ?_; clear T ac; intro ac T
 refine g_q (v := (.bool true)) (T := T) (i := 8) rfl (by kernel_rfl) (by kernel_rfl : (Zpb 42 255).setIfInBounds 8 true = Zpb 42 511) si_U (fun _ _ _ h => h) (Zwy rfl rfl (T.e 1 rfl) rfl) rfl rfl rfl (fun _ _ _ _ _ => (Zrq (rn_eql rfl (T.e 0 rfl) evc) (by simp))) ?_; clear T ac; intro ac T
 refine gq T 9 1023 rfl (fun _ _ _ _ _ => (Zr1 rfl (T.e 2 rfl) rfl (T.e 0 rfl))) ?_; clear T ac; intro ac T
 refine gq T 10 2047 rfl (fun _ _ _ _ _ => (Zrm rfl (T.e 0 rfl))) ?_; clear T ac; intro ac T
 refine g_q (T := T) (i := 11) rfl (by kernel_rfl) (by kernel_rfl : (Zpb 42 2047).setIfInBounds 11 true = Zpb 42 4095) si_U (fun _ _ _ h => h) (Zwy rfl rfl (T.e 0 rfl) rfl) rfl rfl rfl (fun _ _ _ _ _ => (Zrm rfl (T.e 11 rfl))) ?_; clear T ac; intro ac T
 refine g_q (v := (.bool true)) (T := T) (i := 12) rfl (by kernel_rfl) (by kernel_rfl : (Zpb 42 4095).setIfInBounds 12 true = Zpb 42 8191) si_U (fun _ _ _ h => h) (Zwy rfl rfl (T.e 1 rfl) rfl) rfl rfl rfl (fun _ _ _ _ _ => (Zrq (rn_eql rfl (T.e 0 rfl) evc) (by simp))) ?_; clear T ac; intro ac T
 refine gq T 13 16383 rfl (fun _ _ _ _ _ => (Zr1 rfl (T.e 2 rfl) rfl (T.e 0 rfl))) ?_; clear T ac; intro ac T
 refine gq T 14 32767 rfl (fun _ _ _ _ _ => (Zrm rfl (T.e 0 rfl))) ?_; clear T ac; intro ac T
 refine g_q (T := T) (i := 15) rfl (by kernel_rfl) (by kernel_rfl : (Zpb 42 32767).setIfInBounds 15 true = Zpb 42 65535) si_U (fun _ _ _ h => h) (Zwy rfl rfl (T.e 0 rfl) rfl) rfl rfl rfl (fun _ _ _ _ _ => (Zrm rfl (T.e 20 rfl))) ?_; clear T ac; intro ac T
 refine g_q (v := (.bool true)) (T := T) (i := 16) rfl (by kernel_rfl) (by kernel_rfl : (Zpb 42 65535).setIfInBounds 16 true = Zpb 42 131071) si_U (fun _ _ _ h => h) (Zwy rfl rfl (T.e 1 rfl) rfl) rfl rfl rfl (fun _ _ _ _ _ => (Zrq (rn_eql rfl (T.e 0 rfl) evc) (by simp))) ?_; clear T ac; intro ac T
 refine gq T 17 262143 rfl (fun _ _ _ _ _ => (Zr1 rfl (T.e 2 rfl) rfl (T.e 0 rfl))) ?_; clear T ac; intro ac T
 refine gq T 18 524287 rfl (fun _ _ _ _ _ => (Zrm rfl (T.e 0 rfl))) ?_; clear T ac; intro ac T
 refine g_q (T := T) (i := 19) rfl (by kernel_rfl) (by kernel_rfl : (Zpb 42 524287).setIfInBounds 19 true = Zpb 42 1048575) si_U (fun _ _ _ h => h) (Zwy rfl rfl (T.e 0 rfl) rfl) rfl rfl rfl (fun B w' hD hl hS => (Zrr (Mem.nth (show Mem (Bq.tp w T9 0) noEx w' _ from hS) 0 rfl) rfl (T.e 20 rfl) rfl)) ?_; clear T ac; intro ac T
 refine g_w (i := 20) (by kernel_rfl) rfl (by kernel_rfl : (Zpb 42 1048575).setIfInBounds 20 true = Zpb 42 2097151) (Zwy rfl rfl (T.e 1 rfl) rfl) ?_; intro K hK
 refine Zoc (first := []) (cap := []) T rfl rfl rfl rfl evf (.cons evc (.cons evc .nil)) Try.func48 rfl rfl ?_
 refine Calls.mono (to_any 12 12 _) ?_
 clear T; rintro e wc ⟨rfl, hb⟩ ac T
 replace M := M.call hb; clear hb
 refine Zso hK _ _ (M.mask [true, true, true, true] rfl) ?_; clear hK K
 refine g_q (v := (.bool true)) (T := T) (i := 21) rfl (by kernel_rfl) (by kernel_rfl : (Zpb 42 2097151).setIfInBounds 21 true = Zpb 42 4194303) si_U (fun _ _ _ h => h) (Zwy rfl rfl (T.e 2 rfl) rfl) rfl rfl rfl (fun _ _ _ _ _ => (Zrq (rn_bin rfl (T.e 1 rfl) (T.e 0 rfl) eqT23) (by simp))) ?_; clear T ac; intro ac T
 refine gq T 22 8388607 rfl (fun _ _ _ _ _ => (Zr1 rfl (T.e 3 rfl) rfl (T.e 0 rfl))) ?_; clear T ac; intro ac T
 refine gq T 23 16777215 rfl (fun _ _ _ _ _ => (Zrm rfl (T.e 0 rfl))) ?_; clear T ac; intro ac T
 refine g_q (T := T) (i := 24) rfl (by kernel_rfl) (by kernel_rfl : (Zpb 42 16777215).setIfInBounds 24 true = Zpb 42 33554431) si_U (fun _ _ _ h => h) (Zwy rfl rfl (T.e 0 rfl) rfl) rfl rfl rfl (fun _ _ _ _ _ => (Zrm rfl (T.e 30 rfl))) ?_; clear T ac; intro ac T
 refine g_w (i := 25) (by kernel_rfl) rfl (by kernel_rfl : (Zpb 42 33554431).setIfInBounds 25 true = Zpb 42 67108863) (Zwy rfl rfl (T.e 1 rfl) rfl) ?_; intro K hK
 refine ow_bs (e := 3) [.int .i64 1, .int .i64 2, .int .i64 2] M T rfl rfl rfl rfl (.cons evc (.cons evc (.cons evc .nil))) (fun _ => by kernel_rfl) ?_; clear M T; intro g3 wc ac M T
 refine Zso hK _ _ (M.mask [false, true, true, true, true] rfl) ?_; clear hK K
 refine g_w (i := 26) (by kernel_rfl) rfl (by kernel_rfl : (Zpb 42 67108863).setIfInBounds 26 true = Zpb 42 134217727) (Zwy rfl rfl (T.e 2 rfl) rfl) ?_; intro K hK
 refine Zoc (first := []) (cap := []) T rfl rfl rfl rfl evf (.cons (T.e 1 rfl) (.cons (T.e 0 rfl) .nil)) Try.func31 rfl rfl ?_
 refine Calls.mono (sameInts_same _ _ _ _ _ _ ([1, 2, 2]) _ (Stu6.rd M (.cons _ (.cons _ (.cons _ (.cons _ (.cons _ (subL (subL (subL (Zsq _ _)))))))))) (M.rdOwn (Zne (i := 0) rfl) rfl rfl) (by first | omega | decide | (simp; omega)) (by first | omega | decide | (simp; omega))) ?_
 clear T; rintro e wc ⟨rfl, hb⟩ ac T
 replace M := M.call hb; clear hb
 refine Zso hK _ _ (M.mask [false, true, true, true, true] rfl) ?_; clear hK K
 refine gq T 27 268435455 rfl (fun _ _ _ _ _ => (Zr1 rfl (T.e 3 rfl) rfl (T.e 0 rfl))) ?_; clear T ac; intro ac T
 refine gq T 28 536870911 rfl (fun _ _ _ _ _ => (Zrm rfl (T.e 0 rfl))) ?_; clear T ac; intro ac T
 refine g_q (T := T) (i := 29) rfl (by kernel_rfl) (by kernel_rfl : (Zpb 42 536870911).setIfInBounds 29 true = Zpb 42 1073741823) si_U (fun _ _ _ h => h) (Zwy rfl rfl (T.e 0 rfl) rfl) rfl rfl rfl (fun _ _ _ _ _ => (Zrm rfl (T.e 32 rfl))) ?_; clear T ac; intro ac T
 refine g_w (i := 30) (by kernel_rfl) rfl (by kernel_rfl : (Zpb 42 1073741823).setIfInBounds 30 true = Zpb 42 2147483647) (Zwy rfl rfl (T.e 1 rfl) rfl) ?_; intro K hK
 refine ow_bs (e := 3) [.int .i64 0, .int .i64 1] M T rfl rfl rfl rfl (.cons evc (.cons evc .nil)) (fun _ => by kernel_rfl) ?_; clear M T; intro g4 wc ac M T
 refine Zso hK _ _ (M.mask [false, false, true, true, true, true] rfl) ?_; clear hK K
 refine g_w (i := 31) (by kernel_rfl) rfl (by kernel_rfl : (Zpb 42 2147483647).setIfInBounds 31 true = Zpb 42 4294967295) (Zwy rfl rfl (T.e 2 rfl) rfl) ?_; intro K hK
 refine Zoc (first := []) (cap := []) T rfl rfl rfl rfl evf (.cons (T.e 1 rfl) (.cons (T.e 0 rfl) .nil)) Try.func31 rfl rfl ?_
 refine Calls.mono (sameInts_same _ _ _ _ _ _ ([0, 1]) _ (Smu9.rd M (.cons _ (.cons _ (.cons _ (.cons _ (.cons _ (.cons _ (subL (Zsq _ _))))))))) (M.rdOwn (Zne (i := 0) rfl) rfl rfl) (by first | omega | decide | (simp; omega)) (by first | omega | decide | (simp; omega))) ?_
 clear T; rintro e wc ⟨rfl, hb⟩ ac T
 replace M := M.call hb; clear hb
 refine Zso hK _ _ (M.mask [false, false, true, true, true, true] rfl) ?_; clear hK K
 refine gq T 32 8589934591 rfl (fun _ _ _ _ _ => (Zr1 rfl (T.e 3 rfl) rfl (T.e 0 rfl))) ?_; clear T ac; intro ac T
 refine gq T 33 17179869183 rfl (fun _ _ _ _ _ => (Zrm rfl (T.e 0 rfl))) ?_; clear T ac; intro ac T
 refine g_q (T := T) (i := 34) rfl (by kernel_rfl) (by kernel_rfl : (Zpb 42 17179869183).setIfInBounds 34 true = Zpb 42 34359738367) si_U (fun _ _ _ h => h) (Zwy rfl rfl (T.e 0 rfl) rfl) rfl rfl rfl (fun _ _ _ _ _ => (Zrm rfl (T.e 42 rfl))) ?_; clear T ac; intro ac T
 refine g_w (i := 35) (by kernel_rfl) rfl (by kernel_rfl : (Zpb 42 34359738367).setIfInBounds 35 true = Zpb 42 68719476735) (Zwy rfl rfl (T.e 1 rfl) rfl) ?_; intro K hK
 refine Zoc (first := []) (cap := []) T rfl rfl rfl rfl evf (.cons evc (.cons evc .nil)) Try.func48 rfl rfl ?_
 refine Calls.mono (to_any 16 20 _) ?_
 clear T; rintro e wc ⟨rfl, hb⟩ ac T
 replace M := M.call hb; clear hb
 refine Zso hK _ _ (M.mask [false, false, true, true, true, true] rfl) ?_; clear hK K
 refine g_w (i := 36) (by kernel_rfl) rfl (by kernel_rfl : (Zpb 42 68719476735).setIfInBounds 36 true = Zpb 42 137438953471) (Zwy rfl rfl (T.e 2 rfl) rfl) ?_; intro K hK
 refine Zoc (first := []) (cap := []) T rfl rfl rfl rfl evf (.cons evc (.cons evc .nil)) Try.func48 rfl rfl ?_
 refine Calls.mono (to_any 46 50 _) ?_
 clear T; rintro e wc ⟨rfl, hb⟩ ac T
 replace M := M.call hb; clear hb
 refine Zso hK _ _ (M.mask [false, false, true, true, true, true] rfl) ?_; clear hK K
 refine g_w (i := 37) (by kernel_rfl) rfl (by kernel_rfl : (Zpb 42 137438953471).setIfInBounds 37 true = Zpb 42 274877906943) (Zwy rfl rfl (T.e 3 rfl) rfl) ?_; intro K hK
 refine Zoc (first := []) (cap := []) T rfl rfl rfl rfl evf (.cons evc (.cons evc .nil)) Try.func48 rfl rfl ?_
 refine Calls.mono (to_any 70 80 _) ?_
 clear T; rintro e wc ⟨rfl, hb⟩ ac T
 replace M := M.call hb; clear hb
 refine Zso hK _ _ (M.mask [false, false, true, true, true, true] rfl) ?_; clear hK K
 refine g_w (i := 38) (by kernel_rfl) rfl (by kernel_rfl : (Zpb 42 274877906943).setIfInBounds 38 true = Zpb 42 549755813887) (Zwy rfl rfl (T.e 4 rfl) rfl) ?_; intro K hK
 refine ow_bs (e := 23) [.int .i64 16, .int .i64 20, .int .i64 46, .int .i64 50, .int .i64 70, .int .i64 80] M T rfl rfl rfl rfl (.cons (T.e 2 rfl) (.cons (T.e 1 rfl) (.cons (T.e 0 rfl) .nil))) (fun _ => by kernel_rfl) ?_; clear M T; intro g5 wc ac M T
 refine Zso hK _ _ (M.mask [false, false, false, true, true, true, true] rfl) ?_; clear hK K
 refine g_w (i := 39) (by kernel_rfl) rfl (by kernel_rfl : (Zpb 42 549755813887).setIfInBounds 39 true = Zpb 42 1099511627775) (Zwy rfl rfl (T.e 5 rfl) rfl) ?_; intro K hK
 refine Zoc (first := []) (cap := []) T rfl rfl rfl rfl evf (.cons (T.e 4 rfl) (.cons (T.e 0 rfl) .nil)) Try.func42 rfl rfl ?_
 refine Calls.mono (sameRanges_same _ _ _ _ _ _ [(16, 20), (46, 50), (70, 80)] _ (Sru3.rd M (.cons _ (.cons _ (.cons _ (.cons _ (.cons _ (.cons _ (.cons _ (subL (subL (subL (subL (subL (Zsq _ _)))))))))))))) (M.rdOwn (Zne (i := 0) rfl) rfl rfl) (by first | omega | decide) (by first | omega | decide)) ?_
 clear T; rintro e wc ⟨rfl, hb⟩ ac T
 replace M := M.call hb; clear hb
 refine Zso hK _ _ (M.mask [false, false, false, true, true, true, true] rfl) ?_; clear hK K
 refine gq T 40 2199023255551 rfl (fun _ _ _ _ _ => (Zr1 rfl (T.e 6 rfl) rfl (T.e 0 rfl))) ?_; clear T ac; intro ac T
 refine gq T 41 4398046511103 rfl (fun _ _ _ _ _ => (Zra rfl (T.e 0 rfl))) ?_; clear T ac; intro ac T
 refine Zgd (by kernel_rfl) ?_
 refine nqR_n M ?_; clear M; intro wc M
 replace SPu2 := SPu2.pt
 replace SPu5 := SPu5.pt
 replace SPu8 := SPu8.pt
 replace Smu9 := Smu9.pt
 replace Sru3 := Sru3.pt
 replace Stu6 := Stu6.pt
 replace T := T.pick [0] rfl
 replace M := M.mask [false, false, false, false, true, true, true] rfl
 replace M : Mem w noEx wc ((gpu8, .cells (ntc (pT false))) :: (gpu5, .cells (ntc (pT true))) :: (gpu2, .cells (ntc (pT true))) :: (Ifu1 ++ Iru3 ++ Ifu4 ++ Itu6 ++ Ifu7 ++ Imu9 ++ Ifu10)) := M
 refine nm_then ?_
 refine wpB_ret hP ?_
 refine rt_1 T rfl (T.e 0 rfl) ?_
 exact ⟨rfl, M.below⟩
end
end Go.Proofs.Ytoheddpnnjldgaa


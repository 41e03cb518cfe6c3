/-
  Walks of functions, and plain laws (texts put together). No condition.
-/
import Derived.Test.YtaikhendogcflaaGreatDoorMSheetRead1
import Derived.Test.YtaikhendogcflaaGreatDoorMSheetRead2
import Derived.Test.YtaikhendogcflaaGreatDoorMSheetRead3
set_option maxRecDepth 100000
set_option maxHeartbeats 1000000
set_option linter.unusedSimpArgs false
set_option linter.unusedVariables false
namespace Go.Proofs.YtaikhendogcflaaGreatDoor
open Go.RowKit
theorem Mem.joinEI {g : Nat} {w0 w w' : World} {ex : Nat → Prop} {L L' I : List (Nat × BA)} {p p' : BA} (M : Mem w0 ex w L) (N : Mem w (fun b => b = g) w' ((g, p') :: I)) (hu : Upd L g p p' L') : Mem w0 ex w' (L' ++ I) := by
 have N1 : Mem w (fun b => b = g) w' [(g, p')] := N.sub (List.Sublist.cons_cons _ (Zz9 _))
 have M1 := M.joinE N1 hu
 have hI : ∀ q ∈ I, w.heap.size ≤ q.1 := fun q hq => by
   rcases (N.blk q (Zz1 hq)).1 with h | h
   · exact h
   · exact ((List.nodup_cons.1 N.nd).1 (List.mem_map.2 ⟨q, hq, h⟩)).elim
 have hL : ∀ q ∈ L', q.1 < w.heap.size := fun q hq => by
   have h1 : q.1 ∈ L'.map (·.1) := List.mem_map_of_mem hq
   rw [hu.keys] at h1
   obtain ⟨r, hr, e⟩ := List.mem_map.1 h1
   rw [← e]
   exact BA.lt (M.blk r hr).2
 refine ⟨M1.os, M1.tape, M1.output, M1.size, M1.block, fun q hq => ?_, ?_⟩
 · rcases List.mem_append.1 hq with hq | hq
   · exact M1.blk q hq
   · exact ⟨.inl (Nat.le_trans M.size (hI q hq)), (N.blk q (Zz1 hq)).2⟩
 · rw [List.map_append]
   refine List.nodup_append.2 ⟨M1.nd, (List.nodup_cons.1 N.nd).2, fun i hi j hj e => ?_⟩
   obtain ⟨q, hq, rfl⟩ := List.mem_map.1 hi
   obtain ⟨r, hr, rfl⟩ := List.mem_map.1 hj
   have := hL q hq
   have := hI r hr
   omega
def ShsPost (a c : Int) (s : Sk) (w : World) (e9 : Ending) (w' : World) : Prop := ∃ (bA : Option Addr) (bc : Nat) (bl : List Int) (bn : Nat) (bi : Bool) (I : List (Nat × BA)), e9 = .returned (.tuple #[.slice bA bl.length bc, .int .i64 (bn : Int), .bool bi]) ∧ fewF (fun x : List Int × Nat => willV a c s x.1 x.2) (asgP s.ps.length [] 0) = (if bi = true then some (bl, bn) else none) ∧ bl.length ≤ bc ∧ (∃ b o, ∀ (w1 : World) (ex : Nat → Prop), Sp w1 ex I bA bl.length 1 b o (ic bl)) ∧ Mem w noEx w' I
theorem shs_any (s : Sk) (A : Option Addr) (d : Nat) (a c : Int) (ga gc : Nat)  (w : World) (ha : 0 ≤ a ∧ a ≤ 2) (hc : 0 ≤ c ∧ c ≤ 2) (hg : ∀ p ∈ s.ps, p.good) (h5 : s.ps.length ≤ 5) (hlo : 0 ≤ s.lo ∧ s.lo ≤ 12) (hwi : 0 ≤ s.wi ∧ s.wi ≤ 12) (hd : s.ps.length ≤ d) (qa : Bk w ga #[.int .i64 a]) (qc : Bk w gc #[.int .i64 c]) (hA : Rd w w.heap.size 4 A s.ps.length (pc s.ps)) (hT : TabW w)  :
  Calls Tryz.prog 128 #[.agg #[.int .i64 s.lo, .int .i64 s.wi, .int .i64 s.a0, .int .i64 s.a1, .int .i64 s.c0, .int .i64 s.c1, .slice A s.ps.length d, .func (.func 183) #[] #[.pointer (some ⟨ga, 0, none⟩)], .func (.func 184) #[] #[.pointer (some ⟨gc, 0, none⟩)]]] w (ShsPost a c s w) := by
 have he0 : PlW w w.heap.size a c ga gc A s.ps := ⟨qa, qc, hA, qa.lt, qc.lt, hT.lt, Nat.le_refl _, hT⟩
 refine Zpx noEx Tryz.func128 rfl 17 rfl [.agg #[.int .i64 s.lo, .int .i64 s.wi, .int .i64 s.a0, .int .i64 s.a1, .int .i64 s.c0, .int .i64 s.c1, .slice A s.ps.length d, .func (.func 183) #[] #[.pointer (some ⟨ga, 0, none⟩)], .func (.func 184) #[] #[.pointer (some ⟨gc, 0, none⟩)]]] rfl rfl (Mem.init w _) ?_
 intro ac wc T M
 refine Zsr ?_
 refine Zl2 ?_
 refine Zob M T rfl rfl rfl rfl (T.e 0 rfl) rfl ?_; clear M T; intro g1 wc ac M T
 refine Zg3 T (Zq (Zra rfl evc)) rfl (Zc rfl) rfl (Zc rfl) rfl ?_; clear T ac; intro ac T
 replace T := T.pick [3] rfl
 refine Zln ?_
 refine Zsr ?_
 refine Zl2 ?_
 refine ow_mmM (okW a c s) M T rfl Tryz.underlying272 rfl rfl rfl ?_; clear M T; intro g2 wc ac M T
 refine Zl2 ?_
 refine Zoa M T rfl rfl rfl rfl ?_; clear M T; intro g3 wc ac M T
 refine Zl2 ?_
 refine Zos M T rfl rfl (T.e 0 rfl) (T.e 1 rfl) rfl .head rfl (by simp) rfl (by kernel_rfl) ?_; clear M T; intro wc ac M T
 replace T := T.pick [0, 2] rfl
 refine Zln ?_
 refine Zsr ?_
 refine Zg4 (v1 := (.pointer (some ⟨g1, 0, none⟩))) (v2 := (.pointer (some ⟨g1, 6, none⟩))) T (Zq (Zrf (off := 0) rfl (T.e 1 rfl) (fun _ _ _ => by kernel_rfl))) rfl (Zf 6 0 rfl rfl) rfl (Zo M 2 0 rfl rfl rfl rfl) rfl (Zl Tryz.underlying47 0 rfl rfl) rfl ?_; clear T ac; intro ac T
 refine Zl2 ?_
 refine Zoc (first := []) (cap := []) T rfl rfl rfl rfl evf (.cons (T.e 0 rfl) .nil) Tryz.func190 rfl rfl ?_
 refine Calls.mono (asg_any s.ps.length _) ?_
 clear T; rintro e wc ⟨gu1, rfl, N⟩ ac T
 replace M := M.join N; clear N
 replace M := M.mask [true, true, true, true] rfl
 refine lq (v := (.func (.func 191) #[] #[.pointer (some ⟨g1, 0, none⟩), .pointer (some ⟨g3, 0, none⟩)])) T (rn_makeFunc rfl .nil (.cons (T.e 6 rfl) (.cons (T.e 5 rfl) .nil))) ?_; clear T ac; intro ac T
 refine Zl2 ?_
 refine Zoc (first := []) (cap := []) T rfl rfl rfl rfl evf (.cons (T.e 1 rfl) (.cons (T.e 0 rfl) .nil)) Tryz.func189 rfl rfl ?_
 refine Calls.mono (few_any s A d a c ga gc g1 g3 w.heap.size g2 gu1 _ ha hc hg h5 hlo hwi hd (M.ge (Zne (i := 2) rfl)) (he0.mem M (fun b h => h.elim)) (M.nth 3 rfl) (M.nth 1 rfl) (M.at (Zne (i := 2) rfl)) (M.nth 0 rfl)) ?_
 clear T; rintro e wc ⟨bA, bc, bl, bn, bi, rfl, hFd, hcp, IRu2, SR, N⟩ ac T
 replace M := M.joinEI N (.tail (.tail .head))
 clear N
 replace M : Mem w noEx wc ((gu1, .cells [.int .i64 ((s.ps.length : Nat) : Int)]) :: (g3, .cells [.map (some g2)]) :: (g2, .any (memoQ Tryz.prog 191 (okW a c s))) :: (g1, .cells [.int .i64 s.lo, .int .i64 s.wi, .int .i64 s.a0, .int .i64 s.a1, .int .i64 s.c0, .int .i64 s.c1, .slice A s.ps.length d, .func (.func 183) #[] #[.pointer (some ⟨ga, 0, none⟩)], .func (.func 184) #[] #[.pointer (some ⟨gc, 0, none⟩)]]) :: IRu2) := M
 refine Zg6 T (Zq (Zre rfl (T.e 0 rfl) rfl)) rfl (Ze 1 rfl rfl rfl) rfl (Ze 2 rfl rfl rfl) rfl (Za 2 rfl rfl) rfl (Za 2 rfl rfl) rfl (Za 2 rfl rfl) rfl ?_; clear T ac; intro ac T
 refine wpList_nil ?_
 replace T := T.pick [0, 1, 2] rfl
 replace M := M.mask [false, false, true, false] rfl
 refine Znr ?_
 refine rt_3 T rfl (T.e 2 rfl) (T.e 1 rfl) (T.e 0 rfl) ?_
 exact ⟨bA, bc, bl, bn, bi, IRu2, rfl, hFd, hcp, SR, M.sub (Zsq ([(g2, .any (memoQ Tryz.prog 191 (okW a c s)))] : List (Nat × BA)) _)⟩
def ShPost (s : Sk) (su : Bool) (w : World) (e9 : Ending) (w' : World) : Prop := ∃ A c I, e9 = .returned (.tuple #[.slice A (shL s su).length c, .int .i64 (shN s su : Int), .int .i64 (shE s su)]) ∧ (shL s su).length ≤ c ∧ (∃ b o, ∀ (w : World) (ex : Nat → Prop), Sp w ex I A (shL s su).length 1 b o (ic (shL s su))) ∧ Mem w noEx w' I
theorem shF_of {s : Sk} {su : Bool} {bl : List Int} {bn : Nat} {bi : Bool} (h : fewF (fun x : List Int × Nat => willV (cutA s su) (cutC s su) s x.1 x.2) (asgP s.ps.length [] 0) = (if bi = true then some (bl, bn) else none)) (h0 : skErr s = 0) : (bi = true → shE s su = 0 ∧ shL s su = bl ∧ shN s su = bn) ∧ (bi = false → shE s su = 11 ∧ shL s su = [] ∧ shN s su = 0) := by
 have hF : shF s su = if bi = true then some (bl, bn) else none := h
 constructor
 ·rintro rfl
  have e1 : shE s su = 0 := by unfold shE; rw [if_neg (by omega), hF]; rfl
  exact ⟨e1, by unfold shL; rw [if_pos e1, hF]; rfl, by unfold shN; rw [if_pos e1, hF]; rfl⟩
 ·rintro rfl
  have e1 : shE s su = 11 := by unfold shE; rw [if_neg (by omega), hF]; rfl
  exact ⟨e1, by unfold shL; rw [if_neg (by omega)], by unfold shN; rw [if_neg (by omega)]⟩
theorem shE_err {s : Sk} {su : Bool} (h : skErr s ≠ 0) : shE s su = skErr s ∧ shL s su = [] ∧ shN s su = 0 := by
 have e1 : shE s su = skErr s := if_pos h
 exact ⟨e1, by unfold shL; rw [if_neg (by omega)], by unfold shN; rw [if_neg (by omega)]⟩
theorem Sheets_any (s : Sk) (A : Option Addr) (d : Nat) (su : Bool)  (w : World) (hA : Rd w w.heap.size 4 A s.ps.length (pc s.ps)) (nA : s.ps.length ≤ 1000000) (hd : s.ps.length ≤ d) (hT : TabW w)  :
   Calls Tryz.prog 57 #[.agg #[.int .i64 s.lo, .int .i64 s.wi, .int .i64 s.a0, .int .i64 s.a1, .int .i64 s.c0, .int .i64 s.c1, .slice A s.ps.length d], .bool su] w (ShPost s su w) := by
 obtain ⟨bA, oA, SA⟩ := Sp.old hA
 refine Zpx noEx Tryz.func57 rfl 28 rfl [.agg #[.int .i64 s.lo, .int .i64 s.wi, .int .i64 s.a0, .int .i64 s.a1, .int .i64 s.c0, .int .i64 s.c1, .slice A s.ps.length d], .bool su] rfl rfl (Mem.init w _) ?_
 intro ac wc T M
 refine Zsr ?_
 refine Zl2 ?_
 refine Zob M T rfl rfl rfl rfl (T.e 0 rfl) rfl ?_; clear M T; intro g1 wc ac M T
 refine Zg3 T (Zq (Zra rfl evc)) rfl (Zc rfl) rfl (Zc rfl) rfl ?_; clear T ac; intro ac T
 replace T := T.pick [3, 5] rfl
 refine Zln ?_
 refine wp_seq ?_
 refine Zsr ?_
 refine lq T (Zrr (Mem.nth M 0 rfl) rfl (T.e 0 rfl) rfl) ?_; clear T ac; intro ac T
 refine Zl2 ?_
 refine Zoc (first := []) (cap := []) T rfl rfl rfl rfl evf (.cons (T.e 0 rfl) .nil) Tryz.func66 rfl rfl ?_
 refine Calls.mono (skCheck_any s A d _ (SA.rd M (Zz9 _)) (by omega)) ?_
 clear T; rintro e wc ⟨rfl, hb⟩ ac T
 replace M := M.call hb; clear hb
 refine lq T (Zra rfl (T.e 0 rfl)) ?_; clear T ac; intro ac T
 replace T := T.pick [0, 3, 4] rfl
 refine Zln ?_
 refine Zsr ?_
 refine Zg2 T (Zq (Zrm rfl (T.e 0 rfl))) rfl (fun _ T => Zq (rn_neq rfl (T.e 0 rfl) evc)) rfl ?_; clear T ac; intro ac T
 replace T := T.pick [0, 2, 3, 4] rfl
 refine Zln ?_
 refine wp_ifn (T.e 0 rfl) ?_ ?_
 ·intro h1
  refine Zsr ?_
  refine Zg4 T (Zq (Zrm rfl (T.e 1 rfl))) rfl (Zc rfl) rfl (Zc rfl) rfl (Za 2 rfl rfl) rfl ?_; clear T ac; intro ac T
  refine wpList_nil ?_
  replace T := T.pick [0, 1, 2] rfl
  replace M := M.mask [false] rfl
  refine Znr ?_
  refine Zrt ?_
  refine rt_3 T rfl (T.e 2 rfl) (T.e 1 rfl) (T.e 0 rfl) ?_
  obtain ⟨e1, e2, e3⟩ := shE_err (s := s) (su := su) (by omega)
  unfold ShPost
  rw [e1, e2, e3]
  exact ⟨none, 0, [], rfl, by simp, ⟨0, 0, fun _ _ => Sp.nil⟩, M.sub (Zz9 _)⟩
 intro h1
 have hsg := skErr_iff.1 (show skErr s = 0 by omega)
 obtain ⟨hb1, hb2, -, -, -, -⟩ := hsg
 have hsg := skErr_iff.1 (show skErr s = 0 by omega)
 refine Zsk ?_
 refine Zsr ?_
 refine Zg2 T (Zq (Zrr (Mem.nth M 0 rfl) rfl (T.e 2 rfl) rfl)) rfl (Zm 4 rfl rfl) rfl ?_; clear T ac; intro ac T
 refine Zl2 ?_
 refine Zoc (first := []) (cap := []) T rfl rfl rfl rfl evf (.cons (T.e 1 rfl) (.cons (T.e 0 rfl) .nil)) Tryz.func123 rfl rfl ?_
 refine Calls.mono (cut_any s A d su _) ?_
 clear T; rintro e wc ⟨gau2, gcu2, rfl, N⟩ ac T
 obtain ⟨a, hae⟩ : ∃ q, q = cutA s su := ⟨_, rfl⟩
 obtain ⟨c, hce⟩ : ∃ q, q = cutC s su := ⟨_, rfl⟩
 rw [← hae, ← hce] at N
 obtain ⟨ha, hc⟩ := cut_bd hsg su
 rw [← hae] at ha
 rw [← hce] at hc
 replace M := M.join N; clear N
 replace M := M.mask [true, true, true] rfl
 refine Zl2 ?_
 refine Zoc (first := []) (cap := []) T rfl rfl rfl rfl evf (.cons (T.e 0 rfl) .nil) Tryz.func128 rfl rfl ?_
 refine Calls.mono (shs_any s A d a c gau2 gcu2 _ ha hc hsg.ps hsg.len (by omega) (by omega) (by omega) (M.nth 0 rfl) (M.nth 1 rfl) (SA.rd M (Zz9 _)) (hT.mem0 M)) ?_
 clear T; rintro e wc ⟨bA, bc, bl, bn, bi, IRu3, rfl, hFd, hcp, SR, N⟩ ac T
 replace M := (M.join N).swapI
 clear N
 replace M : Mem w noEx wc ((gau2, .cells [.int .i64 a]) :: (gcu2, .cells [.int .i64 c]) :: (g1, .cells [.int .i64 s.lo, .int .i64 s.wi, .int .i64 s.a0, .int .i64 s.a1, .int .i64 s.c0, .int .i64 s.c1, .slice A s.ps.length d]) :: IRu3) := M
 refine Zg7 T (Zq (Zrm rfl (T.e 0 rfl))) rfl (Ze 0 rfl rfl rfl) rfl (Ze 1 rfl rfl rfl) rfl (Ze 2 rfl rfl rfl) rfl (Za 2 rfl rfl) rfl (Za 2 rfl rfl) rfl (Za 2 rfl rfl) rfl ?_; clear T ac; intro ac T
 refine wpList_nil ?_
 replace T := T.pick [0, 1, 2] rfl
 replace M := M.mask [false, false, false] rfl
 refine Zns ?_
 refine Zsr ?_
 refine Zg2 T (Zq (Zrm rfl (T.e 0 rfl))) rfl (fun _ T => Zq (rn_not rfl (T.e 0 rfl))) rfl ?_; clear T ac; intro ac T
 replace T := T.pick [0, 3, 4] rfl
 refine Zln ?_
 refine wp_cond_split (T.e 0 rfl) ?_ ?_
 ·intro h2
  (have h2' := h2; try simp only [Zb1, Zb2, Zb3, Zb4, Zb5, Zb6, Zb7] at h2')
  refine Zsr ?_
  refine Zg3 T (Zq (Zra rfl evc)) rfl (Zc rfl) rfl (Zc rfl) rfl ?_; clear T ac; intro ac T
  replace T := T.pick [0, 1, 2] rfl
  refine Zln ?_
  refine wp_ret ?_
  refine Zrt ?_
  refine rt_3 T rfl (T.e 2 rfl) (T.e 1 rfl) (T.e 0 rfl) ?_
  rw [hae, hce] at hFd
  have hk9 := shF_of hFd (by omega)
  obtain ⟨e1, e2, e3⟩ := hk9.2 (by simp_all)
  unfold ShPost
  rw [e1, e2, e3]
  exact ⟨none, 0, [], rfl, by simp, ⟨0, 0, fun _ _ => Sp.nil⟩, M.sub (Zz9 _)⟩
 intro h2
 (have h2' := h2; try simp only [Zb1, Zb2, Zb3, Zb4, Zb5, Zb6, Zb7] at h2')
 refine Zsk ?_
 refine Zsr ?_
 refine Zg5 T (Zq (Zrm rfl (T.e 2 rfl))) rfl (Zm 2 rfl rfl) rfl (Za 1 rfl rfl) rfl (Za 1 rfl rfl) rfl (Zc rfl) rfl ?_; clear T ac; intro ac T
 replace T := T.pick [0, 1, 2] rfl
 refine Zln ?_
 refine wp_ret ?_
 refine rt_3 T rfl (T.e 2 rfl) (T.e 1 rfl) (T.e 0 rfl) ?_
 rw [hae, hce] at hFd
 have hk9 := shF_of hFd (by omega)
 obtain ⟨e1, e2, e3⟩ := hk9.1 (by simp_all)
 unfold ShPost
 rw [e1, e2, e3]
 exact ⟨bA, bc, IRu3, rfl, hcp, SR, M.sub (Zsq ([] : List (Nat × BA)) _)⟩
theorem ite_add0 {A : Option Addr} {size : Nat} (p : Prop) [Decidable p] : (if p then A else Option.map (fun x => x.add (0 * size)) A) = A := by
 split
 ·rfl
 ·cases A with
  | none => rfl
  | some q => simp [Addr.add]
section
variable {P : Program} {op : Oper} {a : Act} {K : Act → World → Prop} {Q : Exit → Act → World → Prop} {w0 w : World} {ex : Nat → Prop} {L L' : List (Nat × BA)} {E : List (Nat × Value)} {df : List Deferred} {t nn : Nat}
theorem rn_slice3 {ty e : TypeId} {size : Nat} {x y1 y2 y3 : Operand} {A : Option Addr} {m c l h mx : Nat} (ho : op.op = .slice ty x (some y1) (some y2) (some y3)) (hu : P.underlying ty = some (.slice e)) (hs : (P.info? e).map (·.size) = some size)
   (hx : a.eval x = .slice A m c) (hl : a.eval y1 = .int .i64 (l : Int)) (hh : a.eval y2 = .int .i64 (h : Int)) (hm : a.eval y3 = .int .i64 (mx : Int)) (h1 : l ≤ h) (h2 : h ≤ mx) (h3 : mx ≤ c) : Runs P op a (.slice (if mx = l then A else A.map (·.add (l * size))) (h - l) (mx - l)) w := by
 cases hi' : P.info? e with
 | none => rw [hi'] at hs; simp at hs
 | some inf =>
   rw [hi'] at hs
   simp at hs
   unfold Runs execOp
   simp [ho, hx, hl, hh, hm, Instr.sliceAt, Instr.slice, Instr.sliceBounds, Instr.sliceBound, asIntOf, Sem.run_bind, run_underlying, hu, sizeOf, typeInfo, hi', hs, h1, h2, h3]
theorem ow_appIn {s x : Operand} {ty e size g i m c c2 o2 : Nat} {A1 A2 : Option Addr} {news cs cs' : List Value} (M : Mem w0 ex w L) (T : TmD df a nn E)
   (ho : op.op = .call { callee := .builtin .append, args := #[s, x], argTypes := #[ty, ty] }) (hd : op.dst = some t) (hf : freshE E t = true) (hnn : Nat.blt t nn = true)
   (ht : P.underlying ty = some (.slice e)) (hinfo : (P.info? e).map (·.size) = some size)
   (hs : a.eval s = .slice A1 i c) (hA1 : A1 = some ⟨g, 0, none⟩) (hx : a.eval x = .slice A2 m c2) (hA2 : ∃ o9, A2 = some ⟨g, o9, none⟩ ∧ (0 < m → o9 = o2)) (hn : news.length = m * size) (hnews : ∀ j u, news[j]? = some u → cs[o2 + j]? = some u) (h1 : ∀ u ∈ news, u.oneCell' = true)
   (hroom : i + m ≤ c) (hle : i * size + news.length ≤ cs.length) (hu : Upd L g (.cells cs) (.cells cs') L') (hc : cs' = cs.take (i * size) ++ news ++ cs.drop (i * size + news.length))
   (h : ∀ w' a', Mem w0 ex w' L' → TmD df a' nn ((t, .slice (some ⟨g, 0, none⟩) (i + m) c) :: E) → K a' w') : op.wp P a w K Q := by
 subst hA1
 obtain ⟨o9, rfl, ho9⟩ := hA2
 obtain ⟨inf, hi, hsz⟩ : ∃ inf, P.info? e = some inf ∧ inf.size = size := by
   cases h9 : P.info? e with
   | none => rw [h9] at hinfo; simp at hinfo
   | some inf => rw [h9] at hinfo; exact ⟨inf, rfl, by simpa using hinfo⟩
 subst hsz
 have hB := M.get hu.mem
 have hrun := run_append_room_cells (P := P) w ty op.type e inf ht hi g 0 i c ⟨g, o9, none⟩ m c2 news hn (fun j u hj => by
   rw [Addr.add_mid, hB.cell]
   have hm : 0 < m := by
     rcases Nat.eq_zero_or_pos m with h0 | h0
     · rw [h0, Nat.zero_mul] at hn
       rw [List.eq_nil_of_length_eq_zero hn] at hj
       simp at hj
     · exact h0
   rw [ho9 hm]
   simpa using hnews j u hj) h1 hroom (fun j hj => by
     rw [hB.cell, Nat.zero_add]
     simp
     omega) (fun j hj => hB.frozen _)
 unfold Oper.wp execOp
 simp only [ho, resolve, invoke, builtin, Sem.run_bind, Sem.run_pure, Result.andThen_ok, List.map_toArray, List.map_cons, List.map_nil, hs, hx, hrun]
 rw [Nat.zero_add]
 exact h _ _ (M.write hu (Oth.setCells g _ _ _) (hB.storeAt (i * inf.size) news cs' (by simpa using hle) (by simpa using hc))) (by rw [hd]; exact T.put hnn hf _)
theorem ow_clr {x : Operand} {ty e g o c : Nat} {z : Value} {zs cs cs' : List Value} (M : Mem w0 ex w L) (T : TmD df a nn E)
   (ho : op.op = .call { callee := .builtin .clear, args := #[x], argTypes := #[ty] }) (hd : op.dst = none) (ht : P.underlying ty = some (.slice e)) (hv : ∀ w, (zeroValue e).run P w = .ok z w) (hz : z.cells = zs.toArray) (h1 : zs.all (·.oneCell') = true)
   (hx : a.eval x = .slice (some ⟨g, o, none⟩) 1 c) (hle : o + zs.length ≤ cs.length) (hu : Upd L g (.cells cs) (.cells cs') L') (hc : cs' = cs.take o ++ zs ++ cs.drop (o + zs.length))
   (h : ∀ w' a', Mem w0 ex w' L' → TmD df a' nn E → K a' w') : op.wp P a w K Q := by
 have hB := M.get hu.mem
 have hzc : (Builtin.zeroCells z.cells 1).toList = zs := by
   rw [hz]
   simp only [Builtin.zeroCells, Nat.one_mul, List.size_toArray]
   apply List.ext_getElem
   · simp
   · intro i h1 h2
     simp [Nat.mod_eq_of_lt h2, h2]
 have hst := run_storeCells_cells (P := P) g o zs 0 w (fun j hj => by
   rw [hB.cell]
   simp
   omega) (fun j hj => hB.frozen _) (by simpa using h1)
 simp only [Nat.add_zero] at hst
 have hrun : ∀ ty', (Builtin.clear_ #[ty] ty' #[.slice (some ⟨g, o, none⟩) 1 c]).run P w = .ok (.tuple #[]) (w.setCells g o zs) := fun ty' => by
   simp [Builtin.clear_, run_underlying ht, hv, hzc, hst]
 unfold Oper.wp execOp
 simp only [ho, resolve, invoke, builtin, Sem.run_bind, Sem.run_pure, Result.andThen_ok, List.map_toArray, List.map_cons, List.map_nil, hx, hrun]
 rw [Oper.upon_value, hd]
 exact h _ _ (M.write hu (Oth.setCells g _ _ _) (hB.storeAt o zs cs' (by simpa using hle) (by simpa using hc))) (T.put0 _)
end
theorem pc_app (l k : List Pt) : pc (l ++ k) = pc l ++ pc k := by simp [pc]
theorem Tryz.zeroPart (w : World) : (zeroValue 119).run Tryz.prog w = .ok (.agg #[.int .i64 0, .int .i64 0, .bool false, .int .i64 0]) w := by kernel_rfl
theorem del_cells {l : List Pt} {i k : Nat} {ys : List Value} (hi : i < l.length) (hk : k = i) : (pc l ++ ys).take (k * 4) ++ (pc l).drop ((i + 1) * 4) ++ (pc l ++ ys).drop (k * 4 + ((pc l).drop ((i + 1) * 4)).length) = pc (l.eraseIdx i) ++ (pc l ++ ys).drop ((l.length - 1) * 4) := by
 subst hk
 have e1 := pc_length l
 rw [List.take_append_of_le_length (by omega), pc_take, pc_drop, ← pc_app, ← List.eraseIdx_eq_take_drop_succ]
 congr 2
 rw [pc_length, List.length_drop]
 omega
theorem clr_cells {l : List Pt} {i : Nat} {rs zs : List Value} (hi : i < l.length) : (pc (l.eraseIdx i) ++ rs).take ((l.length - 1) * 4) ++ zs ++ (pc (l.eraseIdx i) ++ rs).drop ((l.length - 1) * 4 + zs.length) = pc (l.eraseIdx i) ++ (zs ++ rs.drop zs.length) := by
 have e1 : (pc (l.eraseIdx i)).length = (l.length - 1) * 4 := by rw [pc_length, List.length_eraseIdx, if_pos hi]
 rw [List.take_append_of_le_length (by omega), List.take_of_length_le (by omega), ← e1, List.drop_append]
 simp
def DelPost (g c i : Nat) (l : List Pt) (w : World) (e : Ending) (w' : World) : Prop := e = .returned (.slice (some ⟨g, 0, none⟩) (l.length - 1) c) ∧ ∃ ys', Mem w (fun b => b = g) w' [(g, .cells (pc (l.eraseIdx i) ++ ys'))]
theorem delete_any (g c i : Nat) (l : List Pt) (ys : List Value)  (w : World) (hi : i < l.length) (hlc : l.length ≤ c) (hcb : l.length ≤ 1000000) (hB : BA.holds w g (.cells (pc l ++ ys))) :
   Calls Tryz.prog 129 #[.slice (some ⟨g, 0, none⟩) l.length c, .int .i64 (i : Int), .int .i64 ((i : Int) + 1)] w (DelPost g c i l w) := by
 have Sg := Sp.pre (w := w) (ex := fun b => b = g) (size := 4) (n := l.length) (g := g) (xs := pc l) (ys := ys) (by rw [pc_length])
 refine Zpx (fun b => b = g) Tryz.func129 rfl 33 rfl [.slice (some ⟨g, 0, none⟩) l.length c, .int .i64 (i : Int), .int .i64 ((i : Int) + 1)] rfl rfl (Mem.initEx (p := .cells (pc l ++ ys)) hB) ?_
 intro ac wc T M
 refine Zsr ?_
 refine lq T (Zra rfl evc) ?_; clear T ac; intro ac T
 replace T := T.pick [1, 2, 3] rfl
 refine Zln ?_
 refine Zsr ?_
 refine Zg6 T (Zq (Zrm rfl (T.e 0 rfl))) rfl (Zm 2 rfl rfl) rfl (Zm 4 rfl rfl) rfl (Zm 3 rfl rfl) rfl (Zl Tryz.underlying47 0 rfl rfl) rfl (fun _ T => Zq (rn_slice3 (size := 4) (l := i) (h := (i + 1)) (mx := l.length) rfl Tryz.underlying47 (by kernel_rfl) (T.e 4 rfl) (T.e 3 rfl) ((T.e 2 rfl).trans (congrArg (Value.int .i64) (by omega))) (T.e 0 rfl) (by omega) (by omega) (by omega))) rfl ?_; clear T ac; intro ac T
 replace T := T.pick [6, 7, 8] rfl
 refine Zln ?_
 refine wp_seq ?_
 refine Zsr ?_
 refine Zg3 T (Zq (Zrm rfl (T.e 1 rfl))) rfl (Zm 3 rfl rfl) rfl (fun _ T => Zq (rn_eql rfl (T.e 1 rfl) (T.e 0 rfl))) rfl ?_; clear T ac; intro ac T
 replace T := T.pick [0, 3, 4, 5] rfl
 refine Zln ?_
 refine wp_if (T.e 0 rfl) ?_ ?_
 ·intro h1
  exfalso
  omega
 intro h1
 refine Zsk ?_
 refine Zsr ?_
 refine Zg3 T (Zq (Zrm rfl (T.e 1 rfl))) rfl (Zl Tryz.underlying47 0 rfl rfl) rfl (Za 0 rfl rfl) rfl ?_; clear T ac; intro ac T
 replace T := T.pick [0, 4, 5, 6] rfl
 refine Zln ?_
 refine wp_seq ?_
 refine Zgs M (M.perm [] rfl rfl) 8 (by kernel_rfl) rfl (by kernel_rfl) ?_
 clear M; intro wc M
 refine gq T 0 1 rfl (fun _ _ _ _ _ => (Zrm rfl (T.e 1 rfl))) ?_; clear T ac; intro ac T
 refine gq T 1 3 rfl (fun _ _ _ _ _ => (Zrm rfl (T.e 3 rfl))) ?_; clear T ac; intro ac T
 refine gq T 2 7 rfl (fun _ _ _ _ _ => (rn_slice (size := 4) (l := 0) (h := i) rfl Tryz.underlying47 (by kernel_rfl) (T.e 1 rfl) rfl (T.e 0 rfl) (by omega) (by omega))) ?_; clear T ac; intro ac T
 obtain ⟨Aq1, hAq1⟩ : ∃ q : Option Addr, q = (if c = 0 then some ⟨g, 0, none⟩ else Option.map (fun x : Addr => x.add (0 * 4)) (some ⟨g, 0, none⟩)) := ⟨_, rfl⟩
 rw [← hAq1] at T
 obtain ⟨lq1, hlq1⟩ : ∃ q, q = (l.drop 0).take (i - 0) := ⟨_, rfl⟩
 have nlq1 : lq1.length = i - 0 := by rw [hlq1, List.length_take, List.length_drop]; (try simp only [List.length_cons, List.length_append, List.length_nil]); omega
 rw [← nlq1] at T
 have SAq1 : Sp w (fun b => b = g) [(g, .cells (pc l ++ ys))] Aq1 lq1.length 4 g (0 + 0 * 4) (pc lq1) := by rw [nlq1, hAq1, hlq1, ← pc_part]; exact Sg.sub (by omega) (by omega) (by omega)
 refine gq T 3 15 rfl (fun _ _ _ _ _ => (Zrm rfl (T.e 4 rfl))) ?_; clear T ac; intro ac T
 refine gq T 4 31 rfl (fun _ _ _ _ _ => (Zrm rfl (T.e 7 rfl))) ?_; clear T ac; intro ac T
 refine gq T 5 63 rfl (fun _ _ _ _ _ => (rn_slice (size := 4) (l := (i + 1)) (h := l.length) rfl Tryz.underlying47 (by kernel_rfl) (T.e 1 rfl) ((T.e 0 rfl).trans (congrArg (Value.int .i64) (by omega))) rfl (by omega) (by omega))) ?_; clear T ac; intro ac T
 obtain ⟨Aq2, hAq2⟩ : ∃ q : Option Addr, q = (if c = (i + 1) then some ⟨g, 0, none⟩ else Option.map (fun x : Addr => x.add ((i + 1) * 4)) (some ⟨g, 0, none⟩)) := ⟨_, rfl⟩
 rw [← hAq2] at T
 obtain ⟨lq2, hlq2⟩ : ∃ q, q = (l.drop (i + 1)).take (l.length - (i + 1)) := ⟨_, rfl⟩
 have nlq2 : lq2.length = l.length - (i + 1) := by rw [hlq2, List.length_take, List.length_drop]; (try simp only [List.length_cons, List.length_append, List.length_nil]); omega
 rw [← nlq2] at T
 have SAq2 : Sp w (fun b => b = g) [(g, .cells (pc l ++ ys))] Aq2 lq2.length 4 g (0 + (i + 1) * 4) (pc lq2) := by rw [nlq2, hAq2, hlq2, ← pc_part]; exact Sg.sub (by omega) (by omega) (by omega)
 refine gw 6 127 ?_; intro K hK
 refine ow_appIn (cs' := (pc l ++ ys).take (lq1.length * 4) ++ (pc l).drop ((i + 1) * 4) ++ (pc l ++ ys).drop (lq1.length * 4 + ((pc l).drop ((i + 1) * 4)).length)) (size := 4) (o2 := (i + 1) * 4) (news := (pc l).drop ((i + 1) * 4)) M T rfl rfl rfl rfl Tryz.underlying47 (by kernel_rfl) (T.e 3 rfl) (by rw [hAq1]; exact ite_add0 _) (T.e 0 rfl) (by rw [hAq2]; split; exact ⟨0, rfl, fun h => by omega⟩; exact ⟨(i + 1) * 4, by rw [Option.map_some, Addr.add_mid, Nat.zero_add], fun _ => rfl⟩) (by rw [List.length_drop, pc_length]; omega) (fun j u hj => by rw [List.getElem?_drop] at hj; rw [List.getElem?_append_left (List.getElem?_eq_some_iff.1 hj).1]; exact hj) (fun u hu => pc_one l u (List.mem_of_mem_drop hu)) (by omega) (by rw [List.length_drop, List.length_append, pc_length]; omega) .head rfl ?_; clear M T; intro wc ac M T
 rw [del_cells hi (by omega)] at M
 rw [show lq1.length + lq2.length = l.length - 1 by omega, show c - 0 = c from rfl] at T
 refine Zso hK _ _ (M.mask [false] rfl) ?_; clear hK K
 refine g_q (v := (.slice (some ⟨g, 0, none⟩) (l.length - 1) c)) (T := T.pick [0, 1, 2, 3, 4, 5, 6, 7, 9, 10] rfl) (i := 7) rfl (by kernel_rfl) (by kernel_rfl : (Zpb 8 127).setIfInBounds 7 true = Zpb 8 255) si_U (fun _ _ _ h => h) rfl rfl rfl rfl (fun _ _ _ _ _ => (Zra rfl (T.e 0 rfl))) ?_; clear T ac; intro ac T
 refine Zgd (by kernel_rfl) ?_
 replace T := T.pick [0, 8] rfl
 refine nm_then ?_
 refine Zsr ?_
 refine Zg5 T (Zq (Zrm rfl (T.e 0 rfl))) rfl (Zm 1 rfl rfl) rfl (Zl Tryz.underlying47 0 rfl rfl) rfl (Zm 4 rfl rfl) rfl (fun _ T => Zq (rn_slice (size := 4) (l := (l.length - 1)) (h := l.length) rfl Tryz.underlying47 (by kernel_rfl) (T.e 3 rfl) (T.e 1 rfl) (T.e 0 rfl) (by omega) (by omega))) rfl ?_; clear T ac; intro ac T
 refine Zl2 ?_
 refine ow_clr (zs := [.int .i64 0, .int .i64 0, .bool false, .int .i64 0]) (o := (l.length - 1) * 4) (c := c - (l.length - 1)) (cs' := (pc (l.eraseIdx i) ++ (pc l ++ ys).drop ((l.length - 1) * 4)).take ((l.length - 1) * 4) ++ [.int .i64 0, .int .i64 0, .bool false, .int .i64 0] ++ (pc (l.eraseIdx i) ++ (pc l ++ ys).drop ((l.length - 1) * 4)).drop ((l.length - 1) * 4 + ([.int .i64 0, .int .i64 0, .bool false, .int .i64 0] : List Value).length)) M T rfl rfl Tryz.underlying47 Tryz.zeroPart rfl rfl ((T.e 0 rfl).trans (by rw [if_neg (by omega), show l.length - (l.length - 1) = 1 by omega, Option.map_some, Addr.add_mid, Nat.zero_add])) (by simp only [List.length_append, List.length_drop, pc_length, List.length_eraseIdx, if_pos hi, List.length_cons, List.length_nil]; omega) .head rfl ?_; clear M T; intro wc ac M T
 rw [clr_cells hi] at M
 replace T := T.pick [5] rfl
 refine Zln ?_
 refine Zsr ?_
 refine Zg2 T (Zq (Zrm rfl (T.e 0 rfl))) rfl (Za 0 rfl rfl) rfl ?_; clear T ac; intro ac T
 replace T := T.pick [0] rfl
 refine Zln ?_
 refine wp_ret ?_
 refine rt_1 T rfl (T.e 0 rfl) ?_
 exact ⟨rfl, _, M⟩
def skW (s : Sk) (i : Nat) : Sk := { s with ps := s.ps.eraseIdx i }
noncomputable def wrsV (s : Sk) (i : Nat) : Int := if shN (skW s i) true < shN s true then 1 else 2
noncomputable def wrsL (s : Sk) : List Int := if shE s true = 0 then (List.range s.ps.length).map (wrsV s) else []
def LiPost (xs : List Int) (er : Int) (w : World) (e : Ending) (w' : World) : Prop := LsPost 1 (ic xs) xs.length er w e w'
set_option maxHeartbeats 2000000 in
theorem Worst_any (s : Sk) (A : Option Addr) (d : Nat)  (w : World) (hA : Rd w w.heap.size 4 A s.ps.length (pc s.ps)) (nA : s.ps.length ≤ 1000000) (hd : s.ps.length ≤ d) (hT : TabW w)  :
   Calls Tryz.prog 59 #[.agg #[.int .i64 s.lo, .int .i64 s.wi, .int .i64 s.a0, .int .i64 s.a1, .int .i64 s.c0, .int .i64 s.c1, .slice A s.ps.length d]] w (LiPost (wrsL s) (shE s true) w) := by
 obtain ⟨bA, oA, SA⟩ := Sp.old hA
 refine Zpx noEx Tryz.func59 rfl 53 rfl [.agg #[.int .i64 s.lo, .int .i64 s.wi, .int .i64 s.a0, .int .i64 s.a1, .int .i64 s.c0, .int .i64 s.c1, .slice A s.ps.length d]] rfl rfl (Mem.init w _) ?_
 intro ac wc T M
 refine Zsr ?_
 refine Zl2 ?_
 refine Zob M T rfl rfl rfl rfl (T.e 0 rfl) rfl ?_; clear M T; intro g1 wc ac M T
 refine Zg2 T (Zq (Zra rfl evc)) rfl (Zc rfl) rfl ?_; clear T ac; intro ac T
 replace T := T.pick [2] rfl
 refine Zln ?_
 refine Zsr ?_
 refine lq T (Zrr (Mem.nth M 0 rfl) rfl (T.e 0 rfl) rfl) ?_; clear T ac; intro ac T
 refine Zl2 ?_
 refine Zoc (first := []) (cap := []) T rfl rfl rfl rfl evf (.cons (T.e 0 rfl) (.cons evc .nil)) Tryz.func57 rfl rfl ?_
 refine Calls.mono (Sheets_any s A d true _ (SA.rd M (Zz9 _)) (by omega) (by omega) (hT.mem0 M)) ?_
 clear T; rintro e wc ⟨ASu1, cSu1, ISu1, rfl, hcpSu1, SVSu1, N⟩ ac T
 obtain ⟨bSu1, oSu1, SVSu1⟩ := SVSu1
 have SSu1 := SVSu1 w noEx
 replace M := (M.join N).swapI
 clear N
 replace M : Mem w noEx wc ((g1, .cells [.int .i64 s.lo, .int .i64 s.wi, .int .i64 s.a0, .int .i64 s.a1, .int .i64 s.c0, .int .i64 s.c1, .slice A s.ps.length d]) :: ISu1) := M
 refine Zg7 T (Zq (Zrm rfl (T.e 0 rfl))) rfl (Ze 0 rfl rfl rfl) rfl (Ze 1 rfl rfl rfl) rfl (Ze 2 rfl rfl rfl) rfl (Za 2 rfl rfl) rfl (Za 2 rfl rfl) rfl (Za 2 rfl rfl) rfl ?_; clear T ac; intro ac T
 replace T := T.pick [0, 1, 9] rfl
 refine Zln ?_
 refine wp_seq ?_
 refine Zsr ?_
 refine Zg2 T (Zq (Zrm rfl (T.e 0 rfl))) rfl (fun _ T => Zq (rn_neq rfl (T.e 0 rfl) evc)) rfl ?_; clear T ac; intro ac T
 replace T := T.pick [0, 2, 3, 4] rfl
 refine Zln ?_
 refine wp_ifn (T.e 0 rfl) ?_ ?_
 ·intro h1
  refine Zsr ?_
  refine Zg3 T (Zq (Zrm rfl (T.e 1 rfl))) rfl (Zc rfl) rfl (Za 1 rfl rfl) rfl ?_; clear T ac; intro ac T
  refine wpList_nil ?_
  replace T := T.pick [0, 1] rfl
  replace M := M.mask [false] rfl
  refine Znr ?_
  refine Zrt ?_
  refine rt_2 T rfl (T.e 1 rfl) (T.e 0 rfl) ?_
  have e9 : wrsL s = [] := if_neg (by omega)
  unfold LiPost
  rw [e9]
  exact LsPost.nil M
 intro h1
 refine Zsk ?_
 refine Zsr ?_
 refine lq T (Zra rfl evc) ?_; clear T ac; intro ac T
 replace T := T.pick [0, 3, 4] rfl
 refine Zln ?_
 refine wp_seq ?_
 refine Zsr ?_
 refine Zg4 (v1 := (.pointer (some ⟨g1, 6, none⟩))) T (Zq (Zrf (off := 6) rfl (T.e 2 rfl) (fun _ _ _ => by kernel_rfl))) rfl (Zo M 0 0 rfl rfl rfl rfl) rfl (Zl Tryz.underlying47 0 rfl rfl) rfl (fun _ T => Zq (Zrm rfl evc)) rfl ?_; clear T ac; intro ac T
 replace T := T.pick [0, 1, 4, 5, 6] rfl
 refine Zln ?_
 refine wp_block ?_
 replace M : Mem w noEx wc [(g1, .cells [.int .i64 s.lo, .int .i64 s.wi, .int .i64 s.a0, .int .i64 s.a1, .int .i64 s.c0, .int .i64 s.c1, .slice A s.ps.length d])] := M.sub (Zsl ([(g1, .cells [.int .i64 s.lo, .int .i64 s.wi, .int .i64 s.a0, .int .i64 s.a1, .int .i64 s.c0, .int .i64 s.c1, .slice A s.ps.length d])] : List (Nat × BA)) _)
 refine wp_loop_n (fun mz ac wc => ∃ (k : Nat) (OL : List Int) (A3 : Option Addr) (c3 : Nat) (Io : List (Nat × BA)), mz = s.ps.length - k ∧ (k ≤ s.ps.length) ∧ (OL = (List.range k).map (wrsV s)) ∧ (OL.length = k) ∧ (Sl 3 1 (.slice A3 OL.length c3) OL.length (ic OL) Io) ∧ Tm ac 53 [(1, .pointer (some ⟨g1, 0, none⟩)), (5, .int .i64 (shN s true : Int)), (7, .slice A3 OL.length c3), (25, .int .i64 ((s.ps.length : Nat) : Int)), (26, .int .i64 (k : Int))] ∧ Mem w noEx wc ((g1, .cells [.int .i64 s.lo, .int .i64 s.wi, .int .i64 s.a0, .int .i64 s.a1, .int .i64 s.c0, .int .i64 s.c1, .slice A s.ps.length d]) :: Io)) ?_ ?_
 ·exact ⟨_, 0, [], none, 0, [], rfl, (Nat.zero_le _), rfl, rfl, (Sl.nil _ _), T.pick [4, 3, 2, 1, 0] rfl, M.mask [true] rfl⟩
 clear T M
 rintro mz ac wc ⟨k, OL, A3, c3, Io, hmm1, hk, hO, hOl, hsl, T, M⟩
 refine Zsr ?_
 refine lq T (rn_lss rfl (T.e 4 rfl) (T.e 3 rfl)) ?_; clear T ac; intro ac T
 refine Zln ?_
 refine wp_seq ?_
 refine wp_if (T.e 0 rfl) ?_ ?_
 ·intro h2
  refine Zsk ?_
  refine wp_seq ?_
  refine wp_block ?_
  refine Zsr ?_
  refine Zg2 T (Zq (Zrm rfl (T.e 5 rfl))) rfl (Za 0 rfl rfl) rfl ?_; clear T ac; intro ac T
  replace T := T.pick [0, 3, 4, 5, 6, 7] rfl
  refine Zln ?_
  refine Zsr ?_
  refine lq T (Zrr (Mem.nth M 0 rfl) rfl (T.e 1 rfl) rfl) ?_; clear T ac; intro ac T
  refine Zl2 ?_
  refine Zoa M T rfl rfl rfl rfl ?_; clear M T; intro g2 wc ac M T
  refine Zl2 ?_
  refine Zos M T rfl rfl (T.e 0 rfl) (T.e 1 rfl) rfl .head rfl (by simp) rfl (by kernel_rfl) ?_; clear M T; intro wc ac M T
  replace T := T.pick [0, 2, 3, 4, 5, 6, 7] rfl
  refine Zln ?_
  refine Zsr ?_
  refine Zg2 (v1 := (.pointer (some ⟨g1, 6, none⟩))) T (Zq (Zrf (off := 6) rfl (T.e 2 rfl) (fun _ _ _ => by kernel_rfl))) rfl (Zo M 1 0 rfl rfl rfl rfl) rfl ?_; clear T ac; intro ac T
  refine Zl2 ?_
  refine Zoc (first := []) (cap := []) T rfl rfl rfl rfl evf (.cons (T.e 0 rfl) .nil) Tryz.func130 rfl rfl ?_
  refine Calls.mono (cloneP_any A d s.ps _ (SA.rd M (Zz9 _)) (by omega)) ?_
  clear T; rintro e wc ⟨Acu2, ccu2, Icu2, rfl, hclu2, N⟩ ac T
  replace M := (M.join N).swapI
  clear N
  replace M : Mem w noEx wc ((g2, .cells [.int .i64 s.lo, .int .i64 s.wi, .int .i64 s.a0, .int .i64 s.a1, .int .i64 s.c0, .int .i64 s.c1, .slice A s.ps.length d]) :: (g1, .cells [.int .i64 s.lo, .int .i64 s.wi, .int .i64 s.a0, .int .i64 s.a1, .int .i64 s.c0, .int .i64 s.c1, .slice A s.ps.length d]) :: (Io ++ Icu2)) := M
  refine Zg3 T (Zq (Zrm rfl (T.e 4 rfl))) rfl (Zm 5 rfl rfl) rfl (fun _ T => Zq (rn_add rfl (T.e 0 rfl) evc (by omega))) rfl ?_; clear T ac; intro ac T
  refine l_w rfl ?_; intro K hK
  have hcapu2 := hclu2.capLe M (Zsq (((g2, .cells [.int .i64 s.lo, .int .i64 s.wi, .int .i64 s.a0, .int .i64 s.a1, .int .i64 s.c0, .int .i64 s.c1, .slice A s.ps.length d]) :: (g1, .cells [.int .i64 s.lo, .int .i64 s.wi, .int .i64 s.a0, .int .i64 s.a1, .int .i64 s.c0, .int .i64 s.c1, .slice A s.ps.length d]) :: Io) : List (Nat × BA)) _)
  obtain ⟨bd, Id, hsw, M⟩ := hclu2.sw (L := ((g2, .cells [.int .i64 s.lo, .int .i64 s.wi, .int .i64 s.a0, .int .i64 s.a1, .int .i64 s.c0, .int .i64 s.c1, .slice A s.ps.length d]) :: (g1, .cells [.int .i64 s.lo, .int .i64 s.wi, .int .i64 s.a0, .int .i64 s.a1, .int .i64 s.c0, .int .i64 s.c1, .slice A s.ps.length d]) :: Io)) M
  obtain ⟨-, h9 | ⟨rfl, ysd, rfl⟩⟩ := hsw
  · omega
  replace M : Mem w noEx wc ((bd, .cells (pc s.ps ++ ysd)) :: (g2, .cells [.int .i64 s.lo, .int .i64 s.wi, .int .i64 s.a0, .int .i64 s.a1, .int .i64 s.c0, .int .i64 s.c1, .slice A s.ps.length d]) :: (g1, .cells [.int .i64 s.lo, .int .i64 s.wi, .int .i64 s.a0, .int .i64 s.a1, .int .i64 s.c0, .int .i64 s.c1, .slice A s.ps.length d]) :: Io) := M.swapI
  refine Zoc (first := []) (cap := []) T rfl rfl rfl rfl evf (.cons (T.e 3 rfl) (.cons (T.e 2 rfl) (.cons (T.e 0 rfl) .nil))) Tryz.func129 rfl rfl ?_
  refine Calls.mono (delete_any bd ccu2 k s.ps ysd _ (by omega) hcapu2 (by omega) (M.blk _ (Zne (i := 0) rfl)).2) ?_
  clear T; rintro e wc ⟨rfl, N⟩ ac T
  obtain ⟨yse, N⟩ := N
  replace M := M.joinE N .head
  clear N
  have Sd := Sp.pre (w := w) (ex := noEx) (size := 4) (n := (s.ps.eraseIdx k).length) (g := bd) (xs := pc (s.ps.eraseIdx k)) (ys := yse) (by rw [pc_length])
  rw [show s.ps.length - 1 = (s.ps.eraseIdx k).length by rw [List.length_eraseIdx, if_pos (by omega)]] at T
  refine Zso hK _ _ ?_; clear hK K
  refine lq (v := (.pointer (some ⟨g2, 6, none⟩))) T (Zrf (off := 6) rfl (T.e 7 rfl) (fun _ _ _ => by kernel_rfl)) ?_; clear T ac; intro ac T
  refine Zl2 ?_
  refine Zos M T rfl rfl (T.e 0 rfl) (T.e 1 rfl) rfl (.tail .head) rfl (by simp) rfl (by kernel_rfl) ?_; clear M T; intro wc ac M T
  replace T := T.pick [8, 10, 11, 12, 13, 14] rfl
  refine Zln ?_
  refine Zsr ?_
  refine lq T (Zra rfl evc) ?_; clear T ac; intro ac T
  refine Zln ?_
  refine wp_seq ?_
  refine Zsr ?_
  refine lq T (Zrr (Mem.nth M 1 rfl) rfl (T.e 1 rfl) rfl) ?_; clear T ac; intro ac T
  refine Zl2 ?_
  refine Zoc (first := []) (cap := []) T rfl rfl rfl rfl evf (.cons (T.e 0 rfl) (.cons evc .nil)) Tryz.func57 rfl rfl ?_
  refine Calls.mono (Sheets_any ({ s with ps := (s.ps.eraseIdx k) } : Sk) (some ⟨bd, 0, none⟩) ccu2 true _ (Sd.rd M (List.Sublist.cons_cons _ (Zz9 _))) (by dsimp only; rw [List.length_eraseIdx]; split <;> omega) (by dsimp only; rw [List.length_eraseIdx]; split <;> omega) (hT.mem0 M)) ?_
  clear T; rintro e wc ⟨ASu4, cSu4, ISu4, rfl, hcpSu4, SVSu4, N⟩ ac T
  replace M := M.call N.below
  clear N
  refine Zg7 T (Zq (Zrm rfl (T.e 0 rfl))) rfl (Ze 0 rfl rfl rfl) rfl (Ze 1 rfl rfl rfl) rfl (Ze 2 rfl rfl rfl) rfl (Za 2 rfl rfl) rfl (Za 2 rfl rfl) rfl (Za 2 rfl rfl) rfl ?_; clear T ac; intro ac T
  refine wpList_nil ?_
  replace T := T.pick [1, 9, 11, 12, 13, 14, 15] rfl
  replace M := M.mask [true, false, true] rfl
  refine nm_then ?_
  refine Zsr ?_
  refine Zg3 T (Zq (Zrm rfl (T.e 0 rfl))) rfl (Zm 4 rfl rfl) rfl (fun _ T => Zq (rn_lss rfl (T.e 1 rfl) (T.e 0 rfl))) rfl ?_; clear T ac; intro ac T
  replace T := T.pick [0, 4, 5, 6, 7, 8, 9] rfl
  refine Zln ?_
  refine wp_if (T.e 0 rfl) ?_ ?_
  ·intro h3
   have hwv : wrsV s k = 1 := if_pos (show shN ({ s with ps := s.ps.eraseIdx k } : Sk) true < shN s true by omega)
   refine wp_region_lit ?_
   refine l_q (v := (.int .i64 1)) (T.pick [0, 2, 3, 4, 5, 6] rfl) rfl rfl rfl rfl (Zra rfl evc) ?_; clear T ac; intro ac T
   replace T := T.pick [0, 2, 3, 4, 5, 6] rfl
   refine Zln ?_
   refine wp_region_lit ?_
   refine Zg2 T (Zq (Zrm rfl (T.e 3 rfl))) rfl (Zm 1 rfl rfl) rfl ?_; clear T ac; intro ac T
   refine Zl2 ?_
   refine ow_bs (e := 3) [.int .i64 1] M T rfl rfl rfl rfl (.cons (T.e 0 rfl) .nil) (fun _ => by kernel_rfl) ?_; clear M T; intro g3 wc ac M T
   refine Zl2 ?_
   refine ow_app ([(g3, .cells [.int .i64 1]), (bd, .cells (pc (s.ps.eraseIdx k) ++ yse)), (g1, .cells [.int .i64 s.lo, .int .i64 s.wi, .int .i64 s.a0, .int .i64 s.a1, .int .i64 s.c0, .int .i64 s.c1, .slice A s.ps.length d])]) Tryz.info3 hsl M (by first | rfl | simp) T rfl rfl rfl rfl Tryz.underlying31 rfl rfl rfl (by omega) (T.e 2 rfl) (T.e 0 rfl) (Zne (i := 0) rfl) rfl rfl ?_; clear M T; intro ga1 cga1 wc ac M T
   refine l_q (v := (.slice (some ⟨ga1, 0, none⟩) (OL.length + 1) cga1)) (T.pick [0, 1, 2, 3, 4, 5, 6, 8, 9] rfl) rfl rfl rfl rfl (Zra rfl (T.e 0 rfl)) ?_; clear T ac; intro ac T
   refine wpList_nil ?_
   replace T := T.pick [0, 6, 7, 8, 9] rfl
   replace M := M.mask [true, false, true, true] rfl
   refine Znb ?_
   refine nm_then ?_
   refine wp_region_lit ?_
   refine lq T (rn_add rfl (T.e 4 rfl) evc (by omega)) ?_; clear T ac; intro ac T
   refine l_q (v := (.int .i64 ((k : Int) + 1))) (T.pick [0, 1, 2, 3, 4] rfl) rfl rfl rfl rfl (Zrm rfl (T.e 0 rfl)) ?_; clear T ac; intro ac T
   replace T := T.pick [0, 2, 3, 4, 5] rfl
   refine Zln ?_
   have e9 : OL.length + 1 = (OL ++ [1]).length := by simp
   have e8 : ((ic OL) ++ [.int .i64 1]) = ic (OL ++ [1]) := by rw [← ic_snoc]
   rw [e9, e8] at M
   rw [e9] at T
   clear e9 e8
   exact ⟨_, by omega, k + 1, (OL ++ [1]), _, _, [(ga1, .row 3 1 (OL ++ [1]).length (ic (OL ++ [1])) cga1)], rfl, (by omega), (by rw [hO, List.range_succ, List.map_append, List.map_cons, List.map_nil, hwv]), (by simp [hOl]), (Sl.row _ _ _ _ _ _), T.pick [2, 3, 1, 4, 0] rfl, ((M.permT [2, 0] 3 rfl rfl rfl rfl).sub (Zsl ([(g1, .cells [.int .i64 s.lo, .int .i64 s.wi, .int .i64 s.a0, .int .i64 s.a1, .int .i64 s.c0, .int .i64 s.c1, .slice A s.ps.length d]), (ga1, .row 3 1 (OL ++ [1]).length (ic (OL ++ [1])) cga1)] : List (Nat × BA)) _))⟩
  intro h3
  have hwv : wrsV s k = 2 := if_neg (show ¬ shN ({ s with ps := s.ps.eraseIdx k } : Sk) true < shN s true by omega)
  refine Zsk ?_
  refine wp_region_lit ?_
  refine Zg2 T (Zq (Zrm rfl (T.e 4 rfl))) rfl (Zm 2 rfl rfl) rfl ?_; clear T ac; intro ac T
  refine Zl2 ?_
  refine ow_bs (e := 3) [.int .i64 2] M T rfl rfl rfl rfl (.cons (T.e 0 rfl) .nil) (fun _ => by kernel_rfl) ?_; clear M T; intro g4 wc ac M T
  refine Zl2 ?_
  refine ow_app ([(g4, .cells [.int .i64 2]), (bd, .cells (pc (s.ps.eraseIdx k) ++ yse)), (g1, .cells [.int .i64 s.lo, .int .i64 s.wi, .int .i64 s.a0, .int .i64 s.a1, .int .i64 s.c0, .int .i64 s.c1, .slice A s.ps.length d])]) Tryz.info3 hsl M (by first | rfl | simp) T rfl rfl rfl rfl Tryz.underlying31 rfl rfl rfl (by omega) (T.e 2 rfl) (T.e 0 rfl) (Zne (i := 0) rfl) rfl rfl ?_; clear M T; intro ga2 cga2 wc ac M T
  refine l_q (v := (.slice (some ⟨ga2, 0, none⟩) (OL.length + 1) cga2)) (T.pick [0, 1, 2, 3, 4, 5, 6, 7, 9, 10] rfl) rfl rfl rfl rfl (Zra rfl (T.e 0 rfl)) ?_; clear T ac; intro ac T
  refine wpList_nil ?_
  replace T := T.pick [0, 7, 8, 9, 10] rfl
  replace M := M.mask [true, false, true, true] rfl
  refine Znb ?_
  refine nm_then ?_
  refine wp_region_lit ?_
  refine lq T (rn_add rfl (T.e 4 rfl) evc (by omega)) ?_; clear T ac; intro ac T
  refine l_q (v := (.int .i64 ((k : Int) + 1))) (T.pick [0, 1, 2, 3, 4] rfl) rfl rfl rfl rfl (Zrm rfl (T.e 0 rfl)) ?_; clear T ac; intro ac T
  replace T := T.pick [0, 2, 3, 4, 5] rfl
  refine Zln ?_
  have e9 : OL.length + 1 = (OL ++ [2]).length := by simp
  have e8 : ((ic OL) ++ [.int .i64 2]) = ic (OL ++ [2]) := by rw [← ic_snoc]
  rw [e9, e8] at M
  rw [e9] at T
  clear e9 e8
  exact ⟨_, by omega, k + 1, (OL ++ [2]), _, _, [(ga2, .row 3 1 (OL ++ [2]).length (ic (OL ++ [2])) cga2)], rfl, (by omega), (by rw [hO, List.range_succ, List.map_append, List.map_cons, List.map_nil, hwv]), (by simp [hOl]), (Sl.row _ _ _ _ _ _), T.pick [2, 3, 1, 4, 0] rfl, ((M.permT [2, 0] 3 rfl rfl rfl rfl).sub (Zsl ([(g1, .cells [.int .i64 s.lo, .int .i64 s.wi, .int .i64 s.a0, .int .i64 s.a1, .int .i64 s.c0, .int .i64 s.c1, .slice A s.ps.length d]), (ga2, .row 3 1 (OL ++ [2]).length (ic (OL ++ [2])) cga2)] : List (Nat × BA)) _))⟩
 intro h2
 refine wp_exit ?_
 refine Zet ?_
 refine Zet ?_
 refine ex_hit ?_
 refine nm_then ?_
 refine Zsr ?_
 refine Zg3 T (Zq (Zrm rfl (T.e 3 rfl))) rfl (Za 0 rfl rfl) rfl (Zc rfl) rfl ?_; clear T ac; intro ac T
 refine wpList_nil ?_
 replace T := T.pick [0, 1] rfl
 replace M := M.mask [false] rfl
 refine Znr ?_
 refine rt_2 T rfl (T.e 1 rfl) (T.e 0 rfl) ?_
 have e9 : wrsL s = OL := (if_pos (by omega)).trans (by rw [hO, show k = s.ps.length by omega])
 have e8 : shE s true = 0 := by omega
 unfold LiPost
 rw [e9, e8]
 replace M := M.mask [] rfl
 exact ⟨A3, c3, Io, rfl, hsl.capLe M (List.Sublist.refl _), hsl.spV (ic_length _ ▸ (by omega)), M⟩
def skP (s : Sk) (L : List Pt) : Sk := { s with ps := L }
noncomputable def okP (s : Sk) (su : Bool) (L : List Pt) (n0 : Nat) : Bool := match shF (skP s L) su with
 | some y => decide (y.2 ≤ n0)
 | none => false
noncomputable def spareR (s : Sk) (p : Pt) (su : Bool) (n0 : Nat) : Nat → List Pt → Nat
 | 0, L => L.length
 | f + 1, L => if okP s su (L ++ [p]) n0 = true then spareR s p su n0 f (L ++ [p]) else L.length
noncomputable def sprE (s : Sk) (p : Pt) (su : Bool) : Int := if skErr s ≠ 0 then skErr s else if ptErr p ≠ 0 then ptErr p else shE s su
noncomputable def sprV (s : Sk) (p : Pt) (su : Bool) : Int := if sprE s p su ≠ 0 then 0 else (spareR s p su (shN s su) (5 - s.ps.length) s.ps : Int) - (s.ps.length : Int)
theorem okP_eq {s : Sk} {su : Bool} {L : List Pt} {n0 bn : Nat} {bl : List Int} {bi : Bool} (h : shF (skP s L) su = if bi = true then some (bl, bn) else none) : okP s su L n0 = (bi && decide (bn ≤ n0)) := by
 unfold okP
 rw [h]
 cases bi <;> rfl
set_option maxHeartbeats 2000000 in
theorem Spare_any (s : Sk) (A : Option Addr) (d : Nat) (p : Pt) (su : Bool)  (w : World) (hA : Rd w w.heap.size 4 A s.ps.length (pc s.ps)) (nA : s.ps.length ≤ 1000000) (hd : s.ps.length ≤ d) (hT : TabW w)  :
   Calls Tryz.prog 60 #[.agg #[.int .i64 s.lo, .int .i64 s.wi, .int .i64 s.a0, .int .i64 s.a1, .int .i64 s.c0, .int .i64 s.c1, .slice A s.ps.length d], .agg #[.int .i64 p.l, .int .i64 p.w, .bool p.gr, .int .i64 p.pa], .bool su] w fun e w' => e = .returned (.tuple #[.int .i64 (sprV s p su), .int .i64 (sprE s p su)]) ∧ Below w.heap.size w w' := by
 obtain ⟨bA, oA, SA⟩ := Sp.old hA
 refine Zpx noEx Tryz.func60 rfl 82 rfl [.agg #[.int .i64 s.lo, .int .i64 s.wi, .int .i64 s.a0, .int .i64 s.a1, .int .i64 s.c0, .int .i64 s.c1, .slice A s.ps.length d], .agg #[.int .i64 p.l, .int .i64 p.w, .bool p.gr, .int .i64 p.pa], .bool su] rfl rfl (Mem.init w _) ?_
 intro ac wc T M
 refine Zsr ?_
 refine Zl2 ?_
 refine Zob M T rfl rfl rfl rfl (T.e 0 rfl) rfl ?_; clear M T; intro g1 wc ac M T
 refine Zl2 ?_
 refine Zob M T rfl rfl rfl rfl (T.e 2 rfl) rfl ?_; clear M T; intro g2 wc ac M T
 refine Zg2 T (Zq (Zra rfl evc)) rfl (Zc rfl) rfl ?_; clear T ac; intro ac T
 replace T := T.pick [2, 3, 6] rfl
 refine Zln ?_
 refine wp_seq ?_
 refine Zsr ?_
 refine lq T (Zrr (Mem.nth M 1 rfl) rfl (T.e 1 rfl) rfl) ?_; clear T ac; intro ac T
 refine Zl2 ?_
 refine Zoc (first := []) (cap := []) T rfl rfl rfl rfl evf (.cons (T.e 0 rfl) .nil) Tryz.func66 rfl rfl ?_
 refine Calls.mono (skCheck_any s A d _ (SA.rd M (Zz9 _)) (by omega)) ?_
 clear T; rintro e wc ⟨rfl, hb⟩ ac T
 replace M := M.call hb; clear hb
 refine lq T (Zra rfl (T.e 0 rfl)) ?_; clear T ac; intro ac T
 replace T := T.pick [0, 3, 4, 5] rfl
 refine Zln ?_
 refine Zsr ?_
 refine Zg2 T (Zq (Zrm rfl (T.e 0 rfl))) rfl (fun _ T => Zq (rn_neq rfl (T.e 0 rfl) evc)) rfl ?_; clear T ac; intro ac T
 replace T := T.pick [0, 2, 3, 4, 5] rfl
 refine Zln ?_
 refine wp_ifn (T.e 0 rfl) ?_ ?_
 ·intro h1
  refine Zsr ?_
  refine Zg3 T (Zq (Zrm rfl (T.e 1 rfl))) rfl (Zc rfl) rfl (Za 1 rfl rfl) rfl ?_; clear T ac; intro ac T
  refine wpList_nil ?_
  replace T := T.pick [0, 1] rfl
  replace M := M.mask [false, false] rfl
  refine Znr ?_
  refine Zrt ?_
  refine rt_2 T rfl (T.e 1 rfl) (T.e 0 rfl) ?_
  have e9 : sprE s p su = skErr s := if_pos (by omega)
  have e8 : sprV s p su = 0 := if_pos (by omega)
  rw [e9, e8]
  exact ⟨rfl, M.below⟩
 intro h1
 have hsg := skErr_iff.1 (show skErr s = 0 by omega)
 obtain ⟨hb1, hb2, -, -, -, -⟩ := hsg
 have hsg := skErr_iff.1 (show skErr s = 0 by omega)
 refine Zsk ?_
 refine wp_seq ?_
 refine Zsr ?_
 refine lq T (Zrr (Mem.nth M 0 rfl) rfl (T.e 2 rfl) rfl) ?_; clear T ac; intro ac T
 refine Zl2 ?_
 refine Zoc (first := []) (cap := []) T rfl rfl rfl rfl evf (.cons (T.e 0 rfl) .nil) Tryz.func131 rfl rfl ?_
 refine Calls.mono (checkPart_any p _) ?_
 clear T; rintro e wc ⟨rfl, hb⟩ ac T
 replace M := M.call hb; clear hb
 refine lq T (Zra rfl (T.e 0 rfl)) ?_; clear T ac; intro ac T
 replace T := T.pick [0, 5, 6, 7] rfl
 refine Zln ?_
 refine Zsr ?_
 refine Zg2 T (Zq (Zrm rfl (T.e 0 rfl))) rfl (fun _ T => Zq (rn_neq rfl (T.e 0 rfl) evc)) rfl ?_; clear T ac; intro ac T
 replace T := T.pick [0, 2, 3, 4, 5] rfl
 refine Zln ?_
 refine wp_ifn (T.e 0 rfl) ?_ ?_
 ·intro h2
  refine Zsr ?_
  refine Zg3 T (Zq (Zrm rfl (T.e 1 rfl))) rfl (Zc rfl) rfl (Za 1 rfl rfl) rfl ?_; clear T ac; intro ac T
  refine wpList_nil ?_
  replace T := T.pick [0, 1] rfl
  replace M := M.mask [false, false] rfl
  refine Znr ?_
  refine Zrt ?_
  refine rt_2 T rfl (T.e 1 rfl) (T.e 0 rfl) ?_
  have e9 : sprE s p su = ptErr p := (if_neg (by omega)).trans (if_pos (by omega))
  have e8 : sprV s p su = 0 := if_pos (by omega)
  rw [e9, e8]
  exact ⟨rfl, M.below⟩
 intro h2
 have hpg := ptErr_iff.1 (show ptErr p = 0 by omega)
 refine Zsk ?_
 refine Zsr ?_
 refine Zg2 T (Zq (Zrr (Mem.nth M 1 rfl) rfl (T.e 3 rfl) rfl)) rfl (Zm 5 rfl rfl) rfl ?_; clear T ac; intro ac T
 refine Zl2 ?_
 refine Zoc (first := []) (cap := []) T rfl rfl rfl rfl evf (.cons (T.e 1 rfl) (.cons (T.e 0 rfl) .nil)) Tryz.func57 rfl rfl ?_
 refine Calls.mono (Sheets_any s A d su _ (SA.rd M (Zz9 _)) (by omega) (by omega) (hT.mem0 M)) ?_
 clear T; rintro e wc ⟨ASu3, cSu3, ISu3, rfl, hcpSu3, SVSu3, N⟩ ac T
 replace M := M.call N.below
 clear N
 refine Zg7 T (Zq (Zrm rfl (T.e 0 rfl))) rfl (Ze 0 rfl rfl rfl) rfl (Ze 1 rfl rfl rfl) rfl (Ze 2 rfl rfl rfl) rfl (Za 2 rfl rfl) rfl (Za 2 rfl rfl) rfl (Za 2 rfl rfl) rfl ?_; clear T ac; intro ac T
 replace T := T.pick [0, 1, 12, 13, 14] rfl
 refine Zln ?_
 refine wp_seq ?_
 refine Zsr ?_
 refine Zg2 T (Zq (Zrm rfl (T.e 0 rfl))) rfl (fun _ T => Zq (rn_neq rfl (T.e 0 rfl) evc)) rfl ?_; clear T ac; intro ac T
 replace T := T.pick [0, 2, 3, 4, 5, 6] rfl
 refine Zln ?_
 refine wp_ifn (T.e 0 rfl) ?_ ?_
 ·intro h3
  refine Zsr ?_
  refine Zg3 T (Zq (Zrm rfl (T.e 1 rfl))) rfl (Zc rfl) rfl (Za 1 rfl rfl) rfl ?_; clear T ac; intro ac T
  refine wpList_nil ?_
  replace T := T.pick [0, 1] rfl
  replace M := M.mask [false, false] rfl
  refine Znr ?_
  refine Zrt ?_
  refine rt_2 T rfl (T.e 1 rfl) (T.e 0 rfl) ?_
  have e9 : sprE s p su = shE s su := (if_neg (by omega)).trans (if_neg (by omega))
  have e8 : sprV s p su = 0 := if_pos (by omega)
  rw [e9, e8]
  exact ⟨rfl, M.below⟩
 intro h3
 refine Zsk ?_
 refine Zsr ?_
 refine lq T (Zrr (Mem.nth M 1 rfl) rfl (T.e 4 rfl) rfl) ?_; clear T ac; intro ac T
 refine Zl2 ?_
 refine Zoa M T rfl rfl rfl rfl ?_; clear M T; intro g3 wc ac M T
 refine Zl2 ?_
 refine Zos M T rfl rfl (T.e 0 rfl) (T.e 1 rfl) rfl .head rfl (by simp) rfl (by kernel_rfl) ?_; clear M T; intro wc ac M T
 replace T := T.pick [0, 4, 5, 6, 7] rfl
 refine Zln ?_
 refine Zsr ?_
 refine Zg2 (v1 := (.pointer (some ⟨g1, 6, none⟩))) T (Zq (Zrf (off := 6) rfl (T.e 3 rfl) (fun _ _ _ => by kernel_rfl))) rfl (Zo M 2 0 rfl rfl rfl rfl) rfl ?_; clear T ac; intro ac T
 refine Zl2 ?_
 refine Zoc (first := []) (cap := []) T rfl rfl rfl rfl evf (.cons (T.e 0 rfl) .nil) Tryz.func130 rfl rfl ?_
 refine Calls.mono (cloneP_any A d s.ps _ (SA.rd M (Zz9 _)) (by omega)) ?_
 clear T; rintro e wc ⟨Acu4, ccu4, Icu4, rfl, hclu4, N⟩ ac T
 replace M := (M.join N).swapI
 clear N
 replace M : Mem w noEx wc ((g3, .cells [.int .i64 s.lo, .int .i64 s.wi, .int .i64 s.a0, .int .i64 s.a1, .int .i64 s.c0, .int .i64 s.c1, .slice A s.ps.length d]) :: (g2, .cells [.int .i64 p.l, .int .i64 p.w, .bool p.gr, .int .i64 p.pa]) :: (g1, .cells [.int .i64 s.lo, .int .i64 s.wi, .int .i64 s.a0, .int .i64 s.a1, .int .i64 s.c0, .int .i64 s.c1, .slice A s.ps.length d]) :: Icu4) := M
 refine lq (v := (.pointer (some ⟨g3, 6, none⟩))) T (Zrf (off := 6) rfl (T.e 3 rfl) (fun _ _ _ => by kernel_rfl)) ?_; clear T ac; intro ac T
 refine Zl2 ?_
 refine Zos M T rfl rfl (T.e 0 rfl) (T.e 1 rfl) rfl .head rfl (by simp) rfl (by kernel_rfl) ?_; clear M T; intro wc ac M T
 replace T := T.pick [4, 5, 6, 7, 8] rfl
 refine Zln ?_
 refine wp_seq ?_
 refine wp_block ?_
 refine wp_loop_n (fun mz ac wc => ∃ (OL : List Pt) (A3 : Option Addr) (c3 : Nat) (Io : List (Nat × BA)), mz = 5 - OL.length ∧ (OL.length ≤ 5) ∧ (s.ps.length ≤ OL.length) ∧ (∀ q ∈ OL, q.good) ∧ (spareR s p su (shN s su) (5 - s.ps.length) s.ps = spareR s p su (shN s su) (5 - OL.length) OL) ∧ (Cl 119 4 A3 OL.length c3 (pc OL) Io) ∧ Tm ac 82 [(2, .bool su), (3, .pointer (some ⟨g1, 0, none⟩)), (4, .pointer (some ⟨g2, 0, none⟩)), (11, .int .i64 (shN s su : Int)), (13, .pointer (some ⟨g3, 0, none⟩))] ∧ Mem w noEx wc ((g3, .cells [.int .i64 s.lo, .int .i64 s.wi, .int .i64 s.a0, .int .i64 s.a1, .int .i64 s.c0, .int .i64 s.c1, .slice A3 OL.length c3]) :: (g2, .cells [.int .i64 p.l, .int .i64 p.w, .bool p.gr, .int .i64 p.pa]) :: (g1, .cells [.int .i64 s.lo, .int .i64 s.wi, .int .i64 s.a0, .int .i64 s.a1, .int .i64 s.c0, .int .i64 s.c1, .slice A s.ps.length d]) :: Io)) ?_ ?_
 ·exact ⟨_, s.ps, Acu4, ccu4, Icu4, rfl, hsg.len, (Nat.le_refl _), hsg.ps, rfl, hclu4, T.pick [4, 3, 2, 1, 0] rfl, M.mask [true, true, true] rfl⟩
 clear T M
 rintro mz ac wc ⟨OL, A3, c3, Io, hmm1, hOl, hO5, hgO, H, hcl, T, M⟩
 refine wp_seq ?_
 refine Zsr ?_
 refine Zg4 (v1 := (.pointer (some ⟨g3, 6, none⟩))) T (Zq (Zrf (off := 6) rfl (T.e 4 rfl) (fun _ _ _ => by kernel_rfl))) rfl (Zo M 0 0 rfl rfl rfl rfl) rfl (Zl Tryz.underlying47 0 rfl rfl) rfl (fun _ T => Zq (rn_lss rfl (T.e 0 rfl) evc)) rfl ?_; clear T ac; intro ac T
 replace T := T.pick [0, 4, 5, 6, 7, 8] rfl
 refine Zln ?_
 refine wp_if (T.e 0 rfl) ?_ ?_
 ·intro h4
  have e8 : 5 - OL.length = (5 - (OL ++ [p]).length) + 1 := by simp; omega
  rw [e8, spareR] at H
  refine Zsk ?_
  refine wp_block ?_
  refine Zsr ?_
  refine Zg3 (v1 := (.pointer (some ⟨g3, 6, none⟩))) T (Zq (Zrf (off := 6) rfl (T.e 5 rfl) (fun _ _ _ => by kernel_rfl))) rfl (Zo M 0 0 rfl rfl rfl rfl) rfl (Zr M 1 5 rfl rfl rfl rfl) rfl ?_; clear T ac; intro ac T
  refine Zl2 ?_
  refine ow_bs (e := 119) [.int .i64 p.l, .int .i64 p.w, .bool p.gr, .int .i64 p.pa] M T rfl rfl rfl rfl (.cons (T.e 0 rfl) .nil) (fun _ => by kernel_rfl) ?_; clear M T; intro g4 wc ac M T
  refine Zl2 ?_
  refine ow_appC ([(g4, .cells [.int .i64 p.l, .int .i64 p.w, .bool p.gr, .int .i64 p.pa]), (g3, .cells [.int .i64 s.lo, .int .i64 s.wi, .int .i64 s.a0, .int .i64 s.a1, .int .i64 s.c0, .int .i64 s.c1, .slice A3 OL.length c3]), (g2, .cells [.int .i64 p.l, .int .i64 p.w, .bool p.gr, .int .i64 p.pa]), (g1, .cells [.int .i64 s.lo, .int .i64 s.wi, .int .i64 s.a0, .int .i64 s.a1, .int .i64 s.c0, .int .i64 s.c1, .slice A s.ps.length d])]) Tryz.info119 hcl M (by first | rfl | simp) T rfl rfl rfl rfl Tryz.underlying47 rfl rfl rfl (by omega) (T.e 2 rfl) (T.e 0 rfl) (Zne (i := 0) rfl) rfl rfl ?_; clear M T; intro ga1 cga1 wc ac M T
  have e9 : OL.length + 1 = (OL ++ [p]).length := by simp
  have e8 : ((pc OL) ++ [.int .i64 p.l, .int .i64 p.w, .bool p.gr, .int .i64 p.pa]) = pc (OL ++ [p]) := by rw [← pc_snoc]
  rw [e9, e8] at M
  rw [e9] at T
  clear e9 e8
  refine lq (v := (.pointer (some ⟨g3, 6, none⟩))) T (Zrf (off := 6) rfl (T.e 10 rfl) (fun _ _ _ => by kernel_rfl)) ?_; clear T ac; intro ac T
  refine Zl2 ?_
  refine Zos M T rfl rfl (T.e 0 rfl) (T.e 1 rfl) rfl (.tail (.tail .head)) rfl (by simp) rfl (by kernel_rfl) ?_; clear M T; intro wc ac M T
  refine wpList_nil ?_
  replace T := T.pick [7, 8, 9, 10, 11] rfl
  replace M := M.mask [true, false, true, true, true] rfl
  refine nm_then ?_
  refine Zsr ?_
  refine Zg2 T (Zq (Zrr (Mem.nth M 1 rfl) rfl (T.e 4 rfl) rfl)) rfl (Zm 1 rfl rfl) rfl ?_; clear T ac; intro ac T
  refine Zl2 ?_
  refine Zoc (first := []) (cap := []) T rfl rfl rfl rfl evf (.cons (T.e 1 rfl) (.cons (T.e 0 rfl) .nil)) Tryz.func123 rfl rfl ?_
  refine Calls.mono (cut_any ({ s with ps := (OL ++ [p]) } : Sk) (some ⟨ga1, 0, none⟩) cga1 su _) ?_
  clear T; rintro e wc ⟨gau5, gcu5, rfl, N⟩ ac T
  obtain ⟨a, hae⟩ : ∃ q, q = cutA s su := ⟨_, rfl⟩
  obtain ⟨c, hce⟩ : ∃ q, q = cutC s su := ⟨_, rfl⟩
  have hA9 : cutA ({ s with ps := (OL ++ [p]) } : Sk) su = a := by rw [hae]; rfl
  have hC9 : cutC ({ s with ps := (OL ++ [p]) } : Sk) su = c := by rw [hce]; rfl
  rw [hA9, hC9] at N
  obtain ⟨ha, hc⟩ := cut_bd hsg su
  rw [← hae] at ha
  rw [← hce] at hc
  replace M := M.join N; clear N
  replace M := M.mask [true, true, true, true, true, true] rfl
  refine Zl2 ?_
  have hg9 : ∀ q ∈ OL ++ [p], q.good := fun q hq => by rcases List.mem_append.1 hq with h9 | h9; exact hgO q h9; rw [List.mem_singleton.1 h9]; exact hpg
  have hl9 : (OL ++ [p]).length ≤ 5 := by simp; omega
  have hcp9 : (OL ++ [p]).length ≤ cga1 := (Cl.row 119 4 ga1 _ _ (pc (OL ++ [p]))).capLe M (.cons _ (.cons _ (List.Sublist.cons_cons _ (Zz9 _))))
  have hln9 : (OL ++ [p]).length = OL.length + 1 := by simp
  refine Zoc (first := []) (cap := []) T rfl rfl rfl rfl evf (.cons (T.e 0 rfl) .nil) Tryz.func128 rfl rfl ?_
  refine Calls.mono (shs_any ({ s with ps := (OL ++ [p]) } : Sk) (some ⟨ga1, 0, none⟩) cga1 a c gau5 gcu5 _ ha hc hg9 hl9 (by dsimp only; omega) (by dsimp only; omega) hcp9 (M.nth 0 rfl) (M.nth 1 rfl) (M.rdRow (Zne (i := 2) rfl)) (hT.mem0 M)) ?_
  clear T; rintro e wc ⟨bA, bc, bl, bn, bi, IRu6, rfl, hFd, hcp, SR, N⟩ ac T
  have hF9 : shF (skP s (OL ++ [p])) su = if bi = true then some (bl, bn) else none := by rw [hae, hce] at hFd; exact hFd
  have hok := okP_eq (n0 := shN s su) hF9
  replace M := M.call N.below
  clear N
  refine Zg7 T (Zq (Zrm rfl (T.e 0 rfl))) rfl (Ze 0 rfl rfl rfl) rfl (Ze 1 rfl rfl rfl) rfl (Ze 2 rfl rfl rfl) rfl (Za 2 rfl rfl) rfl (Za 2 rfl rfl) rfl (Za 2 rfl rfl) rfl ?_; clear T ac; intro ac T
  refine wpList_nil ?_
  replace T := T.pick [0, 1, 11, 12, 13, 14, 15] rfl
  replace M := M.mask [false, false, true, true, true, true] rfl
  refine nm_then ?_
  refine cut_seq (fun ac wc => Tm ac 82 [(2, .bool su), (3, .pointer (some ⟨g1, 0, none⟩)), (4, .pointer (some ⟨g2, 0, none⟩)), (11, .int .i64 (shN s su : Int)), (13, .pointer (some ⟨g3, 0, none⟩)), (66, .bool ((!bi) || (decide ((shN s su : Int) < (bn : Int)))))] ∧ Mem w noEx wc [(ga1, .row 119 4 (OL ++ [p]).length (pc (OL ++ [p])) cga1), (g3, .cells [.int .i64 s.lo, .int .i64 s.wi, .int .i64 s.a0, .int .i64 s.a1, .int .i64 s.c0, .int .i64 s.c1, .slice (some ⟨ga1, 0, none⟩) ((OL ++ [p]).length) cga1]), (g2, .cells [.int .i64 p.l, .int .i64 p.w, .bool p.gr, .int .i64 p.pa]), (g1, .cells [.int .i64 s.lo, .int .i64 s.wi, .int .i64 s.a0, .int .i64 s.a1, .int .i64 s.c0, .int .i64 s.c1, .slice A s.ps.length d])]) ?_ ?_
  ·refine wp_region_lit ?_
   refine Zg3 T (Zq (Zrm rfl (T.e 0 rfl))) rfl (fun _ T => Zq (rn_not rfl (T.e 0 rfl))) rfl (Zm 0 rfl rfl) rfl ?_; clear T ac; intro ac T
   rcases Bool.eq_false_or_eq_true (!bi) with h5 | h5
   ·refine Zg4 T (Zp (Zwn rfl rfl (T.e 0 rfl) h5)) rfl (fun _ T => Zp (Zwn rfl rfl (T.e 1 rfl) h5)) rfl (fun _ T => Zp (Zwn rfl rfl (T.e 2 rfl) h5)) rfl (fun _ T => Zq (Zr1 rfl (T.e 3 rfl) h5 evc)) rfl ?_; clear T ac; intro ac T
    refine wpList_nil ?_
    replace T := T.pick [0, 1, 2, 3, 9, 10, 11, 12, 13] rfl
    exact ⟨(T.pick (E' := [(2, .bool su), (3, .pointer (some ⟨g1, 0, none⟩)), (4, .pointer (some ⟨g2, 0, none⟩)), (11, .int .i64 (shN s su : Int)), (13, .pointer (some ⟨g3, 0, none⟩)), (66, .bool true)]) [4, 5, 6, 7, 8, 0] rfl).as (by (try rw [show (!bi) = true from h5]); (try rfl)), M.mask [true, true, true, true] rfl⟩
   refine Zg4 T (Zw (Zwy rfl rfl (T.e 0 rfl) h5) (Zrm rfl (T.e 4 rfl))) rfl (fun _ T => Zw (Zwy rfl rfl (T.e 1 rfl) h5) (Zrm rfl (T.e 9 rfl))) rfl (fun _ T => Zw (Zwy rfl rfl (T.e 2 rfl) h5) (rn_gtr rfl (T.e 1 rfl) (T.e 0 rfl))) rfl (fun _ T => Zq (Zr0 rfl (T.e 3 rfl) h5 (T.e 0 rfl))) rfl ?_; clear T ac; intro ac T
   refine wpList_nil ?_
   replace T := T.pick [0, 1, 2, 3, 9, 10, 11, 12, 13] rfl
   exact ⟨(T.pick (E' := [(2, .bool su), (3, .pointer (some ⟨g1, 0, none⟩)), (4, .pointer (some ⟨g2, 0, none⟩)), (11, .int .i64 (shN s su : Int)), (13, .pointer (some ⟨g3, 0, none⟩)), (66, .bool (decide ((shN s su : Int) < (bn : Int))))]) [4, 5, 6, 7, 8, 0] rfl).as (by (try rw [show (!bi) = false from h5]); (try rfl)), M.mask [true, true, true, true] rfl⟩
  clear T M
  rintro ac wc ⟨T, M⟩
  refine wp_cond_split (T.e 5 rfl) ?_ ?_
  ·intro h6
   (have h6' := h6; try simp only [Zb1, Zb2, Zb3, Zb4, Zb5, Zb6, Zb7] at h6')
   have hno : ¬ okP s su (OL ++ [p]) (shN s su) = true := by rw [hok]; cases bi <;> simp_all
   have hfin : spareR s p su (shN s su) (5 - s.ps.length) s.ps = OL.length := by rw [H, if_neg hno]
   refine Zsr ?_
   refine Zg7 (v1 := (.pointer (some ⟨g3, 6, none⟩))) (v3 := (.pointer (some ⟨g3, 6, none⟩))) T (Zq (Zrf (off := 6) rfl (T.e 4 rfl) (fun _ _ _ => by kernel_rfl))) rfl (Zo M 1 0 rfl rfl rfl rfl) rfl (Zf 6 6 rfl rfl) rfl (Zo M 1 0 rfl rfl rfl rfl) rfl (Zl Tryz.underlying47 0 rfl rfl) rfl (fun _ T => Zq (rn_sub rfl (T.e 0 rfl) evc (by omega))) rfl (fun _ T => Zq (rn_slice (size := 4) (l := 0) (h := OL.length) rfl Tryz.underlying47 (by kernel_rfl) (T.e 4 rfl) rfl ((T.e 0 rfl).trans (congrArg (Value.int .i64) (by simp))) (by omega) (by omega))) rfl ?_; clear T ac; intro ac T
   obtain ⟨Aq1, hAq1⟩ : ∃ q : Option Addr, q = (if cga1 = 0 then some ⟨ga1, 0, none⟩ else Option.map (fun x : Addr => x.add (0 * 4)) (some ⟨ga1, 0, none⟩)) := ⟨_, rfl⟩
   rw [← hAq1] at T
   refine lq (v := (.pointer (some ⟨g3, 6, none⟩))) T (Zrf (off := 6) rfl (T.e 11 rfl) (fun _ _ _ => by kernel_rfl)) ?_; clear T ac; intro ac T
   refine Zl2 ?_
   refine Zos M T rfl rfl (T.e 0 rfl) (T.e 1 rfl) rfl (.tail .head) rfl (by simp) rfl (by kernel_rfl) ?_; clear M T; intro wc ac M T
   refine wpList_nil ?_
   replace T := T.pick [9, 12] rfl
   replace M := M.mask [true, true, false, true] rfl
   refine nm_then ?_
   refine wp_exit ?_
   refine ex_miss rfl ?_
   refine Zet ?_
   refine ex_hit ?_
   refine nm_then ?_
   refine Zsr ?_
   refine Zg8 (v1 := (.pointer (some ⟨g3, 6, none⟩))) (v4 := (.pointer (some ⟨g1, 6, none⟩))) T (Zq (Zrf (off := 6) rfl (T.e 1 rfl) (fun _ _ _ => by kernel_rfl))) rfl (Zo M 1 0 rfl rfl rfl rfl) rfl (Zl Tryz.underlying47 0 rfl rfl) rfl (Zf 6 3 rfl rfl) rfl (Zo M 2 0 rfl rfl rfl rfl) rfl (Zl Tryz.underlying47 0 rfl rfl) rfl (fun _ T => Zq (rn_sub rfl (T.e 3 rfl) (T.e 0 rfl) (by omega))) rfl (Za 0 rfl rfl) rfl ?_; clear T ac; intro ac T
   refine lq T (Zra rfl evc) ?_; clear T ac; intro ac T
   refine wpList_nil ?_
   replace T := T.pick [0, 1] rfl
   replace M := M.mask [true, false, false] rfl
   refine Znr ?_
   refine rt_2 T rfl (T.e 1 rfl) (T.e 0 rfl) ?_
   have e9 : sprE s p su = 0 := (if_neg (by omega)).trans ((if_neg (by omega)).trans (by omega))
   have e8 : sprV s p su = (OL.length : Int) - (s.ps.length : Int) := by unfold sprV; rw [if_neg (by omega), hfin]
   rw [e9, e8]
   exact ⟨rfl, M.below⟩
  intro h6
  (have h6' := h6; try simp only [Zb1, Zb2, Zb3, Zb4, Zb5, Zb6, Zb7] at h6')
  have hyes : okP s su (OL ++ [p]) (shN s su) = true := by rw [hok]; cases bi <;> simp_all
  refine wp_skip ?_
  refine Znb ?_
  refine nm_then ?_
  exact ⟨_, by simp; omega, (OL ++ [p]), _, cga1, [(ga1, .row 119 4 (OL ++ [p]).length (pc (OL ++ [p])) cga1)], rfl, (by simp; omega), (by simp; omega), hg9, (by rw [H, if_pos hyes]), (Cl.row _ _ _ _ _ _), T.pick [0, 1, 2, 3, 4] rfl, M.perm [1, 2, 3, 0] rfl rfl⟩
 intro h4
 have hfin : spareR s p su (shN s su) (5 - s.ps.length) s.ps = OL.length := by rw [H, show 5 - OL.length = 0 by omega]; rfl
 refine wp_exit ?_
 refine Zet ?_
 refine Zet ?_
 refine ex_hit ?_
 refine nm_then ?_
 refine Zsr ?_
 refine Zg8 (v1 := (.pointer (some ⟨g3, 6, none⟩))) (v4 := (.pointer (some ⟨g1, 6, none⟩))) T (Zq (Zrf (off := 6) rfl (T.e 5 rfl) (fun _ _ _ => by kernel_rfl))) rfl (Zo M 0 0 rfl rfl rfl rfl) rfl (Zl Tryz.underlying47 0 rfl rfl) rfl (Zf 6 5 rfl rfl) rfl (Zo M 2 0 rfl rfl rfl rfl) rfl (Zl Tryz.underlying47 0 rfl rfl) rfl (fun _ T => Zq (rn_sub rfl (T.e 3 rfl) (T.e 0 rfl) (by omega))) rfl (Za 0 rfl rfl) rfl ?_; clear T ac; intro ac T
 refine lq T (Zra rfl evc) ?_; clear T ac; intro ac T
 refine wpList_nil ?_
 replace T := T.pick [0, 1] rfl
 replace M := M.mask [false, false, false] rfl
 refine Znr ?_
 refine rt_2 T rfl (T.e 1 rfl) (T.e 0 rfl) ?_
 have e9 : sprE s p su = 0 := (if_neg (by omega)).trans ((if_neg (by omega)).trans (by omega))
 have e8 : sprV s p su = (OL.length : Int) - (s.ps.length : Int) := by unfold sprV; rw [if_neg (by omega), hfin]
 rw [e9, e8]
 exact ⟨rfl, M.below⟩
theorem okP_iff {s : Sk} {su : Bool} {L : List Pt} {n : Nat} : okP s su L n = true ↔ ColP (Fit (cutA s su) (cutC s su)) s.lo s.wi L n := by
 have h1 := @shF_col (skP s L) su
 constructor
 ·intro h
  unfold okP at h
  cases hf : shF (skP s L) su with
  | none => rw [hf] at h; cases h
  | some y =>
   rw [hf] at h
   have h2 : y.2 ≤ n := of_decide_eq_true h
   exact (h1.2 y.1 y.2 hf).1.le h2
 ·intro h
  obtain ⟨l, m, h2, h3⟩ := shF_some (s := skP s L) (su := su) h
  unfold okP
  rw [h2]
  exact Zdt h3
theorem areasP_sum (a c : Int) : ∀ l : List Pt, areasP a c l = (l.map (areaP a c)).sum
 | [] => rfl
 | p :: l => by rw [areasP, areasP_sum a c l]; simp
theorem fit_area {a c lo wi : Int} {p : Pt} (hp : p.good) (ha : 0 ≤ a) (hc : 0 ≤ c) (h : Fit a c p lo wi) : areaP a c p ≤ lo * wi := by
 obtain ⟨t, h⟩ := h
 simp only [fitsT, Bool.and_eq_true, decide_eq_true_eq, Bool.not_eq_true'] at h
 obtain ⟨⟨h1, h2⟩, h3⟩ := h
 obtain ⟨g1, g2, -⟩ := hp
 have key : ∀ t, sizeL a c p t ≤ lo → sizeW a c p t ≤ wi → sizeL a c p t * sizeW a c p t ≤ lo * wi := fun t k1 k2 => by
  have n1 : 0 ≤ sizeL a c p t := by simp only [sizeL]; split <;> omega
  have n2 : 0 ≤ sizeW a c p t := by simp only [sizeW]; split <;> omega
  exact Int.mul_le_mul k1 k2 n2 (by omega)
 have hk := key t h1 h2
 unfold areaP
 cases t with
 | false => split <;> omega
 | true =>
  split
  ·rename_i hg
   rw [hg] at h3
   cases h3
  ·omega
theorem ColP.areas {a c lo wi : Int} {ps : List Pt} {n : Nat} (hg : ∀ p ∈ ps, p.good) (ha : 0 ≤ a) (hc : 0 ≤ c) (hlo : 0 ≤ lo) (hwi : 0 ≤ wi) (h : ColP (Fit a c) lo wi ps n) : areasP a c ps ≤ (n : Int) * (lo * wi) := by
 have h2 : ColP (fun p lo wi => Fit a c p lo wi ∧ p.good) lo wi (ps.map fun p => p) n := by
  refine ColP.map (fun p => p) (fun p _ q _ h1 h2 => ⟨h1, h2⟩) (fun xs hx hcut => ?_) h
  exact Cut.map (fun p => p) (fun p hp lo wi hf => ⟨hf, hg p (hx p hp)⟩) hcut
 rw [List.map_id'] at h2
 rw [areasP_sum]
 exact ColP.area (f := fun p lo wi => Fit a c p lo wi ∧ p.good) (fun p lo wi hf => fit_area hf.2 ha hc hf.1) hlo hwi h2
def stkS : Sk := ⟨6, 3, 0, 1, 0, 0, [⟨3, 2, false, 0⟩, ⟨2, 3, true, 0⟩, ⟨4, 1, false, 0⟩]⟩
def prdS : Sk := ⟨6, 3, 0, 1, 0, 0, [⟨3, 2, false, 1⟩, ⟨2, 3, true, 0⟩, ⟨4, 1, false, 1⟩]⟩
def shNC (s : Sk) (su : Bool) : Nat := match shFC s su with
 | some y => y.2
 | none => 0
theorem shNC_eq {s : Sk} {su : Bool} (h : skErr s = 0) (h5 : s.ps.length ≤ 5) : shN s su = shNC s su := by
 unfold shNC
 rw [shFC_eq h5]
 cases hf : shF s su with
 | none =>
  have hE : shE s su = 11 := by unfold shE; rw [if_neg (by rw [h]; decide), hf]; rfl
  unfold shN
  rw [if_neg (by rw [hE]; decide)]
 | some y =>
  have hE : shE s su = 0 := by unfold shE; rw [if_neg (by rw [h]; decide), hf]; rfl
  unfold shN
  rw [if_pos hE, hf]
  rfl
theorem st_err : skErr stkS = 0 := by decide +kernel
theorem pr_err : skErr prdS = 0 := by decide +kernel
theorem st_plan : planL stkS [0, 1] true = [⟨0, 0, true⟩, ⟨3, 0, false⟩] ∧ planE stkS [0, 1] true = 0 := by
 have h := planC_eq stkS [0, 1] true
 have h2 : planC stkS [0, 1] true = ([⟨0, 0, true⟩, ⟨3, 0, false⟩], 0) := by decide +kernel
 rw [h2] at h
 injection h with h3 h4
 exact ⟨h3.symm, h4.symm⟩
theorem pr_sh : shL prdS true = [0, 1, 0] ∧ shN prdS true = 2 ∧ shE prdS true = 0 := by
 have h2 : shFC prdS true = some ([0, 1, 0], 2) := by decide +kernel
 rw [shFC_eq (by decide)] at h2
 have hE : shE prdS true = 0 := by unfold shE; rw [if_neg (by rw [pr_err]; decide), h2]; rfl
 exact ⟨by unfold shL; rw [if_pos hE, h2]; rfl, by unfold shN; rw [if_pos hE, h2]; rfl, hE⟩
theorem st_sh : shN stkS true = 2 ∧ shE stkS true = 0 := by
 have h2 : (shFC stkS true).map (·.2) = some 2 := by decide +kernel
 rw [shFC_eq (by decide)] at h2
 obtain ⟨y, h3, h4⟩ : ∃ y, shF stkS true = some y ∧ y.2 = 2 := by
   cases h : shF stkS true with
   | none => rw [h] at h2; cases h2
   | some y => rw [h] at h2; exact ⟨y, rfl, by simpa using h2⟩
 have hE : shE stkS true = 0 := by unfold shE; rw [if_neg (by rw [st_err]; decide), h3]; rfl
 exact ⟨by unfold shN; rw [if_pos hE, h3]; exact h4, hE⟩
theorem st_wrs : wrsL stkS = [2, 1, 1] := by
 unfold wrsL
 rw [if_pos st_sh.2]
 have e : ∀ i, i < 3 → wrsV stkS i = if shNC (skW stkS i) true < 2 then 1 else 2 := fun i hi => by
  unfold wrsV
  rw [st_sh.1, shNC_eq (by
   have : ∀ i, i < 3 → skErr (skW stkS i) = 0 := by decide +kernel
   exact this i hi) (by
   have : ∀ i, i < 3 → (skW stkS i).ps.length ≤ 5 := by decide +kernel
   exact this i hi)]
 have e2 : (List.range stkS.ps.length).map (wrsV stkS) = [wrsV stkS 0, wrsV stkS 1, wrsV stkS 2] := rfl
 rw [e2, e 0 (by decide), e 1 (by decide), e 2 (by decide)]
 decide +kernel
theorem st_spr : sprV stkS ⟨5, 2, true, 0⟩ true = 1 ∧ sprE stkS ⟨5, 2, true, 0⟩ true = 0 := by
 have hp : ptErr ⟨5, 2, true, 0⟩ = 0 := by decide +kernel
 have hE : sprE stkS ⟨5, 2, true, 0⟩ true = 0 := by unfold sprE; rw [if_neg (by rw [st_err]; decide), if_neg (by rw [hp]; decide), st_sh.2]
 refine ⟨?_, hE⟩
 unfold sprV
 rw [if_neg (by rw [hE]; decide), st_sh.1]
 have e : spareR stkS ⟨5, 2, true, 0⟩ true 2 (5 - stkS.ps.length) stkS.ps = 4 := by
  show spareR stkS ⟨5, 2, true, 0⟩ true 2 2 stkS.ps = 4
  have y1 : okP stkS true (stkS.ps ++ [⟨5, 2, true, 0⟩]) 2 = true := by
   rw [okP_iff]
   refine ColP.of_will (l := [0, 0, 1, 1]) (by decide) (by decide) ?_
   have hw : willC (skP stkS (stkS.ps ++ [⟨5, 2, true, 0⟩])) true [0, 0, 1, 1] 2 = true := by decide +kernel
   rw [willC_eq (by decide)] at hw
   exact willB_iff.1 hw
  have y2 : ¬ okP stkS true (stkS.ps ++ [⟨5, 2, true, 0⟩] ++ [⟨5, 2, true, 0⟩]) 2 = true := by
   rw [okP_iff]
   intro h
   have := h.areas (by
    have : ∀ p ∈ stkS.ps ++ [⟨5, 2, true, 0⟩] ++ [⟨5, 2, true, 0⟩], ptErr p = 0 := by decide +kernel
    exact fun p hp => ptErr_iff.1 (this p hp)) (by decide) (by decide) (by decide) (by decide)
   revert this
   decide +kernel
  rw [spareR, if_pos y1, spareR, if_neg y2]
  rfl
 rw [e]
 rfl
theorem st_cuts : cutsV stkS [0, 2] [⟨0, 1, false⟩, ⟨0, 0, false⟩] true = true ∧ cutsE stkS [0, 2] 2 = 0 := by
 have hE : cutsE stkS [0, 2] 2 = 0 := by decide +kernel
 refine ⟨?_, hE⟩
 unfold cutsV
 rw [if_pos (show cutsE stkS [0, 2] ([⟨0, 1, false⟩, ⟨0, 0, false⟩] : List Spt).length = 0 from hE)]
 unfold cutsB
 have h2 : plP (cutA stkS true) (cutC stkS true) stkS.lo stkS.wi [] (gP stkS [0, 2]) [⟨0, 1, false⟩, ⟨0, 0, false⟩] = some [⟨0, 1, 4, 3, 0⟩, ⟨0, 0, 5, 1, 1⟩] := by decide +kernel
 rw [h2]
 show sawB _ _ = true
 rw [← sawC_eq 3 _ _ (by decide)]
 decide +kernel
theorem eqT123 {x y : Operand} {a0 a1 b0 b1 : Int} {a2 b2 : Bool} {w : World} : (do eqGuard .eql 123 x y (.agg #[.int .i64 a0, .int .i64 a1, .bool a2]) (.agg #[.int .i64 b0, .int .i64 b1, .bool b2]); binOp .eql 123 (.agg #[.int .i64 a0, .int .i64 a1, .bool a2]) (.agg #[.int .i64 b0, .int .i64 b1, .bool b2]) : Sem Value).run Tryz.prog w = .ok (.bool (decide (a0 = b0) && (decide (a1 = b1) && decide (a2 = b2)))) w := by
 go_simp
 (repeat' split) <;> simp_all
theorem take_same {α : Type} {l r : List α} {k : Nat} {p q : α} (h1 : l[k]? = some p) (h2 : r[k]? = some q) : l.take (k + 1) = r.take (k + 1) ↔ l.take k = r.take k ∧ p = q := by
 rw [List.take_add_one, List.take_add_one, h1, h2, Option.toList_some, Option.toList_some]
 constructor
 ·intro h
  have hl : (l.take k).length = (r.take k).length := by
   have := congrArg List.length h
   simpa using this
  obtain ⟨h3, h4⟩ := List.append_inj h hl
  exact ⟨h3, by simpa using h4⟩
 ·rintro ⟨h3, rfl⟩
  rw [h3]
theorem sameSpots_any (L : Option Addr) (c : Nat) (l : List Spt) (R : Option Addr) (d : Nat) (r : List Spt)  (w : World) (hL : Rd w w.heap.size 3 L l.length (tc l)) (hR : Rd w w.heap.size 3 R r.length (tc r)) (nL : l.length ≤ 1000000) (nR : r.length ≤ 1000000) :
   Calls Tryz.prog 63 #[.slice L l.length c, .slice R r.length d] w fun e w' => e = .returned (.bool (decide (l = r))) ∧ Below w.heap.size w w' := by
 obtain ⟨bL, oL, SL⟩ := Sp.old hL
 obtain ⟨bR, oR, SR⟩ := Sp.old hR
 refine Zpx noEx Tryz.func63 rfl 31 rfl [.slice L l.length c, .slice R r.length d] rfl rfl (Mem.init w _) ?_
 intro ac wc T M
 refine Zsr ?_
 refine lq T (Zra rfl evc) ?_; clear T ac; intro ac T
 replace T := T.pick [1, 2] rfl
 refine Zln ?_
 refine Zsr ?_
 refine Zg6 T (Zq (Zrm rfl (T.e 0 rfl))) rfl (Zl Tryz.underlying110 0 rfl rfl) rfl (Zm 3 rfl rfl) rfl (Zl Tryz.underlying110 0 rfl rfl) rfl (fun _ T => Zq (rn_eql rfl (T.e 2 rfl) (T.e 0 rfl))) rfl (Za 0 rfl rfl) rfl ?_; clear T ac; intro ac T
 replace T := T.pick [0, 6, 7] rfl
 refine Zln ?_
 refine wp_seq ?_
 refine Zsr ?_
 refine lq T (Zra rfl evc) ?_; clear T ac; intro ac T
 refine Zln ?_
 refine wp_block ?_
 refine wp_loop_n (fun mz ac wc => ∃ (i : Nat) (sm : Bool), mz = l.length - i ∧ (i ≤ l.length) ∧ (sm = true ↔ l.length = r.length ∧ l.take i = r.take i) ∧ Tm ac 31 [(0, .slice L l.length c), (1, .slice R r.length d), (5, .bool sm), (6, .int .i64 (i : Int))] ∧ Mem w noEx wc []) ?_ ?_
 ·exact ⟨_, 0, _, rfl, (Nat.zero_le _), (by simp; omega), T.pick [2, 3, 1, 0] rfl, M.mask [] rfl⟩
 clear T M
 rintro mz ac wc ⟨i, sm, hmm1, hi, hs, T, M⟩
 refine wp_seq ?_
 refine cut_seq (fun ac wc => Tm ac 31 [(0, .slice L l.length c), (1, .slice R r.length d), (5, .bool sm), (6, .int .i64 (i : Int)), (18, .bool (sm && (decide ((i : Int) < ((l.length : Nat) : Int)))))] ∧ Mem w noEx wc []) ?_ ?_
 ·refine wp_region_lit ?_
  refine Zg2 T (Zq (Zrm rfl (T.e 2 rfl))) rfl (Zm 0 rfl rfl) rfl ?_; clear T ac; intro ac T
  rcases Bool.eq_false_or_eq_true sm with h1 | h1
  ·refine Zg5 T (Zw (Zwy rfl rfl (T.e 0 rfl) h1) (Zrm rfl (T.e 5 rfl))) rfl (fun _ T => Zw (Zwy rfl rfl (T.e 1 rfl) h1) (Zrm rfl (T.e 3 rfl))) rfl (fun _ T => Zw (Zwy rfl rfl (T.e 2 rfl) h1) (Zrl rfl Tryz.underlying110 (T.e 0 rfl))) rfl (fun _ T => Zw (Zwy rfl rfl (T.e 3 rfl) h1) (rn_lss rfl (T.e 2 rfl) (T.e 0 rfl))) rfl (fun _ T => Zq (Zr1 rfl (T.e 4 rfl) h1 (T.e 0 rfl))) rfl ?_; clear T ac; intro ac T
   refine wpList_nil ?_
   replace T := T.pick [0, 1, 2, 3, 4, 7, 8, 9, 10] rfl
   exact ⟨(T.pick (E' := [(0, .slice L l.length c), (1, .slice R r.length d), (5, .bool sm), (6, .int .i64 (i : Int)), (18, .bool (decide ((i : Int) < ((l.length : Nat) : Int))))]) [5, 6, 7, 8, 0] rfl).as (by (try rw [show sm = true from h1]); (try rfl)), M.mask [] rfl⟩
  refine Zg5 T (Zp (Zwn rfl rfl (T.e 0 rfl) h1)) rfl (fun _ T => Zp (Zwn rfl rfl (T.e 1 rfl) h1)) rfl (fun _ T => Zp (Zwn rfl rfl (T.e 2 rfl) h1)) rfl (fun _ T => Zp (Zwn rfl rfl (T.e 3 rfl) h1)) rfl (fun _ T => Zq (Zr0 rfl (T.e 4 rfl) h1 evc)) rfl ?_; clear T ac; intro ac T
  refine wpList_nil ?_
  replace T := T.pick [0, 1, 2, 3, 4, 7, 8, 9, 10] rfl
  exact ⟨(T.pick (E' := [(0, .slice L l.length c), (1, .slice R r.length d), (5, .bool sm), (6, .int .i64 (i : Int)), (18, .bool false)]) [5, 6, 7, 8, 0] rfl).as (by (try rw [show sm = false from h1]); (try rfl)), M.mask [] rfl⟩
 clear T M
 rintro ac wc ⟨T, M⟩
 refine wp_cond_split (T.e 4 rfl) ?_ ?_
 ·intro h2
  (have h2' := h2; try simp only [Zb1, Zb2, Zb3, Zb4, Zb5, Zb6, Zb7] at h2')
  have hlr : sm = true ∧ i < l.length := by simpa using h2
  have hlen := (hs.1 hlr.1).1
  have htk := (hs.1 hlr.1).2
  obtain ⟨p, hkp, -⟩ := tc_next (l := l) (k := i) (by omega)
  obtain ⟨q, hkq, -⟩ := tc_next (l := r) (k := i) (by omega)
  refine Zsk ?_
  refine wp_seq ?_
  refine wp_block ?_
  refine Zgs M (M.mask [] rfl) 10 (by kernel_rfl) rfl (by kernel_rfl) ?_
  clear M; intro wc M
  refine gq T 0 1 rfl (fun _ _ _ _ _ => (Zrm rfl (T.e 0 rfl))) ?_; clear T ac; intro ac T
  refine gq T 1 3 rfl (fun _ _ _ _ _ => (Zrm rfl (T.e 4 rfl))) ?_; clear T ac; intro ac T
  refine gq T 2 7 rfl (fun _ _ _ _ _ => (Zri (size := 3) i rfl (T.e 1 rfl) (T.e 0 rfl) ⟨_, Tryz.underlying110, by kernel_rfl⟩ rfl (by omega) (SL.at0 (by omega)))) ?_; clear T ac; intro ac T
  refine gq (v := (.agg #[.int .i64 p.x, .int .i64 p.y, .bool p.t])) T 3 15 rfl (fun B w' hD hl hS => (rn_rowat (Sp.tcR SL (show Mem w noEx w' _ from hS) (Zz9 _) hkp) rfl (T.e 0 rfl) rfl)) ?_; clear T ac; intro ac T
  refine gq T 4 31 rfl (fun _ _ _ _ _ => (Zrm rfl (T.e 5 rfl))) ?_; clear T ac; intro ac T
  refine gq T 5 63 rfl (fun _ _ _ _ _ => (Zrm rfl (T.e 8 rfl))) ?_; clear T ac; intro ac T
  refine gq T 6 127 rfl (fun _ _ _ _ _ => (Zri (size := 3) i rfl (T.e 1 rfl) (T.e 0 rfl) ⟨_, Tryz.underlying110, by kernel_rfl⟩ rfl (by omega) (SR.at0 (by omega)))) ?_; clear T ac; intro ac T
  refine gq (v := (.agg #[.int .i64 q.x, .int .i64 q.y, .bool q.t])) T 7 255 rfl (fun B w' hD hl hS => (rn_rowat (Sp.tcR SR (show Mem w noEx w' _ from hS) (Zz9 _) hkq) rfl (T.e 0 rfl) rfl)) ?_; clear T ac; intro ac T
  refine gq (v := (.bool ((decide (p.x = q.x)) && ((decide (p.y = q.y)) && (decide (p.t = q.t)))))) T 8 511 rfl (fun _ _ _ _ _ => (rn_bin rfl (T.e 4 rfl) (T.e 0 rfl) eqT123)) ?_; clear T ac; intro ac T
  refine g_q (v := (.bool ((decide (p.x = q.x)) && ((decide (p.y = q.y)) && (decide (p.t = q.t)))))) (T := T.pick [0, 1, 2, 3, 4, 5, 6, 7, 8, 9, 10, 12, 13] rfl) (i := 9) rfl (by kernel_rfl) (by kernel_rfl : (Zpb 10 511).setIfInBounds 9 true = Zpb 10 1023) si_U (fun _ _ _ h => h) rfl rfl rfl rfl (fun _ _ _ _ _ => (Zra rfl (T.e 0 rfl))) ?_; clear T ac; intro ac T
  refine Zgd (by kernel_rfl) ?_
  replace T := T.pick [0, 10, 11, 12] rfl
  refine Znb ?_
  refine nm_then ?_
  refine wp_region_lit ?_
  refine Zg2 T (Zq (Zrm rfl (T.e 3 rfl))) rfl (fun _ T => Zq (rn_add rfl (T.e 0 rfl) evc (by omega))) rfl ?_; clear T ac; intro ac T
  refine l_q (v := (.int .i64 ((i : Int) + 1))) (T.pick [0, 1, 2, 3, 4] rfl) rfl rfl rfl rfl (Zra rfl (T.e 0 rfl)) ?_; clear T ac; intro ac T
  replace T := T.pick [0, 3, 4, 5] rfl
  refine Zln ?_
  exact ⟨_, by omega, i + 1, ((decide (p.x = q.x)) && ((decide (p.y = q.y)) && (decide (p.t = q.t)))), rfl, (by omega), (by rw [take_same hkp hkq]; cases p; cases q; simp [hlen, htk]), T.pick [2, 3, 1, 0] rfl, M.mask [] rfl⟩
 intro h2
 (have h2' := h2; try simp only [Zb1, Zb2, Zb3, Zb4, Zb5, Zb6, Zb7] at h2')
 refine wp_exit ?_
 refine Zet ?_
 refine Zet ?_
 refine ex_hit ?_
 refine nm_then ?_
 refine Zsr ?_
 refine Zg2 T (Zq (Zrm rfl (T.e 2 rfl))) rfl (Za 0 rfl rfl) rfl ?_; clear T ac; intro ac T
 replace T := T.pick [0] rfl
 refine Zln ?_
 refine wp_ret ?_
 refine rt_1 T rfl (T.e 0 rfl) ?_
 have e9 : sm = decide (l = r) := by
   rw [Bool.eq_iff_iff, decide_eq_true_eq]
   constructor
   · intro hsm
     obtain ⟨k1, k2⟩ := hs.1 hsm
     have hi9 : ¬ i < l.length := by simpa [hsm] using h2
     rwa [List.take_of_length_le (by omega), List.take_of_length_le (by omega)] at k2
   · rintro rfl
     exact hs.2 ⟨rfl, rfl⟩
 rw [e9]
 exact ⟨rfl, M.below⟩
def StockPost (w : World) (e : Ending) (w' : World) : Prop := ∃ g, e = .returned (.agg #[.int .i64 stkS.lo, .int .i64 stkS.wi, .int .i64 stkS.a0, .int .i64 stkS.a1, .int .i64 stkS.c0, .int .i64 stkS.c1, .slice (some ⟨g, 0, none⟩) stkS.ps.length 3]) ∧ Mem w noEx w' [(g, .cells [.int .i64 3, .int .i64 2, .bool false, .int .i64 0, .int .i64 2, .int .i64 3, .bool true, .int .i64 0, .int .i64 4, .int .i64 1, .bool false, .int .i64 0])]
def PairedPost (w : World) (e : Ending) (w' : World) : Prop := ∃ g, e = .returned (.agg #[.int .i64 prdS.lo, .int .i64 prdS.wi, .int .i64 prdS.a0, .int .i64 prdS.a1, .int .i64 prdS.c0, .int .i64 prdS.c1, .slice (some ⟨g, 0, none⟩) prdS.ps.length 3]) ∧ Mem w noEx w' [(g, .cells [.int .i64 3, .int .i64 2, .bool false, .int .i64 1, .int .i64 2, .int .i64 3, .bool true, .int .i64 0, .int .i64 4, .int .i64 1, .bool false, .int .i64 1])]
theorem to8_any (a b : Int) (w : World)  :
  Calls Tryz.prog 127 #[.int .i64 a, .int .i64 b] w fun e w' => e = .returned (.agg #[.int .i64 a, .int .i64 b]) ∧ Below w.heap.size w w' := by
 refine Zpx noEx Tryz.func127 rfl 8 rfl [.int .i64 a, .int .i64 b] rfl rfl (Mem.init w _) ?_
 intro ac wc T M
 refine Zsr ?_
 refine Zl2 ?_
 refine Zoa M T rfl rfl rfl rfl ?_; clear M T; intro g1 wc ac M T
 refine Zln ?_
 refine Zsr ?_
 refine Zg3 (v3 := (.agg #[.int .i64 a, .int .i64 b])) T (Zq (Zrm rfl (T.e 1 rfl))) rfl (Zm 3 rfl rfl) rfl (fun _ T => Zq (rn_build rfl (.cons (T.e 1 rfl) (.cons (T.e 0 rfl) .nil)) (fun _ => by kernel_rfl))) rfl ?_; clear T ac; intro ac T
 refine Zl2 ?_
 refine Zos M T rfl rfl (T.e 3 rfl) (T.e 0 rfl) rfl .head rfl (by simp) rfl (by kernel_rfl) ?_; clear M T; intro wc ac M T
 replace T := T.pick [3] rfl
 refine Zln ?_
 refine wp_ret ?_
 refine rt_c M T rfl (T.e 0 rfl) (Zne (i := 0) rfl) rfl ?_
 exact ⟨rfl, M.below⟩
theorem spot8_any (x y : Int) (t : Bool) (w : World)  :
  Calls Tryz.prog 62 #[.int .i64 x, .int .i64 y, .bool t] w fun e w' => e = .returned (.agg #[.int .i64 x, .int .i64 y, .bool t]) ∧ Below w.heap.size w w' := by
 refine Zpx noEx Tryz.func62 rfl 11 rfl [.int .i64 x, .int .i64 y, .bool t] rfl rfl (Mem.init w _) ?_
 intro ac wc T M
 refine Zsr ?_
 refine Zl2 ?_
 refine Zoa M T rfl rfl rfl rfl ?_; clear M T; intro g1 wc ac M T
 refine Zln ?_
 refine Zsr ?_
 refine Zg4 (v4 := (.agg #[.int .i64 x, .int .i64 y, .bool t])) T (Zq (Zrm rfl (T.e 1 rfl))) rfl (Zm 3 rfl rfl) rfl (Zm 5 rfl rfl) rfl (fun _ T => Zq (rn_build rfl (.cons (T.e 2 rfl) (.cons (T.e 1 rfl) (.cons (T.e 0 rfl) .nil))) (fun _ => by kernel_rfl))) rfl ?_; clear T ac; intro ac T
 refine Zl2 ?_
 refine Zos M T rfl rfl (T.e 4 rfl) (T.e 0 rfl) rfl .head rfl (by simp) rfl (by kernel_rfl) ?_; clear M T; intro wc ac M T
 replace T := T.pick [4] rfl
 refine Zln ?_
 refine wp_ret ?_
 refine rt_c M T rfl (T.e 0 rfl) (Zne (i := 0) rfl) rfl ?_
 exact ⟨rfl, M.below⟩
theorem stock_any  (w : World)  :
  Calls Tryz.prog 56 #[] w (StockPost w) := by
 refine Zpx noEx Tryz.func56 rfl 7 rfl [] rfl rfl (Mem.init w _) ?_
 intro ac wc T M
 refine Zsr ?_
 refine Zl2 ?_
 refine Zoa M T rfl rfl rfl rfl ?_; clear M T; intro g1 wc ac M T
 refine Zln ?_
 refine Zsr ?_
 refine Zl2 ?_
 refine Zoc (first := []) (cap := []) T rfl rfl rfl rfl evf (.cons evc (.cons evc .nil)) Tryz.func127 rfl rfl ?_
 refine Calls.mono (to8_any 0 1 _) ?_
 clear T; rintro e wc ⟨rfl, hb⟩ ac T
 replace M := M.call hb; clear hb
 refine Zg3 (v1 := (.agg #[.int .i64 3, .int .i64 2, .bool false, .int .i64 0])) (v2 := (.agg #[.int .i64 2, .int .i64 3, .bool true, .int .i64 0])) (v3 := (.agg #[.int .i64 4, .int .i64 1, .bool false, .int .i64 0])) T (Zq (rn_build rfl (.cons evc (.cons evc .nil)) (fun _ => by kernel_rfl))) rfl (fun _ T => Zq (rn_build rfl (.cons evc (.cons evc (.cons evc .nil))) (fun _ => by kernel_rfl))) rfl (fun _ T => Zq (rn_build rfl (.cons evc (.cons evc .nil)) (fun _ => by kernel_rfl))) rfl ?_; clear T ac; intro ac T
 refine Zl2 ?_
 refine ow_bs (e := 119) [.int .i64 3, .int .i64 2, .bool false, .int .i64 0, .int .i64 2, .int .i64 3, .bool true, .int .i64 0, .int .i64 4, .int .i64 1, .bool false, .int .i64 0] M T rfl rfl rfl rfl (.cons (T.e 2 rfl) (.cons (T.e 1 rfl) (.cons (T.e 0 rfl) .nil))) (fun _ => by kernel_rfl) ?_; clear M T; intro g2 wc ac M T
 refine lq (v := (.agg #[.int .i64 6, .int .i64 3, .int .i64 0, .int .i64 1, .int .i64 0, .int .i64 0, .slice (some ⟨g2, 0, none⟩) 3 3])) T (rn_build rfl (.cons evc (.cons evc (.cons (T.e 4 rfl) (.cons (T.e 0 rfl) .nil)))) (fun _ => by kernel_rfl)) ?_; clear T ac; intro ac T
 refine Zl2 ?_
 refine Zos M T rfl rfl (T.e 6 rfl) (T.e 0 rfl) rfl (.tail .head) rfl (by simp) rfl (by kernel_rfl) ?_; clear M T; intro wc ac M T
 replace T := T.pick [6] rfl
 refine Zln ?_
 refine wp_ret ?_
 refine rt_c M T rfl (T.e 0 rfl) (Zne (i := 1) rfl) rfl ?_
 exact ⟨g2, rfl, M.mask [true, false] rfl⟩
theorem paired_any  (w : World)  :
  Calls Tryz.prog 58 #[] w (PairedPost w) := by
 refine Zpx noEx Tryz.func58 rfl 12 rfl [] rfl rfl (Mem.init w _) ?_
 intro ac wc T M
 refine Zsr ?_
 refine Zl2 ?_
 refine Zoa M T rfl rfl rfl rfl ?_; clear M T; intro g1 wc ac M T
 refine Zln ?_
 refine Zsr ?_
 refine Zl2 ?_
 refine Zoc (first := []) (cap := []) T rfl rfl rfl rfl evf .nil Tryz.func56 rfl rfl ?_
 refine Calls.mono (stock_any _) ?_
 clear T; rintro e wc ⟨gsu1, rfl, N⟩ ac T
 replace M := M.join N; clear N
 replace M := M.mask [true, true] rfl
 refine Zl2 ?_
 refine Zoa M T rfl rfl rfl rfl ?_; clear M T; intro g2 wc ac M T
 refine Zl2 ?_
 refine Zos M T rfl rfl (T.e 0 rfl) (T.e 1 rfl) rfl .head rfl (by simp) rfl (by kernel_rfl) ?_; clear M T; intro wc ac M T
 replace T := T.pick [0, 2] rfl
 refine Zln ?_
 refine wp_seq ?_
 refine Zgs M (M.perm [0, 2] rfl rfl) 10 (by kernel_rfl) rfl (by kernel_rfl) ?_
 clear M; intro wc M
 refine gq (v := (.pointer (some ⟨g2, 6, none⟩))) T 0 1 rfl (fun _ _ _ _ _ => (Zrf (off := 6) rfl (T.e 0 rfl) (fun _ _ _ => by kernel_rfl))) ?_; clear T ac; intro ac T
 refine gq T 1 3 rfl (fun B w' hD hl hS => (Zro (Mem.nth (show Mem w noEx w' _ from hS) 0 rfl) rfl (T.e 0 rfl) rfl)) ?_; clear T ac; intro ac T
 refine gq (v := (.pointer (some ⟨g2, 6, none⟩))) T 2 7 rfl (fun _ _ _ _ _ => (Zrf (off := 6) rfl (T.e 2 rfl) (fun _ _ _ => by kernel_rfl))) ?_; clear T ac; intro ac T
 refine gq T 3 15 rfl (fun B w' hD hl hS => (Zro (Mem.nth (show Mem w noEx w' _ from hS) 0 rfl) rfl (T.e 0 rfl) rfl)) ?_; clear T ac; intro ac T
 refine gq (v := (.pointer (some ⟨gsu1, 0, none⟩))) T 4 31 rfl (fun _ _ _ _ _ => (Zri (size := 4) 0 rfl (T.e 2 rfl) evc ⟨_, Tryz.underlying47, by kernel_rfl⟩ rfl (by decide) rfl)) ?_; clear T ac; intro ac T
 refine gq (v := (.pointer (some ⟨gsu1, 3, none⟩))) T 5 63 rfl (fun _ _ _ _ _ => (Zrf (off := 3) rfl (T.e 0 rfl) (fun _ _ _ => by kernel_rfl))) ?_; clear T ac; intro ac T
 refine gw 6 127 ?_; intro K hK
 refine Zos M T rfl rfl (T.e 0 rfl) evc rfl (.tail .head) rfl (by simp) rfl (by kernel_rfl) ?_; clear M T; intro wc ac M T
 refine Zso hK _ _ (M.mask [true, false, true] rfl) ?_; clear hK K
 refine gq (v := (.pointer (some ⟨gsu1, 8, none⟩))) T 7 255 rfl (fun _ _ _ _ _ => (Zri (size := 4) 2 rfl (T.e 2 rfl) evc ⟨_, Tryz.underlying47, by kernel_rfl⟩ rfl (by decide) rfl)) ?_; clear T ac; intro ac T
 refine gq (v := (.pointer (some ⟨gsu1, 11, none⟩))) T 8 511 rfl (fun _ _ _ _ _ => (Zrf (off := 3) rfl (T.e 0 rfl) (fun _ _ _ => by kernel_rfl))) ?_; clear T ac; intro ac T
 refine gw 9 1023 ?_; intro K hK
 refine Zos M T rfl rfl (T.e 0 rfl) evc rfl (.tail .head) rfl (by simp) rfl (by kernel_rfl) ?_; clear M T; intro wc ac M T
 refine Zso hK _ _ (M.mask [true, false, true] rfl) ?_; clear hK K
 refine Zgd (by kernel_rfl) ?_
 replace T := T.pick [8, 9] rfl
 refine nm_then ?_
 refine Zsr ?_
 refine lq T (Zrr (Mem.nth M 0 rfl) rfl (T.e 0 rfl) rfl) ?_; clear T ac; intro ac T
 refine Zl2 ?_
 refine Zos M T rfl rfl (T.e 2 rfl) (T.e 0 rfl) rfl (.tail (.tail .head)) rfl (by simp) rfl (by kernel_rfl) ?_; clear M T; intro wc ac M T
 refine wpList_nil ?_
 replace T := T.pick [2] rfl
 replace M := M.mask [false, true, true] rfl
 refine Znr ?_
 refine rt_c M T rfl (T.e 0 rfl) (Zne (i := 1) rfl) rfl ?_
 exact ⟨gsu1, rfl, M.mask [true, false] rfl⟩
theorem sawn8_any  (w : World) (hT : TabW w) :
  Calls Tryz.prog 16 #[] w fun e w' => e = .returned (.bool true) ∧ Below w.heap.size w w' := by
 refine Zpx noEx Tryz.func16 rfl 90 rfl [] rfl rfl (Mem.init w _) ?_
 intro ac wc T M
 refine Zsr ?_
 refine lq T (Zra rfl evc) ?_; clear T ac; intro ac T
 replace T := T.pick [] rfl
 refine Zln ?_
 refine Zsr ?_
 refine Zl2 ?_
 refine Zoc (first := []) (cap := []) T rfl rfl rfl rfl evf .nil Tryz.func56 rfl rfl ?_
 refine Calls.mono (stock_any _) ?_
 clear T; rintro e wc ⟨gsu1, rfl, N⟩ ac T
 replace M := M.join N; clear N
 replace M := M.mask [true] rfl
 refine Zl2 ?_
 refine ow_bs (e := 3) [.int .i64 0, .int .i64 1] M T rfl rfl rfl rfl (.cons evc (.cons evc .nil)) (fun _ => by kernel_rfl) ?_; clear M T; intro g1 wc ac M T
 refine Zl2 ?_
 refine Zoc (first := []) (cap := []) T rfl rfl rfl rfl evf (.cons (T.e 1 rfl) (.cons (T.e 0 rfl) (.cons evc .nil))) Tryz.func55 rfl rfl ?_
 refine Calls.mono (Plan_any stkS (some ⟨gsu1, 0, none⟩) 3 (some ⟨g1, 0, none⟩) 2 ([0, 1]) true _ (M.rdOwn (Zne (i := 1) rfl) rfl rfl) (M.rdOwn (Zne (i := 0) rfl) rfl rfl) (by decide) (by decide) (by decide) (hT.mem M (fun h => h))) ?_
 clear T; rintro e wc ⟨APu2, cPu2, IPu2, rfl, hcpPu2, SVPu2, N⟩ ac T
 rw [st_plan.1] at SVPu2 hcpPu2
 rw [st_plan.1, st_plan.2] at T
 obtain ⟨bAPu2, oAPu2, SVPu2⟩ := SVPu2
 have SAPu2 := SVPu2 w noEx
 replace M := (M.join N).swapI
 clear N
 replace M : Mem w noEx wc ((g1, .cells [.int .i64 0, .int .i64 1]) :: (gsu1, .cells [.int .i64 3, .int .i64 2, .bool false, .int .i64 0, .int .i64 2, .int .i64 3, .bool true, .int .i64 0, .int .i64 4, .int .i64 1, .bool false, .int .i64 0]) :: IPu2) := M
 refine Zg5 T (Zq (Zrm rfl (T.e 0 rfl))) rfl (Ze 0 rfl rfl rfl) rfl (Ze 1 rfl rfl rfl) rfl (Za 1 rfl rfl) rfl (Za 1 rfl rfl) rfl ?_; clear T ac; intro ac T
 refine wpList_nil ?_
 replace T := T.pick [0, 1] rfl
 replace M := M.mask [false, false] rfl
 refine nm_then ?_
 refine Zsr ?_
 refine Zl2 ?_
 refine Zoc (first := []) (cap := []) T rfl rfl rfl rfl evf .nil Tryz.func58 rfl rfl ?_
 refine Calls.mono (paired_any _) ?_
 clear T; rintro e wc ⟨gsu3, rfl, N⟩ ac T
 replace M := M.join N; clear N
 replace M := M.mask [true] rfl
 refine Zl2 ?_
 refine Zoc (first := []) (cap := []) T rfl rfl rfl rfl evf (.cons (T.e 0 rfl) (.cons evc .nil)) Tryz.func57 rfl rfl ?_
 refine Calls.mono (Sheets_any prdS (some ⟨gsu3, 0, none⟩) 3 true _ (M.rdOwn (Zne (i := 0) rfl) rfl rfl) (by decide) (by decide) (hT.mem M (fun h => h))) ?_
 clear T; rintro e wc ⟨ASu4, cSu4, ISu4, rfl, hcpSu4, SVSu4, N⟩ ac T
 rw [pr_sh.1] at SVSu4 hcpSu4
 rw [pr_sh.1, pr_sh.2.1, pr_sh.2.2] at T
 obtain ⟨bASu4, oASu4, SVSu4⟩ := SVSu4
 have SASu4 := SVSu4 w noEx
 replace M := (M.join N).swapI
 clear N
 replace M : Mem w noEx wc ((gsu3, .cells [.int .i64 3, .int .i64 2, .bool false, .int .i64 1, .int .i64 2, .int .i64 3, .bool true, .int .i64 0, .int .i64 4, .int .i64 1, .bool false, .int .i64 1]) :: (IPu2 ++ ISu4)) := M
 refine Zg7 T (Zq (Zrm rfl (T.e 0 rfl))) rfl (Ze 0 rfl rfl rfl) rfl (Ze 1 rfl rfl rfl) rfl (Ze 2 rfl rfl rfl) rfl (Za 2 rfl rfl) rfl (Za 2 rfl rfl) rfl (Za 2 rfl rfl) rfl ?_; clear T ac; intro ac T
 refine wpList_nil ?_
 replace T := T.pick [0, 1, 2, 9, 10] rfl
 replace M := M.mask [false] rfl
 refine nm_then ?_
 refine Zsr ?_
 refine Zl2 ?_
 refine Zoc (first := []) (cap := []) T rfl rfl rfl rfl evf .nil Tryz.func56 rfl rfl ?_
 refine Calls.mono (stock_any _) ?_
 clear T; rintro e wc ⟨gsu5, rfl, N⟩ ac T
 replace M := M.join N; clear N
 replace M := M.mask [true] rfl
 refine Zl2 ?_
 refine Zoc (first := []) (cap := []) T rfl rfl rfl rfl evf (.cons (T.e 0 rfl) .nil) Tryz.func59 rfl rfl ?_
 refine Calls.mono (Worst_any stkS (some ⟨gsu5, 0, none⟩) 3 _ (M.rdOwn (Zne (i := 0) rfl) rfl rfl) (by decide) (by decide) (hT.mem M (fun h => h))) ?_
 clear T; rintro e wc ⟨AWu6, cWu6, IWu6, rfl, hcpWu6, SVWu6, N⟩ ac T
 rw [st_wrs] at SVWu6 hcpWu6
 rw [st_wrs, st_sh.2] at T
 obtain ⟨bAWu6, oAWu6, SVWu6⟩ := SVWu6
 have SAWu6 := SVWu6 w noEx
 replace M := (M.join N).swapI
 clear N
 replace M : Mem w noEx wc ((gsu5, .cells [.int .i64 3, .int .i64 2, .bool false, .int .i64 0, .int .i64 2, .int .i64 3, .bool true, .int .i64 0, .int .i64 4, .int .i64 1, .bool false, .int .i64 0]) :: (IPu2 ++ ISu4 ++ IWu6)) := M
 refine Zg5 T (Zq (Zrm rfl (T.e 0 rfl))) rfl (Ze 0 rfl rfl rfl) rfl (Ze 1 rfl rfl rfl) rfl (Za 1 rfl rfl) rfl (Za 1 rfl rfl) rfl ?_; clear T ac; intro ac T
 refine wpList_nil ?_
 replace T := T.pick [0, 1, 7, 8, 9, 10, 11] rfl
 replace M := M.mask [false] rfl
 replace M : Mem w noEx wc ((IPu2 ++ ISu4 ++ IWu6)) := M
 refine nm_then ?_
 refine Zsr ?_
 refine Zl2 ?_
 refine Zoc (first := []) (cap := []) T rfl rfl rfl rfl evf .nil Tryz.func56 rfl rfl ?_
 refine Calls.mono (stock_any _) ?_
 clear T; rintro e wc ⟨gsu7, rfl, N⟩ ac T
 replace M := M.join N; clear N
 replace M := M.mask [true] rfl
 refine lq (v := (.agg #[.int .i64 5, .int .i64 2, .bool true, .int .i64 0])) T (rn_build rfl (.cons evc (.cons evc (.cons evc .nil))) (fun _ => by kernel_rfl)) ?_; clear T ac; intro ac T
 refine Zl2 ?_
 refine Zoc (first := []) (cap := []) T rfl rfl rfl rfl evf (.cons (T.e 1 rfl) (.cons (T.e 0 rfl) (.cons evc .nil))) Tryz.func60 rfl rfl ?_
 refine Calls.mono (Spare_any stkS (some ⟨gsu7, 0, none⟩) 3 (⟨5, 2, true, 0⟩ : Pt) true _ (M.rdOwn (Zne (i := 0) rfl) rfl rfl) (by decide) (by decide) (hT.mem M (fun h => h))) ?_
 clear T; rintro e wc ⟨rfl, hb⟩ ac T
 rw [st_spr.1, st_spr.2] at T
 replace M := M.call hb; clear hb
 refine Zg5 T (Zq (Zrm rfl (T.e 0 rfl))) rfl (Ze 0 rfl rfl rfl) rfl (Ze 1 rfl rfl rfl) rfl (Za 1 rfl rfl) rfl (Za 1 rfl rfl) rfl ?_; clear T ac; intro ac T
 refine wpList_nil ?_
 replace T := T.pick [0, 1, 8, 9, 10, 11, 12, 13, 14] rfl
 replace M := M.mask [false] rfl
 replace M : Mem w noEx wc ((IPu2 ++ ISu4 ++ IWu6)) := M
 refine nm_then ?_
 refine Zsr ?_
 refine Zl2 ?_
 refine Zoc (first := []) (cap := []) T rfl rfl rfl rfl evf .nil Tryz.func56 rfl rfl ?_
 refine Calls.mono (stock_any _) ?_
 clear T; rintro e wc ⟨gsu9, rfl, N⟩ ac T
 replace M := M.join N; clear N
 replace M := M.mask [true] rfl
 refine Zl2 ?_
 refine ow_bs (e := 3) [.int .i64 0, .int .i64 2] M T rfl rfl rfl rfl (.cons evc (.cons evc .nil)) (fun _ => by kernel_rfl) ?_; clear M T; intro g2 wc ac M T
 refine Zl2 ?_
 refine Zoc (first := []) (cap := []) T rfl rfl rfl rfl evf (.cons evc (.cons evc (.cons evc .nil))) Tryz.func62 rfl rfl ?_
 refine Calls.mono (spot8_any 0 1 false _) ?_
 clear T; rintro e wc ⟨rfl, hb⟩ ac T
 replace M := M.call hb; clear hb
 refine Zl2 ?_
 refine Zoc (first := []) (cap := []) T rfl rfl rfl rfl evf (.cons evc (.cons evc (.cons evc .nil))) Tryz.func62 rfl rfl ?_
 refine Calls.mono (spot8_any 0 0 false _) ?_
 clear T; rintro e wc ⟨rfl, hb⟩ ac T
 replace M := M.call hb; clear hb
 refine Zl2 ?_
 refine ow_bs (e := 123) [.int .i64 0, .int .i64 1, .bool false, .int .i64 0, .int .i64 0, .bool false] M T rfl rfl rfl rfl (.cons (T.e 1 rfl) (.cons (T.e 0 rfl) .nil)) (fun _ => by kernel_rfl) ?_; clear M T; intro g3 wc ac M T
 refine Zl2 ?_
 refine Zoc (first := []) (cap := []) T rfl rfl rfl rfl evf (.cons (T.e 4 rfl) (.cons (T.e 3 rfl) (.cons (T.e 0 rfl) (.cons evc .nil)))) Tryz.func61 rfl rfl ?_
 refine Calls.mono (Cuts_any stkS (some ⟨gsu9, 0, none⟩) 3 (some ⟨g2, 0, none⟩) 2 ([0, 2]) (some ⟨g3, 0, none⟩) 2 ([⟨0, 1, false⟩, ⟨0, 0, false⟩] : List Spt) true _ (M.rdOwn (Zne (i := 2) rfl) rfl rfl) (M.rdOwn (Zne (i := 1) rfl) rfl rfl) (by decide) (by decide) (by decide) (M.rdOwn (Zne (i := 0) rfl) rfl rfl) (by decide)) ?_
 clear T; rintro e wc ⟨rfl, hb⟩ ac T
 rw [st_cuts.1, show cutsE stkS [0, 2] ([⟨0, 1, false⟩, ⟨0, 0, false⟩] : List Spt).length = 0 from st_cuts.2] at T
 replace M := M.call hb; clear hb
 refine Zg5 T (Zq (Zrm rfl (T.e 0 rfl))) rfl (Ze 0 rfl rfl rfl) rfl (Ze 1 rfl rfl rfl) rfl (Za 1 rfl rfl) rfl (Za 1 rfl rfl) rfl ?_; clear T ac; intro ac T
 refine wpList_nil ?_
 replace T := T.pick [0, 1, 11, 12, 13, 14, 15, 16, 17, 18, 19] rfl
 replace M := M.mask [false, false, false] rfl
 replace M : Mem w noEx wc ((IPu2 ++ ISu4 ++ IWu6)) := M
 refine nm_then ?_
 refine Zsr ?_
 refine Zg8 (v2 := (.bool true)) (v5 := (.bool true)) T (Zq (Zrm rfl (T.e 9 rfl))) rfl (fun _ T => Zq (Zrq (rn_eql rfl (T.e 0 rfl) evc) (by simp))) rfl (Zm 0 rfl rfl) rfl (fun _ T => Zw (Zwy rfl rfl (T.e 0 rfl) rfl) (Zrm rfl (T.e 9 rfl))) rfl (fun _ T => Zw (Zwy rfl rfl (T.e 1 rfl) rfl) (Zrq (rn_eql rfl (T.e 0 rfl) evc) (by simp))) rfl (fun _ T => Zq (Zr1 rfl (T.e 2 rfl) rfl (T.e 0 rfl))) rfl (Zm 0 rfl rfl) rfl (fun _ T => Zw (Zwy rfl rfl (T.e 0 rfl) rfl) (Zrm rfl (T.e 11 rfl))) rfl ?_; clear T ac; intro ac T
 refine Zg8 (v1 := (.bool true)) (v5 := (.bool true)) T (Zw (Zwy rfl rfl (T.e 1 rfl) rfl) (Zrq (rn_eql rfl (T.e 0 rfl) evc) (by simp))) rfl (fun _ T => Zq (Zr1 rfl (T.e 2 rfl) rfl (T.e 0 rfl))) rfl (Zm 0 rfl rfl) rfl (fun _ T => Zw (Zwy rfl rfl (T.e 0 rfl) rfl) (Zrm rfl (T.e 13 rfl))) rfl (fun _ T => Zw (Zwy rfl rfl (T.e 1 rfl) rfl) (Zrq (rn_eql rfl (T.e 0 rfl) evc) (by simp))) rfl (fun _ T => Zq (Zr1 rfl (T.e 2 rfl) rfl (T.e 0 rfl))) rfl (Zm 0 rfl rfl) rfl (fun _ T => Zw (Zwy rfl rfl (T.e 0 rfl) rfl) (Zrm rfl (T.e 15 rfl))) rfl ?_; clear T ac; intro ac T
 refine Zg8 (v1 := (.bool true)) (v5 := (.bool true)) T (Zw (Zwy rfl rfl (T.e 1 rfl) rfl) (Zrq (rn_eql rfl (T.e 0 rfl) evc) (by simp))) rfl (fun _ T => Zq (Zr1 rfl (T.e 2 rfl) rfl (T.e 0 rfl))) rfl (Zm 0 rfl rfl) rfl (fun _ T => Zw (Zwy rfl rfl (T.e 0 rfl) rfl) (Zrm rfl (T.e 26 rfl))) rfl (fun _ T => Zw (Zwy rfl rfl (T.e 1 rfl) rfl) (Zrq (rn_eql rfl (T.e 0 rfl) evc) (by simp))) rfl (fun _ T => Zq (Zr1 rfl (T.e 2 rfl) rfl (T.e 0 rfl))) rfl (Zm 0 rfl rfl) rfl (fun _ T => Zw (Zwy rfl rfl (T.e 0 rfl) rfl) (Zrm rfl (T.e 26 rfl))) rfl ?_; clear T ac; intro ac T
 refine Zg7 (v1 := (.bool true)) T (Zw (Zwy rfl rfl (T.e 1 rfl) rfl) (Zrq (rn_eql rfl (T.e 0 rfl) evc) (by simp))) rfl (fun _ T => Zq (Zr1 rfl (T.e 2 rfl) rfl (T.e 0 rfl))) rfl (Zm 0 rfl rfl) rfl (fun _ T => Zw (Zwy rfl rfl (T.e 0 rfl) rfl) (Zrm rfl (T.e 28 rfl))) rfl (fun _ T => Zq (Zr1 rfl (T.e 1 rfl) rfl (T.e 0 rfl))) rfl (Zm 0 rfl rfl) rfl (fun _ T => Zw (Zwy rfl rfl (T.e 0 rfl) rfl) (Zrm rfl (T.e 40 rfl))) rfl ?_; clear T ac; intro ac T
 refine l_w (Zwy rfl rfl (T.e 1 rfl) rfl) ?_; intro K hK
 refine Zoc (first := []) (cap := []) T rfl rfl rfl rfl evf (.cons evc (.cons evc (.cons evc .nil))) Tryz.func62 rfl rfl ?_
 refine Calls.mono (spot8_any 0 0 true _) ?_
 clear T; rintro e wc ⟨rfl, hb⟩ ac T
 replace M := M.call hb; clear hb
 refine Zso hK _ _ ?_; clear hK K
 refine l_w (Zwy rfl rfl (T.e 2 rfl) rfl) ?_; intro K hK
 refine Zoc (first := []) (cap := []) T rfl rfl rfl rfl evf (.cons evc (.cons evc (.cons evc .nil))) Tryz.func62 rfl rfl ?_
 refine Calls.mono (spot8_any 3 0 false _) ?_
 clear T; rintro e wc ⟨rfl, hb⟩ ac T
 replace M := M.call hb; clear hb
 refine Zso hK _ _ ?_; clear hK K
 refine l_w (Zwy rfl rfl (T.e 3 rfl) rfl) ?_; intro K hK
 refine ow_bs (e := 123) [.int .i64 0, .int .i64 0, .bool true, .int .i64 3, .int .i64 0, .bool false] M T rfl rfl rfl rfl (.cons (T.e 1 rfl) (.cons (T.e 0 rfl) .nil)) (fun _ => by kernel_rfl) ?_; clear M T; intro g4 wc ac M T
 refine Zso hK _ _ ?_; clear hK K
 refine l_w (Zwy rfl rfl (T.e 4 rfl) rfl) ?_; intro K hK
 refine Zoc (first := []) (cap := []) T rfl rfl rfl rfl evf (.cons (T.e 3 rfl) (.cons (T.e 0 rfl) .nil)) Tryz.func63 rfl rfl ?_
 refine Calls.mono (sameSpots_any APu2 cPu2 ([⟨0, 0, true⟩, ⟨3, 0, false⟩] : List Spt) (some ⟨g4, 0, none⟩) 2 ([⟨0, 0, true⟩, ⟨3, 0, false⟩] : List Spt) _ (SAPu2.rd M (.cons _ (subL (subL (List.Sublist.refl _))))) (M.rdOwn (Zne (i := 0) rfl) rfl rfl) (by decide) (by decide)) ?_
 clear T; rintro e wc ⟨rfl, hb⟩ ac T
 replace M := M.call hb; clear hb
 rw [Zdt (@rfl (List Spt) ([⟨0, 0, true⟩, ⟨3, 0, false⟩] : List Spt))] at T
 refine Zso hK _ _ ?_; clear hK K
 refine Zg3 T (Zq (Zr1 rfl (T.e 5 rfl) rfl (T.e 0 rfl))) rfl (Zm 0 rfl rfl) rfl (fun _ T => Zw (Zwy rfl rfl (T.e 0 rfl) rfl) (Zrm rfl (T.e 45 rfl))) rfl ?_; clear T ac; intro ac T
 refine l_w (Zwy rfl rfl (T.e 1 rfl) rfl) ?_; intro K hK
 refine ow_bs (e := 3) [.int .i64 0, .int .i64 1, .int .i64 0] M T rfl rfl rfl rfl (.cons evc (.cons evc (.cons evc .nil))) (fun _ => by kernel_rfl) ?_; clear M T; intro g5 wc ac M T
 refine Zso hK _ _ ?_; clear hK K
 refine l_w (Zwy rfl rfl (T.e 2 rfl) rfl) ?_; intro K hK
 refine Zoc (first := []) (cap := []) T rfl rfl rfl rfl evf (.cons (T.e 1 rfl) (.cons (T.e 0 rfl) .nil)) Tryz.func33 rfl rfl ?_
 refine Calls.mono (sameInts_any _ _ _ _ _ _ ([0, 1, 0]) ([0, 1, 0]) _ (SASu4.rd M (.cons _ (.cons _ (subL (Zsq _ _))))) (M.rdOwn (Zne (i := 0) rfl) rfl rfl) (by decide) (by decide)) ?_
 clear T; rintro e wc ⟨rfl, hb⟩ ac T
 replace M := M.call hb; clear hb
 rw [Zdt (@rfl (List Int) [0, 1, 0])] at T
 refine Zso hK _ _ ?_; clear hK K
 refine Zg3 T (Zq (Zr1 rfl (T.e 3 rfl) rfl (T.e 0 rfl))) rfl (Zm 0 rfl rfl) rfl (fun _ T => Zw (Zwy rfl rfl (T.e 0 rfl) rfl) (Zrm rfl (T.e 47 rfl))) rfl ?_; clear T ac; intro ac T
 refine l_w (Zwy rfl rfl (T.e 1 rfl) rfl) ?_; intro K hK
 refine ow_bs (e := 3) [.int .i64 2, .int .i64 1, .int .i64 1] M T rfl rfl rfl rfl (.cons evc (.cons evc (.cons evc .nil))) (fun _ => by kernel_rfl) ?_; clear M T; intro g6 wc ac M T
 refine Zso hK _ _ ?_; clear hK K
 refine l_w (Zwy rfl rfl (T.e 2 rfl) rfl) ?_; intro K hK
 refine Zoc (first := []) (cap := []) T rfl rfl rfl rfl evf (.cons (T.e 1 rfl) (.cons (T.e 0 rfl) .nil)) Tryz.func33 rfl rfl ?_
 refine Calls.mono (sameInts_any _ _ _ _ _ _ ([2, 1, 1]) ([2, 1, 1]) _ (SAWu6.rd M (.cons _ (.cons _ (.cons _ (Zsq _ _))))) (M.rdOwn (Zne (i := 0) rfl) rfl rfl) (by decide) (by decide)) ?_
 clear T; rintro e wc ⟨rfl, hb⟩ ac T
 replace M := M.call hb; clear hb
 rw [Zdt (@rfl (List Int) [2, 1, 1])] at T
 refine Zso hK _ _ ?_; clear hK K
 refine Zg2 T (Zq (Zr1 rfl (T.e 3 rfl) rfl (T.e 0 rfl))) rfl (Za 0 rfl rfl) rfl ?_; clear T ac; intro ac T
 refine wpList_nil ?_
 replace T := T.pick [0] rfl
 replace M := M.mask [false, false, false] rfl
 replace M : Mem w noEx wc ((IPu2 ++ ISu4 ++ IWu6)) := M
 refine Znr ?_
 refine rt_1 T rfl (T.e 0 rfl) ?_
 exact ⟨rfl, M.below⟩
section
variable {df : List Deferred} {P : Program} {op : Oper} {a : Act} {K : Act → World → Prop} {Q : Exit → Act → World → Prop} {w0 w : World} {ex : Nat → Prop} {L : List (Nat × BA)} {E : List (Nat × Value)} {t n : Nat}
end
def OddsPost (bp : Nat) (w : World) (e : Ending) (w' : World) : Prop := ∃ (b : Bool) (s' : Int), u64ok s' ∧ e = .returned (.bool b) ∧ w.grownBy w' (some bp) ∧ Bk w' bp #[.int .u64 s']
def PtPost (bp : Nat) (w : World) (e : Ending) (w' : World) : Prop := ∃ (p : Pt) (s' : Int), p.good ∧ u64ok s' ∧ e = .returned (.agg #[.int .i64 p.l, .int .i64 p.w, .bool p.gr, .int .i64 p.pa]) ∧ w.grownBy w' (some bp) ∧ Bk w' bp #[.int .u64 s']
def SkOfPost (bp : Nat) (side parts : Int) (w : World) (e : Ending) (w' : World) : Prop := ∃ (s : Sk) (A : Option Addr) (c : Nat) (sd : Int) (I : List (Nat × BA)), e = .returned (.agg #[.int .i64 s.lo, .int .i64 s.wi, .int .i64 s.a0, .int .i64 s.a1, .int .i64 s.c0, .int .i64 s.c1, .slice A s.ps.length c]) ∧ s.good ∧ ((s.lo ≤ side ∧ s.wi ≤ side) ∧ (s.ps.length : Int) ≤ parts) ∧ u64ok sd ∧ s.ps.length ≤ c ∧ (∃ b o, ∀ (w : World) (ex : Nat → Prop), Sp w ex I A s.ps.length 4 b o (pc s.ps)) ∧ Mem w (fun b => b = bp) w' ((bp, .cells [.int .u64 sd]) :: I)
theorem odds_any (s : Int) (bp : Nat) (n m : Int) (w : World) (hn : 0 ≤ n ∧ n ≤ 1000) (hm : 1 ≤ m ∧ m ≤ 1000) (hp : Bk w bp #[.int .u64 s]) (hs : u64ok s) :
  Calls Tryz.prog 136 #[.pointer (some ⟨bp, 0, none⟩), .int .i64 n, .int .i64 m] w (OddsPost bp w) := by
 refine Zpx (fun b => b = bp) Tryz.func136 rfl 13 rfl [.pointer (some ⟨bp, 0, none⟩), .int .i64 n, .int .i64 m] rfl rfl (Mem.initEx (p := .cells [.int .u64 s]) hp) ?_
 intro ac wc T M
 refine Zsr ?_
 refine lq T (Zra rfl evc) ?_; clear T ac; intro ac T
 replace T := T.pick [1, 2, 3] rfl
 refine Zln ?_
 refine Zsr ?_
 refine Zg3 T (Zq (Zrm rfl (T.e 0 rfl))) rfl (Zm 3 rfl rfl) rfl (fun _ T => Zq (rn_sub rfl (T.e 0 rfl) evc (by omega))) rfl ?_; clear T ac; intro ac T
 refine Zl2 ?_
 refine Zoc (first := []) (cap := []) T rfl rfl rfl rfl evf (.cons (T.e 2 rfl) (.cons (T.e 0 rfl) .nil)) Tryz.func35 rfl rfl ?_
 refine Calls.mono (upto_any _ bp (m - 1) _ (by omega) (by omega) (M.nth 0 rfl) hs) ?_
 clear T; rintro e wc ⟨xu1, su1, hxu1, hsu1, rfl, hgr, hbk⟩ ac T
 replace M := M.callC (cs' := [.int .u64 su1]) .head hgr hbk
 clear hgr hbk
 refine Zg3 T (Zq (Zrm rfl (T.e 5 rfl))) rfl (fun _ T => Zq (rn_lss rfl (T.e 1 rfl) (T.e 0 rfl))) rfl (Za 0 rfl rfl) rfl ?_; clear T ac; intro ac T
 replace T := T.pick [0] rfl
 refine Zln ?_
 refine wp_ret ?_
 refine rt_1 T rfl (T.e 0 rfl) ?_
 exact ⟨_, _, hsu1, rfl, M.grown, M.nth 0 rfl⟩
set_option maxHeartbeats 2000000 in
theorem partOf_any (s : Int) (bp : Nat) (lo wi a0 a1 c0 c1 : Int) (A : Option Addr) (m c : Nat)  (w : World) (h1 : 0 ≤ lo ∧ lo ≤ 12) (h2 : 0 ≤ wi ∧ wi ≤ 12) (h3 : 0 ≤ a1 ∧ a1 ≤ 2) (h4 : 0 ≤ c1 ∧ c1 ≤ 2) (hp : Bk w bp #[.int .u64 s]) (hs : u64ok s) :
   Calls Tryz.prog 65 #[.pointer (some ⟨bp, 0, none⟩), .agg #[.int .i64 lo, .int .i64 wi, .int .i64 a0, .int .i64 a1, .int .i64 c0, .int .i64 c1, .slice A m c]] w (PtPost bp w) := by
 refine Zpx (fun b => b = bp) Tryz.func65 rfl 38 rfl [.pointer (some ⟨bp, 0, none⟩), .agg #[.int .i64 lo, .int .i64 wi, .int .i64 a0, .int .i64 a1, .int .i64 c0, .int .i64 c1, .slice A m c]] rfl rfl (Mem.initEx (p := .cells [.int .u64 s]) hp) ?_
 intro ac wc T M
 refine Zsr ?_
 refine Zl2 ?_
 refine Zob M T rfl rfl rfl rfl (T.e 1 rfl) rfl ?_; clear M T; intro g1 wc ac M T
 refine Zl2 ?_
 refine Zoa M T rfl rfl rfl rfl ?_; clear M T; intro g2 wc ac M T
 replace T := T.pick [0, 1, 2] rfl
 refine Zln ?_
 refine wp_seq ?_
 refine Zgs M (M.perm [0, 1] rfl rfl) 28 (by kernel_rfl) rfl (by kernel_rfl) ?_
 clear M; intro wc M
 refine g_addG 8 M ?_
 refine g_have (fun ac wc => ∃ (xur1_8 : Int), ∃ (sur1_8 : Int), ∃ (xur1_17 : Int), ∃ (sur1_17 : Int), ∃ (bur1_19 : Bool), ∃ (sur1_19 : Int), ∃ (xur1_22 : Int), ∃ (sur1_22 : Int), ∃ (xur1_24 : Int), ∃ (sur1_24 : Int), (1 ≤ xur1_8 ∧ xur1_8 ≤ (max 1 (lo - a1))) ∧ (u64ok sur1_8) ∧ (1 ≤ xur1_17 ∧ xur1_17 ≤ (max 1 (wi - c1))) ∧ (u64ok sur1_17) ∧ (u64ok sur1_19) ∧ (0 ≤ xur1_22 ∧ xur1_22 ≤ 3) ∧ (u64ok sur1_22) ∧ (xur1_24 = 0 ∨ xur1_24 = 0 ∨ xur1_24 = 0 ∨ xur1_24 = xur1_22) ∧ (u64ok sur1_24) ∧ ∃ (gr1_26 gr1_23 : Nat), Tm ac 38 [(5, .pointer (some ⟨gr1_26, 0, none⟩)), (31, .agg #[.int .i64 xur1_8, .int .i64 xur1_17, .bool bur1_19, .int .i64 xur1_24]), (30, .int .i64 xur1_24), (29, .slice (some ⟨gr1_23, 0, none⟩) 4 4), (28, .int .i64 xur1_22), (25, .bool bur1_19), (23, .int .i64 xur1_17), (14, .int .i64 xur1_8), (27, .pointer (some ⟨bp, 0, none⟩)), (26, .pointer (some ⟨bp, 0, none⟩)), (24, .pointer (some ⟨bp, 0, none⟩)), (22, .int .i64 (max 1 (wi - c1))), (21, .int .i64 (wi - c1)), (20, .int .i64 c1), (19, .pointer (some ⟨g1, 5, none⟩)), (18, .pointer (some ⟨g1, 4, none⟩)), (17, .int .i64 wi), (16, .pointer (some ⟨g1, 1, none⟩)), (15, .pointer (some ⟨bp, 0, none⟩)), (13, .int .i64 (max 1 (lo - a1))), (12, .int .i64 (lo - a1)), (11, .int .i64 a1), (10, .pointer (some ⟨g1, 3, none⟩)), (9, .pointer (some ⟨g1, 2, none⟩)), (8, .int .i64 lo), (7, .pointer (some ⟨g1, 0, none⟩)), (6, .pointer (some ⟨bp, 0, none⟩)), (4, .pointer (some ⟨g2, 0, none⟩)), (3, .pointer (some ⟨g1, 0, none⟩)), (0, .pointer (some ⟨bp, 0, none⟩))] ∧ Mem w (fun b => b = bp) wc [(gr1_26, .cells [.int .i64 0, .int .i64 0, .bool false, .int .i64 0]), (gr1_23, .cells [.int .i64 0, .int .i64 0, .int .i64 0, .int .i64 xur1_22]), (g2, .cells [.int .i64 0, .int .i64 0, .bool false, .int .i64 0]), (g1, .cells [.int .i64 lo, .int .i64 wi, .int .i64 a0, .int .i64 a1, .int .i64 c0, .int .i64 c1, .slice A m c]), (bp, .cells [.int .u64 sur1_24])]) (Zpb 28 134217727) 1 ?_ ?_
 ·clear T M
  rintro ac wc ⟨xur1_8, sur1_8, xur1_17, sur1_17, bur1_19, sur1_19, xur1_22, sur1_22, xur1_24, sur1_24, hxur1_8, hsur1_8, hxur1_17, hsur1_17, hsur1_19, hxur1_22, hsur1_22, hxur1_24, hsur1_24, gr1_26, gr1_23, T, M⟩
  refine gw 27 268435455 ?_; intro K hK
  refine Zos M T rfl rfl (T.e 0 rfl) (T.e 1 rfl) rfl .head rfl (by simp) rfl (by kernel_rfl) ?_; clear M T; intro wc ac M T
  refine Zso hK _ _ (MA.mk (fun h => (no_of (by kernel_rfl) h).elim) (M.mask [false, false, true, true, false] rfl)) ?_; clear hK K
  refine Zgd (by kernel_rfl) ?_
  replace T := T.pick [0, 27, 29] rfl
  replace M := M.mask [true, false, true, false, true] rfl
  refine Zns ?_
  refine Zsr ?_
  refine lq T (Zrm rfl (T.e 2 rfl)) ?_; clear T ac; intro ac T
  refine Zl2 ?_
  refine Zoc (first := []) (cap := []) T rfl rfl rfl rfl evf (.cons (T.e 0 rfl) (.cons evc (.cons evc .nil))) Tryz.func136 rfl rfl ?_
  refine Calls.mono (odds_any _ bp 1 12 _ (by omega) (by omega) (M.nth 2 rfl) hsur1_24) ?_
  clear T; rintro e wc ⟨bu1, su1, hsu1, rfl, hgr, hbk⟩ ac T
  replace M := M.callC (cs' := [.int .u64 su1]) (.tail (.tail .head)) hgr hbk
  clear hgr hbk
  replace T := T.pick [0, 2, 3, 4] rfl
  refine Zln ?_
  refine wp_cond_split (T.e 0 rfl) ?_ ?_
  ·intro h1
   refine wp_region_lit ?_
   refine lq T (Zrm rfl (T.e 3 rfl)) ?_; clear T ac; intro ac T
   refine Zl2 ?_
   refine Zoc (first := []) (cap := []) T rfl rfl rfl rfl evf (.cons (T.e 0 rfl) (.cons evc (.cons evc .nil))) Tryz.func36 rfl rfl ?_
   refine Calls.mono (within_pot _ bp 1 12 _ (by omega) (by omega) (by omega) (M.nth 2 rfl) hsu1) ?_
   clear T; rintro e wc ⟨xu2, su2, hxu2, hsu2, rfl, hgr, hbk⟩ ac T
   replace M := M.callC (cs' := [.int .u64 su2]) (.tail (.tail .head)) hgr hbk
   clear hgr hbk
   refine lq (v := (.pointer (some ⟨gr1_26, 0, none⟩))) T (Zrf (off := 0) rfl (T.e 3 rfl) (fun _ _ _ => by kernel_rfl)) ?_; clear T ac; intro ac T
   refine Zl2 ?_
   refine Zos M T rfl rfl (T.e 0 rfl) (T.e 1 rfl) rfl .head rfl (by simp) rfl (by kernel_rfl) ?_; clear M T; intro wc ac M T
   replace T := T.pick [4, 5] rfl
   refine Zln ?_
   refine Zsr ?_
   refine lq T (Zrr (Mem.nth M 0 rfl) rfl (T.e 0 rfl) rfl) ?_; clear T ac; intro ac T
   refine Zl2 ?_
   refine Zos M T rfl rfl (T.e 2 rfl) (T.e 0 rfl) rfl (.tail .head) rfl (by simp) rfl (by kernel_rfl) ?_; clear M T; intro wc ac M T
   refine wpList_nil ?_
   replace T := T.pick [2] rfl
   replace M := M.mask [false, true, true] rfl
   refine Znr ?_
   refine rt_c M T rfl (T.e 0 rfl) (Zne (i := 0) rfl) rfl ?_
   exact ⟨⟨xu2, xur1_17, bur1_19, xur1_24⟩, _, ⟨by dsimp only; omega, by dsimp only; omega, by dsimp only; omega⟩, hsu2, rfl, M.grown, M.nth 1 rfl⟩
  intro h1
  refine Zsk ?_
  refine Zsr ?_
  refine lq T (Zrr (Mem.nth M 0 rfl) rfl (T.e 1 rfl) rfl) ?_; clear T ac; intro ac T
  refine Zl2 ?_
  refine Zos M T rfl rfl (T.e 3 rfl) (T.e 0 rfl) rfl (.tail .head) rfl (by simp) rfl (by kernel_rfl) ?_; clear M T; intro wc ac M T
  refine wpList_nil ?_
  replace T := T.pick [3] rfl
  replace M := M.mask [false, true, true] rfl
  refine Znr ?_
  refine rt_c M T rfl (T.e 0 rfl) (Zne (i := 0) rfl) rfl ?_
  exact ⟨⟨xur1_8, xur1_17, bur1_19, xur1_24⟩, _, ⟨by dsimp only; omega, by dsimp only; omega, by dsimp only; omega⟩, hsu1, rfl, M.grown, M.nth 1 rfl⟩
 intro H5
 refine g_have (fun ac wc => ∃ (xur1_8 : Int), ∃ (sur1_8 : Int), ∃ (xur1_17 : Int), ∃ (sur1_17 : Int), ∃ (bur1_19 : Bool), ∃ (sur1_19 : Int), ∃ (xur1_22 : Int), ∃ (sur1_22 : Int), (1 ≤ xur1_8 ∧ xur1_8 ≤ (max 1 (lo - a1))) ∧ (u64ok sur1_8) ∧ (1 ≤ xur1_17 ∧ xur1_17 ≤ (max 1 (wi - c1))) ∧ (u64ok sur1_17) ∧ (u64ok sur1_19) ∧ (0 ≤ xur1_22 ∧ xur1_22 ≤ 3) ∧ (u64ok sur1_22) ∧ ∃ (gr1_26 gr1_23 : Nat), Tm ac 38 [(5, .pointer (some ⟨gr1_26, 0, none⟩)), (29, .slice (some ⟨gr1_23, 0, none⟩) 4 4), (28, .int .i64 xur1_22), (25, .bool bur1_19), (23, .int .i64 xur1_17), (14, .int .i64 xur1_8), (27, .pointer (some ⟨bp, 0, none⟩)), (26, .pointer (some ⟨bp, 0, none⟩)), (24, .pointer (some ⟨bp, 0, none⟩)), (22, .int .i64 (max 1 (wi - c1))), (21, .int .i64 (wi - c1)), (20, .int .i64 c1), (19, .pointer (some ⟨g1, 5, none⟩)), (18, .pointer (some ⟨g1, 4, none⟩)), (17, .int .i64 wi), (16, .pointer (some ⟨g1, 1, none⟩)), (15, .pointer (some ⟨bp, 0, none⟩)), (13, .int .i64 (max 1 (lo - a1))), (12, .int .i64 (lo - a1)), (11, .int .i64 a1), (10, .pointer (some ⟨g1, 3, none⟩)), (9, .pointer (some ⟨g1, 2, none⟩)), (8, .int .i64 lo), (7, .pointer (some ⟨g1, 0, none⟩)), (6, .pointer (some ⟨bp, 0, none⟩)), (4, .pointer (some ⟨g2, 0, none⟩)), (3, .pointer (some ⟨g1, 0, none⟩)), (0, .pointer (some ⟨bp, 0, none⟩))] ∧ Mem w (fun b => b = bp) wc [(gr1_26, .cells [.int .i64 0, .int .i64 0, .bool false, .int .i64 0]), (gr1_23, .cells [.int .i64 0, .int .i64 0, .int .i64 0, .int .i64 xur1_22]), (g2, .cells [.int .i64 0, .int .i64 0, .bool false, .int .i64 0]), (g1, .cells [.int .i64 lo, .int .i64 wi, .int .i64 a0, .int .i64 a1, .int .i64 c0, .int .i64 c1, .slice A m c]), (bp, .cells [.int .u64 sur1_22])]) (Zpb 28 83886079) 3 ?_ ?_
 ·clear T M
  rintro ac wc ⟨xur1_8, sur1_8, xur1_17, sur1_17, bur1_19, sur1_19, xur1_22, sur1_22, hxur1_8, hsur1_8, hxur1_17, hsur1_17, hsur1_19, hxur1_22, hsur1_22, gr1_26, gr1_23, T, M⟩
  refine gw 24 100663295 ?_; intro K hK
  refine Zoc (first := []) (cap := []) T rfl rfl rfl rfl evf (.cons (T.e 7 rfl) (.cons (T.e 1 rfl) .nil)) Tryz.func97 rfl rfl ?_
  refine Calls.mono (of_any _ bp _ 4 4 [0, 0, 0, xur1_22] _ (M.rdOwn (Zne (i := 1) rfl) rfl rfl) (M.nee 1 4 rfl rfl rfl) (by decide) (by decide) (M.nth 4 rfl) hsur1_22) ?_
  clear T; rintro e wc ⟨xur1_24, sur1_24, hxur1_24, hsur1_24, rfl, hgr, hbk⟩ ac T
  replace M := M.callC (cs' := [.int .u64 sur1_24]) (.tail (.tail (.tail (.tail .head)))) hgr hbk
  clear hgr hbk
  simp only [List.mem_cons, List.not_mem_nil, or_false] at hxur1_24
  refine Zso hK _ _ (MA.mk (fun h => (no_of (by kernel_rfl) h).elim) (M.mask [false, false, true, true, false] rfl)) ?_; clear hK K
  refine gq (v := (.agg #[.int .i64 xur1_8, .int .i64 xur1_17, .bool bur1_19, .int .i64 xur1_24])) T 25 134217727 rfl (fun _ _ _ _ _ => (rn_build rfl (.cons (T.e 6 rfl) (.cons (T.e 5 rfl) (.cons (T.e 4 rfl) (.cons (T.e 0 rfl) .nil)))) (fun _ => by kernel_rfl))) ?_; clear T ac; intro ac T
  exact H5 _ _ ⟨xur1_8, sur1_8, xur1_17, sur1_17, bur1_19, sur1_19, xur1_22, sur1_22, xur1_24, sur1_24, hxur1_8, hsur1_8, hxur1_17, hsur1_17, hsur1_19, hxur1_22, hsur1_22, hxur1_24, hsur1_24, gr1_26, gr1_23, T.pick [2, 0, 1, 3, 4, 5, 6, 7, 8, 9, 10, 11, 12, 13, 14, 15, 16, 17, 18, 19, 20, 21, 22, 23, 24, 25, 26, 27, 28, 29] rfl, M⟩
 intro H4
 refine g_have (fun ac wc => ∃ (xur1_8 : Int), ∃ (sur1_8 : Int), ∃ (xur1_17 : Int), ∃ (sur1_17 : Int), ∃ (bur1_19 : Bool), ∃ (sur1_19 : Int), ∃ (xur1_22 : Int), ∃ (sur1_22 : Int), (1 ≤ xur1_8 ∧ xur1_8 ≤ (max 1 (lo - a1))) ∧ (u64ok sur1_8) ∧ (1 ≤ xur1_17 ∧ xur1_17 ≤ (max 1 (wi - c1))) ∧ (u64ok sur1_17) ∧ (u64ok sur1_19) ∧ (0 ≤ xur1_22 ∧ xur1_22 ≤ 3) ∧ (u64ok sur1_22) ∧ ∃ (gr1_26 : Nat), Tm ac 38 [(5, .pointer (some ⟨gr1_26, 0, none⟩)), (28, .int .i64 xur1_22), (25, .bool bur1_19), (23, .int .i64 xur1_17), (14, .int .i64 xur1_8), (27, .pointer (some ⟨bp, 0, none⟩)), (26, .pointer (some ⟨bp, 0, none⟩)), (24, .pointer (some ⟨bp, 0, none⟩)), (22, .int .i64 (max 1 (wi - c1))), (21, .int .i64 (wi - c1)), (20, .int .i64 c1), (19, .pointer (some ⟨g1, 5, none⟩)), (18, .pointer (some ⟨g1, 4, none⟩)), (17, .int .i64 wi), (16, .pointer (some ⟨g1, 1, none⟩)), (15, .pointer (some ⟨bp, 0, none⟩)), (13, .int .i64 (max 1 (lo - a1))), (12, .int .i64 (lo - a1)), (11, .int .i64 a1), (10, .pointer (some ⟨g1, 3, none⟩)), (9, .pointer (some ⟨g1, 2, none⟩)), (8, .int .i64 lo), (7, .pointer (some ⟨g1, 0, none⟩)), (6, .pointer (some ⟨bp, 0, none⟩)), (4, .pointer (some ⟨g2, 0, none⟩)), (3, .pointer (some ⟨g1, 0, none⟩)), (0, .pointer (some ⟨bp, 0, none⟩))] ∧ Mem w (fun b => b = bp) wc [(gr1_26, .cells [.int .i64 0, .int .i64 0, .bool false, .int .i64 0]), (g2, .cells [.int .i64 0, .int .i64 0, .bool false, .int .i64 0]), (g1, .cells [.int .i64 lo, .int .i64 wi, .int .i64 a0, .int .i64 a1, .int .i64 c0, .int .i64 c1, .slice A m c]), (bp, .cells [.int .u64 sur1_22])]) (Zpb 28 75497471) 4 ?_ ?_
 ·clear T M
  rintro ac wc ⟨xur1_8, sur1_8, xur1_17, sur1_17, bur1_19, sur1_19, xur1_22, sur1_22, hxur1_8, hsur1_8, hxur1_17, hsur1_17, hsur1_19, hxur1_22, hsur1_22, gr1_26, T, M⟩
  refine gw 23 83886079 ?_; intro K hK
  refine ow_bs (e := 3) [.int .i64 0, .int .i64 0, .int .i64 0, .int .i64 xur1_22] M T rfl rfl rfl rfl (.cons evc (.cons evc (.cons evc (.cons (T.e 1 rfl) .nil)))) (fun _ => by kernel_rfl) ?_; clear M T; intro gr1_23 wc ac M T
  refine Zso hK _ _ (MA.mk (fun h => (no_of (by kernel_rfl) h).elim) (M.mask [false, false, true, true, false] rfl)) ?_; clear hK K
  exact H4 _ _ ⟨xur1_8, sur1_8, xur1_17, sur1_17, bur1_19, sur1_19, xur1_22, sur1_22, hxur1_8, hsur1_8, hxur1_17, hsur1_17, hsur1_19, hxur1_22, hsur1_22, gr1_26, gr1_23, T.pick [1, 0, 2, 3, 4, 5, 6, 7, 8, 9, 10, 11, 12, 13, 14, 15, 16, 17, 18, 19, 20, 21, 22, 23, 24, 25, 26, 27] rfl, M.perm [1, 0, 2, 3, 4] rfl rfl⟩
 intro H3
 refine g_have (fun ac wc => ∃ (xur1_8 : Int), ∃ (sur1_8 : Int), ∃ (xur1_17 : Int), ∃ (sur1_17 : Int), ∃ (bur1_19 : Bool), ∃ (sur1_19 : Int), (1 ≤ xur1_8 ∧ xur1_8 ≤ (max 1 (lo - a1))) ∧ (u64ok sur1_8) ∧ (1 ≤ xur1_17 ∧ xur1_17 ≤ (max 1 (wi - c1))) ∧ (u64ok sur1_17) ∧ (u64ok sur1_19) ∧ ∃ (gr1_26 : Nat), Tm ac 38 [(5, .pointer (some ⟨gr1_26, 0, none⟩)), (25, .bool bur1_19), (23, .int .i64 xur1_17), (14, .int .i64 xur1_8), (27, .pointer (some ⟨bp, 0, none⟩)), (26, .pointer (some ⟨bp, 0, none⟩)), (24, .pointer (some ⟨bp, 0, none⟩)), (22, .int .i64 (max 1 (wi - c1))), (21, .int .i64 (wi - c1)), (20, .int .i64 c1), (19, .pointer (some ⟨g1, 5, none⟩)), (18, .pointer (some ⟨g1, 4, none⟩)), (17, .int .i64 wi), (16, .pointer (some ⟨g1, 1, none⟩)), (15, .pointer (some ⟨bp, 0, none⟩)), (13, .int .i64 (max 1 (lo - a1))), (12, .int .i64 (lo - a1)), (11, .int .i64 a1), (10, .pointer (some ⟨g1, 3, none⟩)), (9, .pointer (some ⟨g1, 2, none⟩)), (8, .int .i64 lo), (7, .pointer (some ⟨g1, 0, none⟩)), (6, .pointer (some ⟨bp, 0, none⟩)), (4, .pointer (some ⟨g2, 0, none⟩)), (3, .pointer (some ⟨g1, 0, none⟩)), (0, .pointer (some ⟨bp, 0, none⟩))] ∧ Mem w (fun b => b = bp) wc [(gr1_26, .cells [.int .i64 0, .int .i64 0, .bool false, .int .i64 0]), (g2, .cells [.int .i64 0, .int .i64 0, .bool false, .int .i64 0]), (g1, .cells [.int .i64 lo, .int .i64 wi, .int .i64 a0, .int .i64 a1, .int .i64 c0, .int .i64 c1, .slice A m c]), (bp, .cells [.int .u64 sur1_19])]) (Zpb 28 71303167) 5 ?_ ?_
 ·clear T M
  rintro ac wc ⟨xur1_8, sur1_8, xur1_17, sur1_17, bur1_19, sur1_19, hxur1_8, hsur1_8, hxur1_17, hsur1_17, hsur1_19, gr1_26, T, M⟩
  refine gw 22 75497471 ?_; intro K hK
  refine Zoc (first := []) (cap := []) T rfl rfl rfl rfl evf (.cons (T.e 4 rfl) (.cons evc .nil)) Tryz.func35 rfl rfl ?_
  refine Calls.mono (upto_any _ bp 3 _ (by omega) (by omega) (M.nth 3 rfl) hsur1_19) ?_
  clear T; rintro e wc ⟨xur1_22, sur1_22, hxur1_22, hsur1_22, rfl, hgr, hbk⟩ ac T
  replace M := M.callC (cs' := [.int .u64 sur1_22]) (.tail (.tail (.tail .head))) hgr hbk
  clear hgr hbk
  refine Zso hK _ _ (MA.mk (fun h => (no_of (by kernel_rfl) h).elim) (M.mask [false, true, true, false] rfl)) ?_; clear hK K
  exact H3 _ _ ⟨xur1_8, sur1_8, xur1_17, sur1_17, bur1_19, sur1_19, xur1_22, sur1_22, hxur1_8, hsur1_8, hxur1_17, hsur1_17, hsur1_19, hxur1_22, hsur1_22, gr1_26, T.pick [1, 0, 2, 3, 4, 5, 6, 7, 8, 9, 10, 11, 12, 13, 14, 15, 16, 17, 18, 19, 20, 21, 22, 23, 24, 25, 26] rfl, M⟩
 intro H2
 refine g_have (fun ac wc => ∃ (xur1_8 : Int), ∃ (sur1_8 : Int), ∃ (xur1_17 : Int), ∃ (sur1_17 : Int), (1 ≤ xur1_8 ∧ xur1_8 ≤ (max 1 (lo - a1))) ∧ (u64ok sur1_8) ∧ (1 ≤ xur1_17 ∧ xur1_17 ≤ (max 1 (wi - c1))) ∧ (u64ok sur1_17) ∧ ∃ (gr1_26 : Nat), Tm ac 38 [(5, .pointer (some ⟨gr1_26, 0, none⟩)), (23, .int .i64 xur1_17), (14, .int .i64 xur1_8), (27, .pointer (some ⟨bp, 0, none⟩)), (26, .pointer (some ⟨bp, 0, none⟩)), (24, .pointer (some ⟨bp, 0, none⟩)), (22, .int .i64 (max 1 (wi - c1))), (21, .int .i64 (wi - c1)), (20, .int .i64 c1), (19, .pointer (some ⟨g1, 5, none⟩)), (18, .pointer (some ⟨g1, 4, none⟩)), (17, .int .i64 wi), (16, .pointer (some ⟨g1, 1, none⟩)), (15, .pointer (some ⟨bp, 0, none⟩)), (13, .int .i64 (max 1 (lo - a1))), (12, .int .i64 (lo - a1)), (11, .int .i64 a1), (10, .pointer (some ⟨g1, 3, none⟩)), (9, .pointer (some ⟨g1, 2, none⟩)), (8, .int .i64 lo), (7, .pointer (some ⟨g1, 0, none⟩)), (6, .pointer (some ⟨bp, 0, none⟩)), (4, .pointer (some ⟨g2, 0, none⟩)), (3, .pointer (some ⟨g1, 0, none⟩)), (0, .pointer (some ⟨bp, 0, none⟩))] ∧ Mem w (fun b => b = bp) wc [(gr1_26, .cells [.int .i64 0, .int .i64 0, .bool false, .int .i64 0]), (g2, .cells [.int .i64 0, .int .i64 0, .bool false, .int .i64 0]), (g1, .cells [.int .i64 lo, .int .i64 wi, .int .i64 a0, .int .i64 a1, .int .i64 c0, .int .i64 c1, .slice A m c]), (bp, .cells [.int .u64 sur1_17])]) (Zpb 28 70778879) 6 ?_ ?_
 ·clear T M
  rintro ac wc ⟨xur1_8, sur1_8, xur1_17, sur1_17, hxur1_8, hsur1_8, hxur1_17, hsur1_17, gr1_26, T, M⟩
  refine gw 19 71303167 ?_; intro K hK
  refine Zoc (first := []) (cap := []) T rfl rfl rfl rfl evf (.cons (T.e 5 rfl) (.cons evc (.cons evc .nil))) Tryz.func136 rfl rfl ?_
  refine Calls.mono (odds_any _ bp 1 3 _ (by omega) (by omega) (M.nth 3 rfl) hsur1_17) ?_
  clear T; rintro e wc ⟨bur1_19, sur1_19, hsur1_19, rfl, hgr, hbk⟩ ac T
  replace M := M.callC (cs' := [.int .u64 sur1_19]) (.tail (.tail (.tail .head))) hgr hbk
  clear hgr hbk
  refine Zso hK _ _ (MA.mk (fun h => (no_of (by kernel_rfl) h).elim) (M.mask [false, true, true, false] rfl)) ?_; clear hK K
  exact H2 _ _ ⟨xur1_8, sur1_8, xur1_17, sur1_17, bur1_19, sur1_19, hxur1_8, hsur1_8, hxur1_17, hsur1_17, hsur1_19, gr1_26, T.pick [1, 0, 2, 3, 4, 5, 6, 7, 8, 9, 10, 11, 12, 13, 14, 15, 16, 17, 18, 19, 20, 21, 22, 23, 24, 25] rfl, M⟩
 intro H1
 refine g_have (fun ac wc => ∃ (xur1_8 : Int), ∃ (sur1_8 : Int), (1 ≤ xur1_8 ∧ xur1_8 ≤ (max 1 (lo - a1))) ∧ (u64ok sur1_8) ∧ ∃ (gr1_26 : Nat), Tm ac 38 [(5, .pointer (some ⟨gr1_26, 0, none⟩)), (14, .int .i64 xur1_8), (27, .pointer (some ⟨bp, 0, none⟩)), (26, .pointer (some ⟨bp, 0, none⟩)), (24, .pointer (some ⟨bp, 0, none⟩)), (22, .int .i64 (max 1 (wi - c1))), (21, .int .i64 (wi - c1)), (20, .int .i64 c1), (19, .pointer (some ⟨g1, 5, none⟩)), (18, .pointer (some ⟨g1, 4, none⟩)), (17, .int .i64 wi), (16, .pointer (some ⟨g1, 1, none⟩)), (15, .pointer (some ⟨bp, 0, none⟩)), (13, .int .i64 (max 1 (lo - a1))), (12, .int .i64 (lo - a1)), (11, .int .i64 a1), (10, .pointer (some ⟨g1, 3, none⟩)), (9, .pointer (some ⟨g1, 2, none⟩)), (8, .int .i64 lo), (7, .pointer (some ⟨g1, 0, none⟩)), (6, .pointer (some ⟨bp, 0, none⟩)), (4, .pointer (some ⟨g2, 0, none⟩)), (3, .pointer (some ⟨g1, 0, none⟩)), (0, .pointer (some ⟨bp, 0, none⟩))] ∧ Mem w (fun b => b = bp) wc [(gr1_26, .cells [.int .i64 0, .int .i64 0, .bool false, .int .i64 0]), (g2, .cells [.int .i64 0, .int .i64 0, .bool false, .int .i64 0]), (g1, .cells [.int .i64 lo, .int .i64 wi, .int .i64 a0, .int .i64 a1, .int .i64 c0, .int .i64 c1, .slice A m c]), (bp, .cells [.int .u64 sur1_8])]) (Zpb 28 70647807) 7 ?_ ?_
 ·clear T M
  rintro ac wc ⟨xur1_8, sur1_8, hxur1_8, hsur1_8, gr1_26, T, M⟩
  refine gw 17 70778879 ?_; intro K hK
  refine Zoc (first := []) (cap := []) T rfl rfl rfl rfl evf (.cons (T.e 12 rfl) (.cons evc (.cons (T.e 5 rfl) .nil))) Tryz.func36 rfl rfl ?_
  refine Calls.mono (within_pot _ bp 1 (max 1 (wi - c1)) _ (by omega) (by omega) (by omega) (M.nth 3 rfl) hsur1_8) ?_
  clear T; rintro e wc ⟨xur1_17, sur1_17, hxur1_17, hsur1_17, rfl, hgr, hbk⟩ ac T
  replace M := M.callC (cs' := [.int .u64 sur1_17]) (.tail (.tail (.tail .head))) hgr hbk
  clear hgr hbk
  refine Zso hK _ _ (MA.mk (fun h => (no_of (by kernel_rfl) h).elim) (M.mask [false, true, true, false] rfl)) ?_; clear hK K
  exact H1 _ _ ⟨xur1_8, sur1_8, xur1_17, sur1_17, hxur1_8, hsur1_8, hxur1_17, hsur1_17, gr1_26, T.pick [1, 0, 2, 3, 4, 5, 6, 7, 8, 9, 10, 11, 12, 13, 14, 15, 16, 17, 18, 19, 20, 21, 22, 23, 24] rfl, M⟩
 intro H0
 refine gq T 0 1 rfl (fun _ _ _ _ _ => (Zrm rfl (T.e 2 rfl))) ?_; clear T ac; intro ac T
 refine gq (v := (.pointer (some ⟨g1, 0, none⟩))) T 1 3 rfl (fun _ _ _ _ _ => (Zrf (off := 0) rfl (T.e 2 rfl) (fun _ _ _ => by kernel_rfl))) ?_; clear T ac; intro ac T
 refine gq T 2 7 rfl (fun B w' hD hl hS => (Zro (Mem.nth (show Mem w (fun b => b = bp) w' _ from ((MA.lft hS) (hD.wait (i := 7) (m := 8) (by kernel_rfl) (hD.wait (i := 6) (m := 7) (by kernel_rfl) (hD.wait (i := 2) (m := 6) (by kernel_rfl) hl))))) 1 rfl) rfl (T.e 0 rfl) rfl)) ?_; clear T ac; intro ac T
 refine gq (v := (.pointer (some ⟨g1, 2, none⟩))) T 3 15 rfl (fun _ _ _ _ _ => (Zrf (off := 2) rfl (T.e 4 rfl) (fun _ _ _ => by kernel_rfl))) ?_; clear T ac; intro ac T
 refine gq (v := (.pointer (some ⟨g1, 3, none⟩))) T 4 31 rfl (fun _ _ _ _ _ => (Zrf (off := 1) rfl (T.e 0 rfl) (fun _ _ _ => by kernel_rfl))) ?_; clear T ac; intro ac T
 refine gq T 5 63 rfl (fun B w' hD hl hS => (Zro (Mem.nth (show Mem w (fun b => b = bp) w' _ from ((MA.lft hS) (hD.wait (i := 7) (m := 8) (by kernel_rfl) (hD.wait (i := 6) (m := 7) (by kernel_rfl) (hD.wait (i := 5) (m := 6) (by kernel_rfl) hl))))) 1 rfl) rfl (T.e 0 rfl) rfl)) ?_; clear T ac; intro ac T
 refine gq T 6 127 rfl (fun _ _ _ _ _ => (rn_sub rfl (T.e 3 rfl) (T.e 0 rfl) (by omega))) ?_; clear T ac; intro ac T
 refine gq T 7 255 rfl (fun _ _ _ _ _ => (rn_max2 rfl evc (T.e 0 rfl))) ?_; clear T ac; intro ac T
 refine gq T 9 767 rfl (fun _ _ _ _ _ => (Zrm rfl (T.e 10 rfl))) ?_; clear T ac; intro ac T
 refine gq (v := (.pointer (some ⟨g1, 1, none⟩))) T 10 1791 rfl (fun _ _ _ _ _ => (Zrf (off := 1) rfl (T.e 10 rfl) (fun _ _ _ => by kernel_rfl))) ?_; clear T ac; intro ac T
 refine gq T 11 3839 rfl (fun B w' hD hl hS => (Zro (Mem.nth (show Mem w (fun b => b = bp) w' _ from (MA.rgt hS)) 1 rfl) rfl (T.e 0 rfl) rfl)) ?_; clear T ac; intro ac T
 refine gq (v := (.pointer (some ⟨g1, 4, none⟩))) T 12 7935 rfl (fun _ _ _ _ _ => (Zrf (off := 4) rfl (T.e 12 rfl) (fun _ _ _ => by kernel_rfl))) ?_; clear T ac; intro ac T
 refine gq (v := (.pointer (some ⟨g1, 5, none⟩))) T 13 16127 rfl (fun _ _ _ _ _ => (Zrf (off := 1) rfl (T.e 0 rfl) (fun _ _ _ => by kernel_rfl))) ?_; clear T ac; intro ac T
 refine gq T 14 32511 rfl (fun B w' hD hl hS => (Zro (Mem.nth (show Mem w (fun b => b = bp) w' _ from (MA.rgt hS)) 1 rfl) rfl (T.e 0 rfl) rfl)) ?_; clear T ac; intro ac T
 refine gq T 15 65279 rfl (fun _ _ _ _ _ => (rn_sub rfl (T.e 3 rfl) (T.e 0 rfl) (by omega))) ?_; clear T ac; intro ac T
 refine gq T 16 130815 rfl (fun _ _ _ _ _ => (rn_max2 rfl evc (T.e 0 rfl))) ?_; clear T ac; intro ac T
 refine gq T 18 392959 rfl (fun _ _ _ _ _ => (Zrm rfl (T.e 18 rfl))) ?_; clear T ac; intro ac T
 refine gq T 20 1441535 rfl (fun _ _ _ _ _ => (Zrm rfl (T.e 19 rfl))) ?_; clear T ac; intro ac T
 refine gq T 21 3538687 rfl (fun _ _ _ _ _ => (Zrm rfl (T.e 20 rfl))) ?_; clear T ac; intro ac T
 refine g_m2 (i := 8) (j := 26) (by kernel_rfl) ?_ ?_
 ·refine gi 3538943 ?_; intro K hK
  refine Zoc (first := []) (cap := []) T rfl rfl rfl rfl evf (.cons (T.e 18 rfl) (.cons evc (.cons (T.e 11 rfl) .nil))) Tryz.func36 rfl rfl ?_
  refine Calls.mono (within_pot _ bp 1 (max 1 (lo - a1)) _ (by omega) (by omega) (by omega) (M.nth 2 rfl) hs) ?_
  clear T; rintro e wc ⟨xur1_8, sur1_8, hxur1_8, hsur1_8, rfl, hgr, hbk⟩ ac T
  replace M := M.callC (cs' := [.int .u64 sur1_8]) (.tail (.tail .head)) hgr hbk
  clear hgr hbk
  refine Zso hK _ _ (MA.mk (fun h => (no_of (by kernel_rfl) h).elim) (M.mask [true, true, false] rfl)) ?_; clear hK K
  refine g_m2 (i := 17) (j := 26) (by kernel_rfl) ?_ ?_
  ·refine gi 3670015 ?_; intro K hK
   refine Zoc (first := []) (cap := []) T rfl rfl rfl rfl evf (.cons (T.e 11 rfl) (.cons evc (.cons (T.e 4 rfl) .nil))) Tryz.func36 rfl rfl ?_
   refine Calls.mono (within_pot _ bp 1 (max 1 (wi - c1)) _ (by omega) (by omega) (by omega) (M.nth 2 rfl) hsur1_8) ?_
   clear T; rintro e wc ⟨xur1_17, sur1_17, hxur1_17, hsur1_17, rfl, hgr, hbk⟩ ac T
   replace M := M.callC (cs' := [.int .u64 sur1_17]) (.tail (.tail .head)) hgr hbk
   clear hgr hbk
   refine Zso hK _ _ (MA.mk (fun h => (no_of (by kernel_rfl) h).elim) (M.mask [true, true, false] rfl)) ?_; clear hK K
   refine g_m2 (i := 19) (j := 26) (by kernel_rfl) ?_ ?_
   ·refine gi 4194303 ?_; intro K hK
    refine Zoc (first := []) (cap := []) T rfl rfl rfl rfl evf (.cons (T.e 4 rfl) (.cons evc (.cons evc .nil))) Tryz.func136 rfl rfl ?_
    refine Calls.mono (odds_any _ bp 1 3 _ (by omega) (by omega) (M.nth 2 rfl) hsur1_17) ?_
    clear T; rintro e wc ⟨bur1_19, sur1_19, hsur1_19, rfl, hgr, hbk⟩ ac T
    replace M := M.callC (cs' := [.int .u64 sur1_19]) (.tail (.tail .head)) hgr hbk
    clear hgr hbk
    refine Zso hK _ _ (MA.mk (fun h => (no_of (by kernel_rfl) h).elim) (M.mask [true, true, false] rfl)) ?_; clear hK K
    refine g_m2 (i := 22) (j := 26) (by kernel_rfl) ?_ ?_
    ·refine gi 8388607 ?_; intro K hK
     refine Zoc (first := []) (cap := []) T rfl rfl rfl rfl evf (.cons (T.e 3 rfl) (.cons evc .nil)) Tryz.func35 rfl rfl ?_
     refine Calls.mono (upto_any _ bp 3 _ (by omega) (by omega) (M.nth 2 rfl) hsur1_19) ?_
     clear T; rintro e wc ⟨xur1_22, sur1_22, hxur1_22, hsur1_22, rfl, hgr, hbk⟩ ac T
     replace M := M.callC (cs' := [.int .u64 sur1_22]) (.tail (.tail .head)) hgr hbk
     clear hgr hbk
     refine Zso hK _ _ (MA.mk (fun h => (no_of (by kernel_rfl) h).elim) (M.mask [true, true, false] rfl)) ?_; clear hK K
     refine g_m2 (i := 23) (j := 26) (by kernel_rfl) ?_ ?_
     ·refine gi 16777215 ?_; intro K hK
      refine ow_bs (e := 3) [.int .i64 0, .int .i64 0, .int .i64 0, .int .i64 xur1_22] M T rfl rfl rfl rfl (.cons evc (.cons evc (.cons evc (.cons (T.e 0 rfl) .nil)))) (fun _ => by kernel_rfl) ?_; clear M T; intro gr1_23 wc ac M T
      refine Zso hK _ _ (MA.mk (fun h => (no_of (by kernel_rfl) h).elim) (M.mask [false, true, true, false] rfl)) ?_; clear hK K
      refine g_m2 (i := 24) (j := 26) (by kernel_rfl) ?_ ?_
      ·refine gi 33554431 ?_; intro K hK
       refine Zoc (first := []) (cap := []) T rfl rfl rfl rfl evf (.cons (T.e 6 rfl) (.cons (T.e 0 rfl) .nil)) Tryz.func97 rfl rfl ?_
       refine Calls.mono (of_any _ bp _ 4 4 [0, 0, 0, xur1_22] _ (M.rdOwn (Zne (i := 0) rfl) rfl rfl) (M.nee 0 3 rfl rfl rfl) (by decide) (by decide) (M.nth 3 rfl) hsur1_22) ?_
       clear T; rintro e wc ⟨xur1_24, sur1_24, hxur1_24, hsur1_24, rfl, hgr, hbk⟩ ac T
       replace M := M.callC (cs' := [.int .u64 sur1_24]) (.tail (.tail (.tail .head))) hgr hbk
       clear hgr hbk
       simp only [List.mem_cons, List.not_mem_nil, or_false] at hxur1_24
       refine Zso hK _ _ (MA.mk (fun h => (no_of (by kernel_rfl) h).elim) (M.mask [false, true, true, false] rfl)) ?_; clear hK K
       refine gq (v := (.agg #[.int .i64 xur1_8, .int .i64 xur1_17, .bool bur1_19, .int .i64 xur1_24])) T 25 67108863 rfl (fun _ _ _ _ _ => (rn_build rfl (.cons (T.e 5 rfl) (.cons (T.e 4 rfl) (.cons (T.e 3 rfl) (.cons (T.e 0 rfl) .nil)))) (fun _ => by kernel_rfl))) ?_; clear T ac; intro ac T
       refine gw 26 134217727 ?_; intro K hK
       refine Zoa M T rfl rfl rfl rfl ?_; clear M T; intro gr1_26 wc ac M T
       refine Zso hK _ _ (MA.mk (fun h => (no_of (by kernel_rfl) h).elim) (M.mask [false, false, true, true, false] rfl)) ?_; clear hK K
       exact H5 _ _ ⟨xur1_8, sur1_8, xur1_17, sur1_17, bur1_19, sur1_19, xur1_22, sur1_22, xur1_24, sur1_24, hxur1_8, hsur1_8, hxur1_17, hsur1_17, hsur1_19, hxur1_22, hsur1_22, hxur1_24, hsur1_24, gr1_26, gr1_23, T, M⟩
      refine gi 83886079 ?_; intro K hK
      refine Zoa M T rfl rfl rfl rfl ?_; clear M T; intro gr1_26 wc ac M T
      refine Zso hK _ _ (MA.mk (fun h => (no_of (by kernel_rfl) h).elim) (M.mask [false, false, true, true, false] rfl)) ?_; clear hK K
      exact H4 _ _ ⟨xur1_8, sur1_8, xur1_17, sur1_17, bur1_19, sur1_19, xur1_22, sur1_22, hxur1_8, hsur1_8, hxur1_17, hsur1_17, hsur1_19, hxur1_22, hsur1_22, gr1_26, gr1_23, T, M⟩
     refine gi 75497471 ?_; intro K hK
     refine Zoa M T rfl rfl rfl rfl ?_; clear M T; intro gr1_26 wc ac M T
     refine Zso hK _ _ (MA.mk (fun h => (no_of (by kernel_rfl) h).elim) (M.mask [false, true, true, false] rfl)) ?_; clear hK K
     exact H3 _ _ ⟨xur1_8, sur1_8, xur1_17, sur1_17, bur1_19, sur1_19, xur1_22, sur1_22, hxur1_8, hsur1_8, hxur1_17, hsur1_17, hsur1_19, hxur1_22, hsur1_22, gr1_26, T, M⟩
    refine gi 71303167 ?_; intro K hK
    refine Zoa M T rfl rfl rfl rfl ?_; clear M T; intro gr1_26 wc ac M T
    refine Zso hK _ _ (MA.mk (fun h => (no_of (by kernel_rfl) h).elim) (M.mask [false, true, true, false] rfl)) ?_; clear hK K
    exact H2 _ _ ⟨xur1_8, sur1_8, xur1_17, sur1_17, bur1_19, sur1_19, hxur1_8, hsur1_8, hxur1_17, hsur1_17, hsur1_19, gr1_26, T, M⟩
   refine gi 70778879 ?_; intro K hK
   refine Zoa M T rfl rfl rfl rfl ?_; clear M T; intro gr1_26 wc ac M T
   refine Zso hK _ _ (MA.mk (fun h => (no_of (by kernel_rfl) h).elim) (M.mask [false, true, true, false] rfl)) ?_; clear hK K
   exact H1 _ _ ⟨xur1_8, sur1_8, xur1_17, sur1_17, hxur1_8, hsur1_8, hxur1_17, hsur1_17, gr1_26, T, M⟩
  refine gi 70647807 ?_; intro K hK
  refine Zoa M T rfl rfl rfl rfl ?_; clear M T; intro gr1_26 wc ac M T
  refine Zso hK _ _ (MA.mk (fun h => (no_of (by kernel_rfl) h).elim) (M.mask [false, true, true, false] rfl)) ?_; clear hK K
  exact H0 _ _ ⟨xur1_8, sur1_8, hxur1_8, hsur1_8, gr1_26, T, M⟩
 refine gi 70647551 ?_; intro K hK
 refine Zoa M T rfl rfl rfl rfl ?_; clear M T; intro gr1_26 wc ac M T
 refine Zso hK _ _ (MA.mk (fun _ => M.mask [false, true, true, true] rfl) (M.mask [false, true, true, false] rfl)) ?_; clear hK K
 refine gw 8 70647807 ?_; intro K hK
 refine Zoc (first := []) (cap := []) T rfl rfl rfl rfl evf (.cons (T.e 19 rfl) (.cons evc (.cons (T.e 12 rfl) .nil))) Tryz.func36 rfl rfl ?_
 refine Calls.mono (within_pot _ bp 1 (max 1 (lo - a1)) _ (by omega) (by omega) (by omega) (M.nth 3 rfl) hs) ?_
 clear T; rintro e wc ⟨xur1_8, sur1_8, hxur1_8, hsur1_8, rfl, hgr, hbk⟩ ac T
 replace M := M.callC (cs' := [.int .u64 sur1_8]) (.tail (.tail (.tail .head))) hgr hbk
 clear hgr hbk
 refine Zso hK _ _ (MA.mk (fun h => (no_of (by kernel_rfl) h).elim) (M.mask [false, true, true, false] rfl)) ?_; clear hK K
 exact H0 _ _ ⟨xur1_8, sur1_8, hxur1_8, hsur1_8, gr1_26, T.pick [1, 0, 2, 3, 4, 5, 6, 7, 8, 9, 10, 11, 12, 13, 14, 15, 16, 17, 18, 19, 20, 21, 22, 23] rfl, M⟩
set_option maxHeartbeats 2000000 in
theorem sheetOf_any (s : Int) (bp : Nat) (side parts : Int)  (w : World) (h1 : 2 ≤ side ∧ side ≤ 12) (h2 : 0 ≤ parts ∧ parts ≤ 5) (hp : Bk w bp #[.int .u64 s]) (hs : u64ok s) :
   Calls Tryz.prog 17 #[.pointer (some ⟨bp, 0, none⟩), .int .i64 side, .int .i64 parts] w (SkOfPost bp side parts w) := by
 refine Zpx (fun b => b = bp) Tryz.func17 rfl 40 rfl [.pointer (some ⟨bp, 0, none⟩), .int .i64 side, .int .i64 parts] rfl rfl (Mem.initEx (p := .cells [.int .u64 s]) hp) ?_
 intro ac wc T M
 refine Zsr ?_
 refine Zl2 ?_
 refine Zoa M T rfl rfl rfl rfl ?_; clear M T; intro g1 wc ac M T
 refine Zln ?_
 refine Zsr ?_
 refine Zg2 T (Zq (Zrm rfl (T.e 1 rfl))) rfl (Zm 3 rfl rfl) rfl ?_; clear T ac; intro ac T
 refine Zl2 ?_
 refine Zoc (first := []) (cap := []) T rfl rfl rfl rfl evf (.cons (T.e 1 rfl) (.cons evc (.cons (T.e 0 rfl) .nil))) Tryz.func36 rfl rfl ?_
 refine Calls.mono (within_pot _ bp 2 side _ (by omega) (by omega) (by omega) (M.nth 1 rfl) hs) ?_
 clear T; rintro e wc ⟨xu1, su1, hxu1, hsu1, rfl, hgr, hbk⟩ ac T
 replace M := M.callC (cs' := [.int .u64 su1]) (.tail .head) hgr hbk
 clear hgr hbk
 refine Zg2 T (Zq (Zrm rfl (T.e 4 rfl))) rfl (Zm 6 rfl rfl) rfl ?_; clear T ac; intro ac T
 refine Zl2 ?_
 refine Zoc (first := []) (cap := []) T rfl rfl rfl rfl evf (.cons (T.e 1 rfl) (.cons evc (.cons (T.e 0 rfl) .nil))) Tryz.func36 rfl rfl ?_
 refine Calls.mono (within_pot _ bp 2 side _ (by omega) (by omega) (by omega) (M.nth 1 rfl) hsu1) ?_
 clear T; rintro e wc ⟨xu2, su2, hxu2, hsu2, rfl, hgr, hbk⟩ ac T
 replace M := M.callC (cs' := [.int .u64 su2]) (.tail .head) hgr hbk
 clear hgr hbk
 refine Zg2 T (Zq (Zrm rfl (T.e 7 rfl))) rfl (Zm 8 rfl rfl) rfl ?_; clear T ac; intro ac T
 refine Zl2 ?_
 refine Zoc (first := []) (cap := []) T rfl rfl rfl rfl evf (.cons (T.e 0 rfl) (.cons evc .nil)) Tryz.func35 rfl rfl ?_
 refine Calls.mono (upto_any _ bp 1 _ (by omega) (by omega) (M.nth 1 rfl) hsu2) ?_
 clear T; rintro e wc ⟨xu3, su3, hxu3, hsu3, rfl, hgr, hbk⟩ ac T
 replace M := M.callC (cs' := [.int .u64 su3]) (.tail .head) hgr hbk
 clear hgr hbk
 refine Zl2 ?_
 refine Zoc (first := []) (cap := []) T rfl rfl rfl rfl evf (.cons (T.e 2 rfl) (.cons (T.e 0 rfl) (.cons evc (.cons evc (.cons evc .nil))))) Tryz.func64 rfl rfl ?_
 refine Calls.mono (near_pot _ bp xu3 0 2 1 _ (by omega) (by omega) (by omega) (by omega) (by omega) (by omega) (M.nth 1 rfl) hsu3) ?_
 clear T; rintro e wc ⟨xu4, yu4, su4, hxu4, hsu4, rfl, hgr, hbk⟩ ac T
 replace M := M.callC (cs' := [.int .u64 su4]) (.tail .head) hgr hbk
 clear hgr hbk
 refine Zg2 T (Zq (Zrm rfl (T.e 11 rfl))) rfl (Zm 12 rfl rfl) rfl ?_; clear T ac; intro ac T
 refine Zl2 ?_
 refine Zoc (first := []) (cap := []) T rfl rfl rfl rfl evf (.cons (T.e 0 rfl) (.cons evc .nil)) Tryz.func35 rfl rfl ?_
 refine Calls.mono (upto_any _ bp 1 _ (by omega) (by omega) (M.nth 1 rfl) hsu4) ?_
 clear T; rintro e wc ⟨xu5, su5, hxu5, hsu5, rfl, hgr, hbk⟩ ac T
 replace M := M.callC (cs' := [.int .u64 su5]) (.tail .head) hgr hbk
 clear hgr hbk
 refine Zl2 ?_
 refine Zoc (first := []) (cap := []) T rfl rfl rfl rfl evf (.cons (T.e 2 rfl) (.cons (T.e 0 rfl) (.cons evc (.cons evc (.cons evc .nil))))) Tryz.func64 rfl rfl ?_
 refine Calls.mono (near_pot _ bp xu5 0 2 1 _ (by omega) (by omega) (by omega) (by omega) (by omega) (by omega) (M.nth 1 rfl) hsu5) ?_
 clear T; rintro e wc ⟨xu6, yu6, su6, hxu6, hsu6, rfl, hgr, hbk⟩ ac T
 replace M := M.callC (cs' := [.int .u64 su6]) (.tail .head) hgr hbk
 clear hgr hbk
 refine lq (v := (.agg #[.int .i64 xu1, .int .i64 xu2, .int .i64 xu4, .int .i64 yu4, .int .i64 xu6, .int .i64 yu6, .slice none 0 0])) T (rn_build rfl (.cons (T.e 11 rfl) (.cons (T.e 8 rfl) (.cons (T.e 4 rfl) (.cons (T.e 0 rfl) .nil)))) (fun _ => by kernel_rfl)) ?_; clear T ac; intro ac T
 refine Zl2 ?_
 refine Zoa M T rfl rfl rfl rfl ?_; clear M T; intro g2 wc ac M T
 refine Zl2 ?_
 refine Zos M T rfl rfl (T.e 0 rfl) (T.e 1 rfl) rfl .head rfl (by simp) rfl (by kernel_rfl) ?_; clear M T; intro wc ac M T
 replace T := T.pick [0, 16, 17, 19] rfl
 refine Zln ?_
 refine wp_seq ?_
 refine Zsr ?_
 refine Zg2 T (Zq (Zrm rfl (T.e 2 rfl))) rfl (Zm 4 rfl rfl) rfl ?_; clear T ac; intro ac T
 refine Zl2 ?_
 refine Zoc (first := []) (cap := []) T rfl rfl rfl rfl evf (.cons (T.e 1 rfl) (.cons (T.e 0 rfl) .nil)) Tryz.func35 rfl rfl ?_
 refine Calls.mono (upto_any _ bp parts _ (by omega) (by omega) (M.nth 2 rfl) hsu6) ?_
 clear T; rintro e wc ⟨xu7, su7, hxu7, hsu7, rfl, hgr, hbk⟩ ac T
 replace M := M.callC (cs' := [.int .u64 su7]) (.tail (.tail .head)) hgr hbk
 clear hgr hbk
 refine lq T (Zra rfl (T.e 0 rfl)) ?_; clear T ac; intro ac T
 replace T := T.pick [0, 4, 5, 6] rfl
 refine Zln ?_
 refine wp_block ?_
 refine wp_loop_n (fun mz ac wc => ∃ (i : Int) (OL : List Pt) (A3 : Option Addr) (c3 : Nat) (s : Int) (Io : List (Nat × BA)), mz = i.toNat ∧ (0 ≤ i) ∧ ((OL.length : Int) + i ≤ parts) ∧ (∀ q ∈ OL, q.good) ∧ (u64ok s) ∧ (Sl 119 4 (.slice A3 OL.length c3) OL.length (pc OL) Io) ∧ Tm ac 40 [(0, .pointer (some ⟨bp, 0, none⟩)), (6, .pointer (some ⟨g1, 0, none⟩)), (7, .pointer (some ⟨g2, 0, none⟩)), (8, .int .i64 i)] ∧ Mem w (fun b => b = bp) wc ((g2, .cells [.int .i64 xu1, .int .i64 xu2, .int .i64 xu4, .int .i64 yu4, .int .i64 xu6, .int .i64 yu6, .slice A3 OL.length c3]) :: (g1, .cells [.int .i64 0, .int .i64 0, .int .i64 0, .int .i64 0, .int .i64 0, .int .i64 0, .slice none 0 0]) :: (bp, .cells [.int .u64 s]) :: Io)) ?_ ?_
 ·exact ⟨_, _, [], none, 0, _, [], rfl, (by omega), (by simp; omega), (fun q h => by cases h), hsu7, (Sl.nil _ _), T.pick [3, 2, 1, 0] rfl, M.mask [true, true, true] rfl⟩
 clear T M
 rintro mz ac wc ⟨i, OL, A3, c3, s, Io, hmm1, hi, hol, hgO, hs, hsl, T, M⟩
 refine wp_seq ?_
 refine Zsr ?_
 refine Zg2 T (Zq (Zrm rfl (T.e 3 rfl))) rfl (fun _ T => Zq (rn_gtr rfl (T.e 0 rfl) evc)) rfl ?_; clear T ac; intro ac T
 replace T := T.pick [0, 2, 3, 4, 5] rfl
 refine Zln ?_
 refine wp_if (T.e 0 rfl) ?_ ?_
 ·intro h1
  refine Zsk ?_
  refine wp_seq ?_
  refine wp_block ?_
  refine Zgs M (M.perm [1] rfl rfl) 9 (by kernel_rfl) rfl (by kernel_rfl) ?_
  clear M; intro wc M
  refine g_addG 4 M ?_
  refine g_addG 8 (M.perm [0, 1] rfl rfl) ?_
  refine gq (v := (.pointer (some ⟨g2, 6, none⟩))) T 0 1 rfl (fun _ _ _ _ _ => (Zrf (off := 6) rfl (T.e 3 rfl) (fun _ _ _ => by kernel_rfl))) ?_; clear T ac; intro ac T
  refine gq T 1 3 rfl (fun B w' hD hl hS => (Zro (Mem.nth (show Mem w (fun b => b = bp) w' _ from ((MA.lft hS) (hD.wait (i := 1) (m := 8) (by kernel_rfl) hl))) 0 rfl) rfl (T.e 0 rfl) rfl)) ?_; clear T ac; intro ac T
  refine gq T 2 7 rfl (fun _ _ _ _ _ => (Zrm rfl (T.e 3 rfl))) ?_; clear T ac; intro ac T
  refine gq T 3 15 rfl (fun B w' hD hl hS => (Zrr (Mem.nth (show Mem w (fun b => b = bp) w' _ from ((MA.lft hS) (hD.wait (i := 3) (m := 8) (by kernel_rfl) hl))) 0 rfl) rfl (T.e 6 rfl) rfl)) ?_; clear T ac; intro ac T
  refine gw 4 31 ?_; intro K hK
  refine Zoc (first := []) (cap := []) T rfl rfl rfl rfl evf (.cons (T.e 1 rfl) (.cons (T.e 0 rfl) .nil)) Tryz.func65 rfl rfl ?_
  refine Calls.mono (partOf_any _ bp xu1 xu2 xu4 yu4 xu6 yu6 A3 OL.length c3 _ (by omega) (by omega) (by omega) (by omega) (M.nth 2 rfl) hs) ?_
  clear T; rintro e wc ⟨pu8, su8, hpu8, hsu8, rfl, hgr, hbk⟩ ac T
  replace M := M.callC (cs' := [.int .u64 su8]) (.tail (.tail .head)) hgr hbk
  clear hgr hbk
  refine Zso hK _ _ (MA.mk (fun _ => M.perm [0, 1] rfl rfl) (MA.mk (fun h => (no_of (by kernel_rfl) h).elim) (M.perm [1] rfl rfl))) ?_; clear hK K
  refine gw 5 63 ?_; intro K hK
  refine ow_bs (e := 119) [.int .i64 pu8.l, .int .i64 pu8.w, .bool pu8.gr, .int .i64 pu8.pa] M T rfl rfl rfl rfl (.cons (T.e 0 rfl) .nil) (fun _ => by kernel_rfl) ?_; clear M T; intro g3 wc ac M T
  refine Zso hK _ _ (MA.mk (fun _ => M.perm [1, 2] rfl rfl) (MA.mk (fun h => (no_of (by kernel_rfl) h).elim) (M.perm [2] rfl rfl))) ?_; clear hK K
  refine gw 6 127 ?_; intro K hK
  refine ow_app ([(g3, .cells [.int .i64 pu8.l, .int .i64 pu8.w, .bool pu8.gr, .int .i64 pu8.pa]), (g2, .cells [.int .i64 xu1, .int .i64 xu2, .int .i64 xu4, .int .i64 yu4, .int .i64 xu6, .int .i64 yu6, .slice A3 OL.length c3]), (g1, .cells [.int .i64 0, .int .i64 0, .int .i64 0, .int .i64 0, .int .i64 0, .int .i64 0, .slice none 0 0]), (bp, .cells [.int .u64 su8])]) Tryz.info119 hsl M (by first | rfl | simp) T rfl rfl rfl rfl Tryz.underlying47 rfl rfl rfl (by omega) (T.e 4 rfl) (T.e 0 rfl) (Zne (i := 0) rfl) rfl rfl ?_; clear M T; intro ga1 cga1 wc ac M T
  refine Zso hK _ _ (MA.mk (fun _ => M.mask [false, false, true, true, false] rfl) (MA.mk (fun h => (no_of (by kernel_rfl) h).elim) (M.mask [false, false, false, true, false] rfl))) ?_; clear hK K
  have e9 : OL.length + 1 = (OL ++ [pu8]).length := by simp
  have e8 : ((pc OL) ++ [.int .i64 pu8.l, .int .i64 pu8.w, .bool pu8.gr, .int .i64 pu8.pa]) = pc (OL ++ [pu8]) := by rw [← pc_snoc]
  rw [e9, e8] at M
  rw [e9] at T
  clear e9 e8
  refine gq (v := (.pointer (some ⟨g2, 6, none⟩))) T 7 255 rfl (fun _ _ _ _ _ => (Zrf (off := 6) rfl (T.e 10 rfl) (fun _ _ _ => by kernel_rfl))) ?_; clear T ac; intro ac T
  refine gw 8 511 ?_; intro K hK
  refine Zos M T rfl rfl (T.e 0 rfl) (T.e 1 rfl) rfl (.tail (.tail .head)) rfl (by simp) rfl (by kernel_rfl) ?_; clear M T; intro wc ac M T
  refine Zso hK _ _ (MA.mk (fun h => (no_of (by kernel_rfl) h).elim) (MA.mk (fun h => (no_of (by kernel_rfl) h).elim) (M.mask [false, false, false, true, false] rfl))) ?_; clear hK K
  refine Zgd (by kernel_rfl) ?_
  replace T := T.pick [9, 10, 11, 12] rfl
  replace M := M.mask [true, false, true, true, true] rfl
  refine Znb ?_
  refine nm_then ?_
  refine wp_region_lit ?_
  refine Zg2 T (Zq (Zrm rfl (T.e 3 rfl))) rfl (fun _ T => Zq (rn_sub rfl (T.e 0 rfl) evc (by omega))) rfl ?_; clear T ac; intro ac T
  refine l_q (v := (.int .i64 (i - 1))) (T.pick [0, 1, 2, 3, 4] rfl) rfl rfl rfl rfl (Zra rfl (T.e 0 rfl)) ?_; clear T ac; intro ac T
  replace T := T.pick [0, 3, 4, 5] rfl
  refine Zln ?_
  exact ⟨_, by omega, (i - 1), (OL ++ [pu8]), _, cga1, su8, [(ga1, .row 119 4 (OL ++ [pu8]).length (pc (OL ++ [pu8])) cga1)], rfl, (by omega), (by simp only [List.length_append, List.length_cons, List.length_nil]; omega), (fun q hq => by rcases List.mem_append.1 hq with h9 | h9; exact hgO q h9; rw [List.mem_singleton.1 h9]; exact hpu8), hsu8, (Sl.row _ _ _ _ _ _), T.pick [1, 2, 3, 0] rfl, M.perm [1, 2, 3, 0] rfl rfl⟩
 intro h1
 refine wp_exit ?_
 refine Zet ?_
 refine Zet ?_
 refine ex_hit ?_
 refine nm_then ?_
 refine Zsr ?_
 refine lq T (Zrr (Mem.nth M 0 rfl) rfl (T.e 3 rfl) rfl) ?_; clear T ac; intro ac T
 refine Zl2 ?_
 refine Zos M T rfl rfl (T.e 3 rfl) (T.e 0 rfl) rfl (.tail .head) rfl (by simp) rfl (by kernel_rfl) ?_; clear M T; intro wc ac M T
 refine wpList_nil ?_
 replace T := T.pick [3] rfl
 replace M := M.mask [false, true, true] rfl
 refine Znr ?_
 refine rt_c M T rfl (T.e 0 rfl) (Zne (i := 0) rfl) rfl ?_
 obtain ⟨b9, o9, h9⟩ := hsl.spV (pc_length _)
 have hcap := hsl.capLe M (.cons _ (.cons _ (List.Sublist.refl _)))
 refine ⟨⟨xu1, xu2, xu4, yu4, xu6, yu6, OL⟩, A3, c3, _, Io, rfl, ⟨by dsimp only; omega, by dsimp only; omega, by dsimp only; omega, by dsimp only; omega, by dsimp only; omega, hgO⟩, ⟨by dsimp only; omega, by dsimp only; omega⟩, hs, hcap, ⟨b9, o9, h9⟩, M.mask [false, true] rfl⟩
theorem eqT26 {x y : Operand} {a0 a1 b0 b1 : Int} {w : World} : (do eqGuard .eql 26 x y (.agg #[.int .i64 a0, .int .i64 a1]) (.agg #[.int .i64 b0, .int .i64 b1]); binOp .eql 26 (.agg #[.int .i64 a0, .int .i64 a1]) (.agg #[.int .i64 b0, .int .i64 b1]) : Sem Value).run Tryz.prog w = .ok (.bool ((decide (a0 = b0) && decide (a1 = b1)))) w := by
 go_simp
 (repeat' split) <;> simp_all
theorem eqT119 {x y : Operand} {a0 a1 a3 b0 b1 b3 : Int} {a2 b2 : Bool} {w : World} : (do eqGuard .eql 119 x y (.agg #[.int .i64 a0, .int .i64 a1, .bool a2, .int .i64 a3]) (.agg #[.int .i64 b0, .int .i64 b1, .bool b2, .int .i64 b3]); binOp .eql 119 (.agg #[.int .i64 a0, .int .i64 a1, .bool a2, .int .i64 a3]) (.agg #[.int .i64 b0, .int .i64 b1, .bool b2, .int .i64 b3]) : Sem Value).run Tryz.prog w = .ok (.bool (decide (a0 = b0) && (decide (a1 = b1) && (decide (a2 = b2) && decide (a3 = b3))))) w := by
 go_simp
 (repeat' split) <;> simp_all
def eqF (s t : Sk) : Prop := s.lo = t.lo ∧ s.wi = t.wi ∧ (s.a0 = t.a0 ∧ s.a1 = t.a1) ∧ (s.c0 = t.c0 ∧ s.c1 = t.c1) ∧ s.ps.length = t.ps.length
theorem sameSheets_any (s : Sk) (A : Option Addr) (c : Nat) (t : Sk) (B : Option Addr) (d : Nat)  (w : World) (hA : Rd w w.heap.size 4 A s.ps.length (pc s.ps)) (hB : Rd w w.heap.size 4 B t.ps.length (pc t.ps)) (nA : s.ps.length ≤ 1000000) (nB : t.ps.length ≤ 1000000) :
   Calls Tryz.prog 22 #[.agg #[.int .i64 s.lo, .int .i64 s.wi, .int .i64 s.a0, .int .i64 s.a1, .int .i64 s.c0, .int .i64 s.c1, .slice A s.ps.length c], .agg #[.int .i64 t.lo, .int .i64 t.wi, .int .i64 t.a0, .int .i64 t.a1, .int .i64 t.c0, .int .i64 t.c1, .slice B t.ps.length d]] w fun e w' => e = .returned (.bool (decide (s = t))) ∧ Below w.heap.size w w' := by
 obtain ⟨bA, oA, SA⟩ := Sp.old hA
 obtain ⟨bB, oB, SB⟩ := Sp.old hB
 refine Zpx noEx Tryz.func22 rfl 64 rfl [.agg #[.int .i64 s.lo, .int .i64 s.wi, .int .i64 s.a0, .int .i64 s.a1, .int .i64 s.c0, .int .i64 s.c1, .slice A s.ps.length c], .agg #[.int .i64 t.lo, .int .i64 t.wi, .int .i64 t.a0, .int .i64 t.a1, .int .i64 t.c0, .int .i64 t.c1, .slice B t.ps.length d]] rfl rfl (Mem.init w _) ?_
 intro ac wc T M
 refine Zsr ?_
 refine Zl2 ?_
 refine Zob M T rfl rfl rfl rfl (T.e 0 rfl) rfl ?_; clear M T; intro g1 wc ac M T
 refine Zl2 ?_
 refine Zob M T rfl rfl rfl rfl (T.e 2 rfl) rfl ?_; clear M T; intro g2 wc ac M T
 refine lq T (Zra rfl evc) ?_; clear T ac; intro ac T
 replace T := T.pick [1, 2] rfl
 refine Zln ?_
 refine cut_seq (fun ac wc => Tm ac 64 [(2, .pointer (some ⟨g1, 0, none⟩)), (3, .pointer (some ⟨g2, 0, none⟩)), (5, .bool ((decide (s.lo = t.lo)) && ((decide (s.wi = t.wi)) && (((decide (s.a0 = t.a0)) && (decide (s.a1 = t.a1))) && (((decide (s.c0 = t.c0)) && (decide (s.c1 = t.c1))) && (decide (((s.ps.length : Nat) : Int) = ((t.ps.length : Nat) : Int))))))))] ∧ Mem w noEx wc [(g2, .cells [.int .i64 t.lo, .int .i64 t.wi, .int .i64 t.a0, .int .i64 t.a1, .int .i64 t.c0, .int .i64 t.c1, .slice B t.ps.length d]), (g1, .cells [.int .i64 s.lo, .int .i64 s.wi, .int .i64 s.a0, .int .i64 s.a1, .int .i64 s.c0, .int .i64 s.c1, .slice A s.ps.length c])]) ?_ ?_
 ·refine wp_region_lit ?_
  refine Zg6 (v1 := (.pointer (some ⟨g1, 0, none⟩))) (v3 := (.pointer (some ⟨g2, 0, none⟩))) T (Zq (Zrf (off := 0) rfl (T.e 1 rfl) (fun _ _ _ => by kernel_rfl))) rfl (Zo M 1 0 rfl rfl rfl rfl) rfl (Zf 0 2 rfl rfl) rfl (Zo M 0 0 rfl rfl rfl rfl) rfl (fun _ T => Zq (rn_eql rfl (T.e 2 rfl) (T.e 0 rfl))) rfl (Zm 0 rfl rfl) rfl ?_; clear T ac; intro ac T
  rcases Bool.eq_false_or_eq_true (decide (s.lo = t.lo)) with h1 | h1
  ·replace h1 := of_decide_eq_true h1
   refine Zg7 (v1 := (.pointer (some ⟨g1, 1, none⟩))) (v3 := (.pointer (some ⟨g2, 1, none⟩))) T (Zw (Zwy rfl rfl (T.e 0 rfl) (Zdt h1)) (Zrf (off := 1) rfl (T.e 7 rfl) (fun _ _ _ => by kernel_rfl))) rfl (fun _ T => Zw (Zwy rfl rfl (T.e 1 rfl) (Zdt h1)) (Zro (Mem.nth M 1 rfl) rfl (T.e 0 rfl) rfl)) rfl (fun _ T => Zw (Zwy rfl rfl (T.e 2 rfl) (Zdt h1)) (Zrf (off := 1) rfl (T.e 8 rfl) (fun _ _ _ => by kernel_rfl))) rfl (fun _ T => Zw (Zwy rfl rfl (T.e 3 rfl) (Zdt h1)) (Zro (Mem.nth M 0 rfl) rfl (T.e 0 rfl) rfl)) rfl (fun _ T => Zw (Zwy rfl rfl (T.e 4 rfl) (Zdt h1)) (rn_eql rfl (T.e 2 rfl) (T.e 0 rfl))) rfl (fun _ T => Zq (Zr1 rfl (T.e 5 rfl) (Zdt h1) (T.e 0 rfl))) rfl (Zm 0 rfl rfl) rfl ?_; clear T ac; intro ac T
   rcases Bool.eq_false_or_eq_true (decide (s.wi = t.wi)) with h2 | h2
   ·replace h2 := of_decide_eq_true h2
    refine Zg7 (v1 := (.pointer (some ⟨g1, 2, none⟩))) (v3 := (.pointer (some ⟨g2, 2, none⟩))) (v5 := (.bool ((decide (s.a0 = t.a0)) && (decide (s.a1 = t.a1))))) T (Zw (Zwy rfl rfl (T.e 0 rfl) (Zdt h2)) (Zrf (off := 2) rfl (T.e 14 rfl) (fun _ _ _ => by kernel_rfl))) rfl (fun _ T => Zw (Zwy rfl rfl (T.e 1 rfl) (Zdt h2)) (Zrr (Mem.nth M 1 rfl) rfl (T.e 0 rfl) rfl)) rfl (fun _ T => Zw (Zwy rfl rfl (T.e 2 rfl) (Zdt h2)) (Zrf (off := 2) rfl (T.e 15 rfl) (fun _ _ _ => by kernel_rfl))) rfl (fun _ T => Zw (Zwy rfl rfl (T.e 3 rfl) (Zdt h2)) (Zrr (Mem.nth M 0 rfl) rfl (T.e 0 rfl) rfl)) rfl (fun _ T => Zw (Zwy rfl rfl (T.e 4 rfl) (Zdt h2)) (rn_bin rfl (T.e 2 rfl) (T.e 0 rfl) eqT26)) rfl (fun _ T => Zq (Zr1 rfl (T.e 5 rfl) (Zdt h2) (T.e 0 rfl))) rfl (Zm 0 rfl rfl) rfl ?_; clear T ac; intro ac T
    rcases Bool.eq_false_or_eq_true ((decide (s.a0 = t.a0)) && (decide (s.a1 = t.a1))) with h3 | h3
    ·refine Zg7 (v1 := (.pointer (some ⟨g1, 4, none⟩))) (v3 := (.pointer (some ⟨g2, 4, none⟩))) (v5 := (.bool ((decide (s.c0 = t.c0)) && (decide (s.c1 = t.c1))))) T (Zw (Zwy rfl rfl (T.e 0 rfl) h3) (Zrf (off := 4) rfl (T.e 21 rfl) (fun _ _ _ => by kernel_rfl))) rfl (fun _ T => Zw (Zwy rfl rfl (T.e 1 rfl) h3) (Zrr (Mem.nth M 1 rfl) rfl (T.e 0 rfl) rfl)) rfl (fun _ T => Zw (Zwy rfl rfl (T.e 2 rfl) h3) (Zrf (off := 4) rfl (T.e 22 rfl) (fun _ _ _ => by kernel_rfl))) rfl (fun _ T => Zw (Zwy rfl rfl (T.e 3 rfl) h3) (Zrr (Mem.nth M 0 rfl) rfl (T.e 0 rfl) rfl)) rfl (fun _ T => Zw (Zwy rfl rfl (T.e 4 rfl) h3) (rn_bin rfl (T.e 2 rfl) (T.e 0 rfl) eqT26)) rfl (fun _ T => Zq (Zr1 rfl (T.e 5 rfl) h3 (T.e 0 rfl))) rfl (Zm 0 rfl rfl) rfl ?_; clear T ac; intro ac T
     rcases Bool.eq_false_or_eq_true ((decide (s.c0 = t.c0)) && (decide (s.c1 = t.c1))) with h4 | h4
     ·refine Zg8 (v1 := (.pointer (some ⟨g1, 6, none⟩))) (v4 := (.pointer (some ⟨g2, 6, none⟩))) T (Zw (Zwy rfl rfl (T.e 0 rfl) h4) (Zrf (off := 6) rfl (T.e 28 rfl) (fun _ _ _ => by kernel_rfl))) rfl (fun _ T => Zw (Zwy rfl rfl (T.e 1 rfl) h4) (Zro (Mem.nth M 1 rfl) rfl (T.e 0 rfl) rfl)) rfl (fun _ T => Zw (Zwy rfl rfl (T.e 2 rfl) h4) (Zrl rfl Tryz.underlying47 (T.e 0 rfl))) rfl (fun _ T => Zw (Zwy rfl rfl (T.e 3 rfl) h4) (Zrf (off := 6) rfl (T.e 30 rfl) (fun _ _ _ => by kernel_rfl))) rfl (fun _ T => Zw (Zwy rfl rfl (T.e 4 rfl) h4) (Zro (Mem.nth M 0 rfl) rfl (T.e 0 rfl) rfl)) rfl (fun _ T => Zw (Zwy rfl rfl (T.e 5 rfl) h4) (Zrl rfl Tryz.underlying47 (T.e 0 rfl))) rfl (fun _ T => Zw (Zwy rfl rfl (T.e 6 rfl) h4) (rn_eql rfl (T.e 3 rfl) (T.e 0 rfl))) rfl (fun _ T => Zq (Zr1 rfl (T.e 7 rfl) h4 (T.e 0 rfl))) rfl ?_; clear T ac; intro ac T
      refine lq T (Zra rfl (T.e 0 rfl)) ?_; clear T ac; intro ac T
      refine wpList_nil ?_
      replace T := T.pick [0, 36, 37] rfl
      exact ⟨(T.pick (E' := [(2, .pointer (some ⟨g1, 0, none⟩)), (3, .pointer (some ⟨g2, 0, none⟩)), (5, .bool (decide (((s.ps.length : Nat) : Int) = ((t.ps.length : Nat) : Int))))]) [2, 1, 0] rfl).as (by (try rw [show (decide (s.lo = t.lo)) = true from (Zdt h1)]); (try rw [show (decide (s.wi = t.wi)) = true from (Zdt h2)]); (try rw [show ((decide (s.a0 = t.a0)) && (decide (s.a1 = t.a1))) = true from h3]); (try rw [show ((decide (s.c0 = t.c0)) && (decide (s.c1 = t.c1))) = true from h4]); (try rfl)), M.mask [true, true] rfl⟩
     refine Zg8 T (Zp (Zwn rfl rfl (T.e 0 rfl) h4)) rfl (fun _ T => Zp (Zwn rfl rfl (T.e 1 rfl) h4)) rfl (fun _ T => Zp (Zwn rfl rfl (T.e 2 rfl) h4)) rfl (fun _ T => Zp (Zwn rfl rfl (T.e 3 rfl) h4)) rfl (fun _ T => Zp (Zwn rfl rfl (T.e 4 rfl) h4)) rfl (fun _ T => Zp (Zwn rfl rfl (T.e 5 rfl) h4)) rfl (fun _ T => Zp (Zwn rfl rfl (T.e 6 rfl) h4)) rfl (fun _ T => Zq (Zr0 rfl (T.e 7 rfl) h4 evc)) rfl ?_; clear T ac; intro ac T
     refine lq T (Zra rfl (T.e 0 rfl)) ?_; clear T ac; intro ac T
     refine wpList_nil ?_
     replace T := T.pick [0, 36, 37] rfl
     exact ⟨(T.pick (E' := [(2, .pointer (some ⟨g1, 0, none⟩)), (3, .pointer (some ⟨g2, 0, none⟩)), (5, .bool false)]) [2, 1, 0] rfl).as (by (try rw [show (decide (s.lo = t.lo)) = true from (Zdt h1)]); (try rw [show (decide (s.wi = t.wi)) = true from (Zdt h2)]); (try rw [show ((decide (s.a0 = t.a0)) && (decide (s.a1 = t.a1))) = true from h3]); (try rw [show ((decide (s.c0 = t.c0)) && (decide (s.c1 = t.c1))) = false from h4]); (try rfl)), M.mask [true, true] rfl⟩
    refine Zg8 T (Zp (Zwn rfl rfl (T.e 0 rfl) h3)) rfl (fun _ T => Zp (Zwn rfl rfl (T.e 1 rfl) h3)) rfl (fun _ T => Zp (Zwn rfl rfl (T.e 2 rfl) h3)) rfl (fun _ T => Zp (Zwn rfl rfl (T.e 3 rfl) h3)) rfl (fun _ T => Zp (Zwn rfl rfl (T.e 4 rfl) h3)) rfl (fun _ T => Zq (Zr0 rfl (T.e 5 rfl) h3 evc)) rfl (Zm 0 rfl rfl) rfl (fun _ T => Zp (Zwn rfl rfl (T.e 0 rfl) rfl)) rfl ?_; clear T ac; intro ac T
    refine Zg8 T (Zp (Zwn rfl rfl (T.e 1 rfl) rfl)) rfl (fun _ T => Zp (Zwn rfl rfl (T.e 2 rfl) rfl)) rfl (fun _ T => Zp (Zwn rfl rfl (T.e 3 rfl) rfl)) rfl (fun _ T => Zp (Zwn rfl rfl (T.e 4 rfl) rfl)) rfl (fun _ T => Zp (Zwn rfl rfl (T.e 5 rfl) rfl)) rfl (fun _ T => Zp (Zwn rfl rfl (T.e 6 rfl) rfl)) rfl (fun _ T => Zq (Zr0 rfl (T.e 7 rfl) rfl evc)) rfl (Za 0 rfl rfl) rfl ?_; clear T ac; intro ac T
    refine wpList_nil ?_
    replace T := T.pick [0, 36, 37] rfl
    exact ⟨(T.pick (E' := [(2, .pointer (some ⟨g1, 0, none⟩)), (3, .pointer (some ⟨g2, 0, none⟩)), (5, .bool false)]) [2, 1, 0] rfl).as (by (try rw [show (decide (s.lo = t.lo)) = true from (Zdt h1)]); (try rw [show (decide (s.wi = t.wi)) = true from (Zdt h2)]); (try rw [show ((decide (s.a0 = t.a0)) && (decide (s.a1 = t.a1))) = false from h3]); (try rfl)), M.mask [true, true] rfl⟩
   replace h2 := of_decide_eq_false h2
   refine Zg8 T (Zp (Zwn rfl rfl (T.e 0 rfl) (Zdf h2))) rfl (fun _ T => Zp (Zwn rfl rfl (T.e 1 rfl) (Zdf h2))) rfl (fun _ T => Zp (Zwn rfl rfl (T.e 2 rfl) (Zdf h2))) rfl (fun _ T => Zp (Zwn rfl rfl (T.e 3 rfl) (Zdf h2))) rfl (fun _ T => Zp (Zwn rfl rfl (T.e 4 rfl) (Zdf h2))) rfl (fun _ T => Zq (Zr0 rfl (T.e 5 rfl) (Zdf h2) evc)) rfl (Zm 0 rfl rfl) rfl (fun _ T => Zp (Zwn rfl rfl (T.e 0 rfl) rfl)) rfl ?_; clear T ac; intro ac T
   refine Zg8 T (Zp (Zwn rfl rfl (T.e 1 rfl) rfl)) rfl (fun _ T => Zp (Zwn rfl rfl (T.e 2 rfl) rfl)) rfl (fun _ T => Zp (Zwn rfl rfl (T.e 3 rfl) rfl)) rfl (fun _ T => Zp (Zwn rfl rfl (T.e 4 rfl) rfl)) rfl (fun _ T => Zq (Zr0 rfl (T.e 5 rfl) rfl evc)) rfl (Zm 0 rfl rfl) rfl (fun _ T => Zp (Zwn rfl rfl (T.e 0 rfl) rfl)) rfl (fun _ T => Zp (Zwn rfl rfl (T.e 1 rfl) rfl)) rfl ?_; clear T ac; intro ac T
   refine Zg7 T (Zp (Zwn rfl rfl (T.e 2 rfl) rfl)) rfl (fun _ T => Zp (Zwn rfl rfl (T.e 3 rfl) rfl)) rfl (fun _ T => Zp (Zwn rfl rfl (T.e 4 rfl) rfl)) rfl (fun _ T => Zp (Zwn rfl rfl (T.e 5 rfl) rfl)) rfl (fun _ T => Zp (Zwn rfl rfl (T.e 6 rfl) rfl)) rfl (fun _ T => Zq (Zr0 rfl (T.e 7 rfl) rfl evc)) rfl (Za 0 rfl rfl) rfl ?_; clear T ac; intro ac T
   refine wpList_nil ?_
   replace T := T.pick [0, 36, 37] rfl
   exact ⟨(T.pick (E' := [(2, .pointer (some ⟨g1, 0, none⟩)), (3, .pointer (some ⟨g2, 0, none⟩)), (5, .bool false)]) [2, 1, 0] rfl).as (by (try rw [show (decide (s.lo = t.lo)) = true from (Zdt h1)]); (try rw [show (decide (s.wi = t.wi)) = false from (Zdf h2)]); (try rfl)), M.mask [true, true] rfl⟩
  replace h1 := of_decide_eq_false h1
  refine Zg8 T (Zp (Zwn rfl rfl (T.e 0 rfl) (Zdf h1))) rfl (fun _ T => Zp (Zwn rfl rfl (T.e 1 rfl) (Zdf h1))) rfl (fun _ T => Zp (Zwn rfl rfl (T.e 2 rfl) (Zdf h1))) rfl (fun _ T => Zp (Zwn rfl rfl (T.e 3 rfl) (Zdf h1))) rfl (fun _ T => Zp (Zwn rfl rfl (T.e 4 rfl) (Zdf h1))) rfl (fun _ T => Zq (Zr0 rfl (T.e 5 rfl) (Zdf h1) evc)) rfl (Zm 0 rfl rfl) rfl (fun _ T => Zp (Zwn rfl rfl (T.e 0 rfl) rfl)) rfl ?_; clear T ac; intro ac T
  refine Zg8 T (Zp (Zwn rfl rfl (T.e 1 rfl) rfl)) rfl (fun _ T => Zp (Zwn rfl rfl (T.e 2 rfl) rfl)) rfl (fun _ T => Zp (Zwn rfl rfl (T.e 3 rfl) rfl)) rfl (fun _ T => Zp (Zwn rfl rfl (T.e 4 rfl) rfl)) rfl (fun _ T => Zq (Zr0 rfl (T.e 5 rfl) rfl evc)) rfl (Zm 0 rfl rfl) rfl (fun _ T => Zp (Zwn rfl rfl (T.e 0 rfl) rfl)) rfl (fun _ T => Zp (Zwn rfl rfl (T.e 1 rfl) rfl)) rfl ?_; clear T ac; intro ac T
  refine Zg8 T (Zp (Zwn rfl rfl (T.e 2 rfl) rfl)) rfl (fun _ T => Zp (Zwn rfl rfl (T.e 3 rfl) rfl)) rfl (fun _ T => Zp (Zwn rfl rfl (T.e 4 rfl) rfl)) rfl (fun _ T => Zq (Zr0 rfl (T.e 5 rfl) rfl evc)) rfl (Zm 0 rfl rfl) rfl (fun _ T => Zp (Zwn rfl rfl (T.e 0 rfl) rfl)) rfl (fun _ T => Zp (Zwn rfl rfl (T.e 1 rfl) rfl)) rfl (fun _ T => Zp (Zwn rfl rfl (T.e 2 rfl) rfl)) rfl ?_; clear T ac; intro ac T
  refine Zg6 T (Zp (Zwn rfl rfl (T.e 3 rfl) rfl)) rfl (fun _ T => Zp (Zwn rfl rfl (T.e 4 rfl) rfl)) rfl (fun _ T => Zp (Zwn rfl rfl (T.e 5 rfl) rfl)) rfl (fun _ T => Zp (Zwn rfl rfl (T.e 6 rfl) rfl)) rfl (fun _ T => Zq (Zr0 rfl (T.e 7 rfl) rfl evc)) rfl (Za 0 rfl rfl) rfl ?_; clear T ac; intro ac T
  refine wpList_nil ?_
  replace T := T.pick [0, 36, 37] rfl
  exact ⟨(T.pick (E' := [(2, .pointer (some ⟨g1, 0, none⟩)), (3, .pointer (some ⟨g2, 0, none⟩)), (5, .bool false)]) [2, 1, 0] rfl).as (by (try rw [show (decide (s.lo = t.lo)) = false from (Zdf h1)]); (try rfl)), M.mask [true, true] rfl⟩
 clear T M
 rintro ac wc ⟨T, M⟩
 refine wp_seq ?_
 refine Zsr ?_
 refine lq T (Zra rfl evc) ?_; clear T ac; intro ac T
 refine Zln ?_
 refine wp_block ?_
 refine wp_loop_n (fun mz ac wc => ∃ (i : Nat) (sm : Bool), mz = s.ps.length - i ∧ (i ≤ s.ps.length) ∧ (sm = true ↔ eqF s t ∧ s.ps.take i = t.ps.take i) ∧ Tm ac 64 [(2, .pointer (some ⟨g1, 0, none⟩)), (3, .pointer (some ⟨g2, 0, none⟩)), (5, .bool sm), (6, .int .i64 (i : Int))] ∧ Mem w noEx wc [(g2, .cells [.int .i64 t.lo, .int .i64 t.wi, .int .i64 t.a0, .int .i64 t.a1, .int .i64 t.c0, .int .i64 t.c1, .slice B t.ps.length d]), (g1, .cells [.int .i64 s.lo, .int .i64 s.wi, .int .i64 s.a0, .int .i64 s.a1, .int .i64 s.c0, .int .i64 s.c1, .slice A s.ps.length c])]) ?_ ?_
 ·exact ⟨_, 0, _, rfl, (Nat.zero_le _), (by unfold eqF; simp [and_assoc, Int.natCast_inj]), T.pick [1, 2, 3, 0] rfl, M.mask [true, true] rfl⟩
 clear T M
 rintro mz ac wc ⟨i, sm, hmm1, hi, hs, T, M⟩
 refine wp_seq ?_
 refine cut_seq (fun ac wc => Tm ac 64 [(2, .pointer (some ⟨g1, 0, none⟩)), (3, .pointer (some ⟨g2, 0, none⟩)), (5, .bool sm), (6, .int .i64 (i : Int)), (49, .bool (sm && (decide ((i : Int) < ((s.ps.length : Nat) : Int)))))] ∧ Mem w noEx wc [(g2, .cells [.int .i64 t.lo, .int .i64 t.wi, .int .i64 t.a0, .int .i64 t.a1, .int .i64 t.c0, .int .i64 t.c1, .slice B t.ps.length d]), (g1, .cells [.int .i64 s.lo, .int .i64 s.wi, .int .i64 s.a0, .int .i64 s.a1, .int .i64 s.c0, .int .i64 s.c1, .slice A s.ps.length c])]) ?_ ?_
 ·refine wp_region_lit ?_
  refine Zg2 T (Zq (Zrm rfl (T.e 2 rfl))) rfl (Zm 0 rfl rfl) rfl ?_; clear T ac; intro ac T
  rcases Bool.eq_false_or_eq_true sm with h5 | h5
  ·refine Zg6 (v2 := (.pointer (some ⟨g1, 6, none⟩))) T (Zw (Zwy rfl rfl (T.e 0 rfl) h5) (Zrm rfl (T.e 5 rfl))) rfl (fun _ T => Zw (Zwy rfl rfl (T.e 1 rfl) h5) (Zrf (off := 6) rfl (T.e 3 rfl) (fun _ _ _ => by kernel_rfl))) rfl (fun _ T => Zw (Zwy rfl rfl (T.e 2 rfl) h5) (Zro (Mem.nth M 1 rfl) rfl (T.e 0 rfl) rfl)) rfl (fun _ T => Zw (Zwy rfl rfl (T.e 3 rfl) h5) (Zrl rfl Tryz.underlying47 (T.e 0 rfl))) rfl (fun _ T => Zw (Zwy rfl rfl (T.e 4 rfl) h5) (rn_lss rfl (T.e 3 rfl) (T.e 0 rfl))) rfl (fun _ T => Zq (Zr1 rfl (T.e 5 rfl) h5 (T.e 0 rfl))) rfl ?_; clear T ac; intro ac T
   refine wpList_nil ?_
   replace T := T.pick [0, 1, 2, 3, 4, 5, 8, 9, 10, 11] rfl
   exact ⟨(T.pick (E' := [(2, .pointer (some ⟨g1, 0, none⟩)), (3, .pointer (some ⟨g2, 0, none⟩)), (5, .bool sm), (6, .int .i64 (i : Int)), (49, .bool (decide ((i : Int) < ((s.ps.length : Nat) : Int))))]) [6, 7, 8, 9, 0] rfl).as (by (try rw [show sm = true from h5]); (try rfl)), M.mask [true, true] rfl⟩
  refine Zg6 T (Zp (Zwn rfl rfl (T.e 0 rfl) h5)) rfl (fun _ T => Zp (Zwn rfl rfl (T.e 1 rfl) h5)) rfl (fun _ T => Zp (Zwn rfl rfl (T.e 2 rfl) h5)) rfl (fun _ T => Zp (Zwn rfl rfl (T.e 3 rfl) h5)) rfl (fun _ T => Zp (Zwn rfl rfl (T.e 4 rfl) h5)) rfl (fun _ T => Zq (Zr0 rfl (T.e 5 rfl) h5 evc)) rfl ?_; clear T ac; intro ac T
  refine wpList_nil ?_
  replace T := T.pick [0, 1, 2, 3, 4, 5, 8, 9, 10, 11] rfl
  exact ⟨(T.pick (E' := [(2, .pointer (some ⟨g1, 0, none⟩)), (3, .pointer (some ⟨g2, 0, none⟩)), (5, .bool sm), (6, .int .i64 (i : Int)), (49, .bool false)]) [6, 7, 8, 9, 0] rfl).as (by (try rw [show sm = false from h5]); (try rfl)), M.mask [true, true] rfl⟩
 clear T M
 rintro ac wc ⟨T, M⟩
 refine wp_cond_split (T.e 4 rfl) ?_ ?_
 ·intro h6
  (have h6' := h6; try simp only [Zb1, Zb2, Zb3, Zb4, Zb5, Zb6, Zb7] at h6')
  have hlr : sm = true ∧ i < s.ps.length := by simpa using h6
  have heF := (hs.1 hlr.1).1
  have hlen := heF.2.2.2.2
  have htk := (hs.1 hlr.1).2
  obtain ⟨p, hkp, -⟩ := pc_next (l := s.ps) (k := i) (by omega)
  obtain ⟨q, hkq, -⟩ := pc_next (l := t.ps) (k := i) (by omega)
  refine Zsk ?_
  refine wp_seq ?_
  refine wp_block ?_
  refine Zgs M (M.mask [true, true] rfl) 12 (by kernel_rfl) rfl (by kernel_rfl) ?_
  clear M; intro wc M
  refine gq (v := (.pointer (some ⟨g1, 6, none⟩))) T 0 1 rfl (fun _ _ _ _ _ => (Zrf (off := 6) rfl (T.e 0 rfl) (fun _ _ _ => by kernel_rfl))) ?_; clear T ac; intro ac T
  refine gq T 1 3 rfl (fun B w' hD hl hS => (Zro (Mem.nth (show Mem w noEx w' _ from hS) 1 rfl) rfl (T.e 0 rfl) rfl)) ?_; clear T ac; intro ac T
  refine gq T 2 7 rfl (fun _ _ _ _ _ => (Zrm rfl (T.e 5 rfl))) ?_; clear T ac; intro ac T
  refine gq T 3 15 rfl (fun _ _ _ _ _ => (Zri (size := 4) i rfl (T.e 1 rfl) (T.e 0 rfl) ⟨_, Tryz.underlying47, by kernel_rfl⟩ rfl (by omega) (SA.at0 (by omega)))) ?_; clear T ac; intro ac T
  refine gq (v := (.agg #[.int .i64 p.l, .int .i64 p.w, .bool p.gr, .int .i64 p.pa])) T 4 31 rfl (fun B w' hD hl hS => (rn_rowat (Sp.pcR SA (show Mem w noEx w' _ from hS) (Zz9 _) hkp) rfl (T.e 0 rfl) rfl)) ?_; clear T ac; intro ac T
  refine gq (v := (.pointer (some ⟨g2, 6, none⟩))) T 5 63 rfl (fun _ _ _ _ _ => (Zrf (off := 6) rfl (T.e 6 rfl) (fun _ _ _ => by kernel_rfl))) ?_; clear T ac; intro ac T
  refine gq T 6 127 rfl (fun B w' hD hl hS => (Zro (Mem.nth (show Mem w noEx w' _ from hS) 0 rfl) rfl (T.e 0 rfl) rfl)) ?_; clear T ac; intro ac T
  refine gq T 7 255 rfl (fun _ _ _ _ _ => (Zrm rfl (T.e 10 rfl))) ?_; clear T ac; intro ac T
  refine gq T 8 511 rfl (fun _ _ _ _ _ => (Zri (size := 4) i rfl (T.e 1 rfl) (T.e 0 rfl) ⟨_, Tryz.underlying47, by kernel_rfl⟩ rfl (by omega) (SB.at0 (by omega)))) ?_; clear T ac; intro ac T
  refine gq (v := (.agg #[.int .i64 q.l, .int .i64 q.w, .bool q.gr, .int .i64 q.pa])) T 9 1023 rfl (fun B w' hD hl hS => (rn_rowat (Sp.pcR SB (show Mem w noEx w' _ from hS) (Zz9 _) hkq) rfl (T.e 0 rfl) rfl)) ?_; clear T ac; intro ac T
  refine gq (v := (.bool ((decide (p.l = q.l)) && ((decide (p.w = q.w)) && ((decide (p.gr = q.gr)) && (decide (p.pa = q.pa))))))) T 10 2047 rfl (fun _ _ _ _ _ => (rn_bin rfl (T.e 5 rfl) (T.e 0 rfl) eqT119)) ?_; clear T ac; intro ac T
  refine g_q (v := (.bool ((decide (p.l = q.l)) && ((decide (p.w = q.w)) && ((decide (p.gr = q.gr)) && (decide (p.pa = q.pa))))))) (T := T.pick [0, 1, 2, 3, 4, 5, 6, 7, 8, 9, 10, 11, 12, 14, 15] rfl) (i := 11) rfl (by kernel_rfl) (by kernel_rfl : (Zpb 12 2047).setIfInBounds 11 true = Zpb 12 4095) si_U (fun _ _ _ h => h) rfl rfl rfl rfl (fun _ _ _ _ _ => (Zra rfl (T.e 0 rfl))) ?_; clear T ac; intro ac T
  refine Zgd (by kernel_rfl) ?_
  replace T := T.pick [0, 12, 13, 14] rfl
  refine Znb ?_
  refine nm_then ?_
  refine wp_region_lit ?_
  refine Zg2 T (Zq (Zrm rfl (T.e 3 rfl))) rfl (fun _ T => Zq (rn_add rfl (T.e 0 rfl) evc (by omega))) rfl ?_; clear T ac; intro ac T
  refine l_q (v := (.int .i64 ((i : Int) + 1))) (T.pick [0, 1, 2, 3, 4] rfl) rfl rfl rfl rfl (Zra rfl (T.e 0 rfl)) ?_; clear T ac; intro ac T
  replace T := T.pick [0, 3, 4, 5] rfl
  refine Zln ?_
  exact ⟨_, by omega, i + 1, ((decide (p.l = q.l)) && ((decide (p.w = q.w)) && ((decide (p.gr = q.gr)) && (decide (p.pa = q.pa))))), rfl, (by omega), (by rw [take_same hkp hkq]; cases p; cases q; simp [heF, htk]), T.pick [2, 3, 1, 0] rfl, M.mask [true, true] rfl⟩
 intro h6
 (have h6' := h6; try simp only [Zb1, Zb2, Zb3, Zb4, Zb5, Zb6, Zb7] at h6')
 refine wp_exit ?_
 refine Zet ?_
 refine Zet ?_
 refine ex_hit ?_
 refine nm_then ?_
 refine Zsr ?_
 refine Zg2 T (Zq (Zrm rfl (T.e 2 rfl))) rfl (Za 0 rfl rfl) rfl ?_; clear T ac; intro ac T
 refine wpList_nil ?_
 replace T := T.pick [0] rfl
 replace M := M.mask [false, false] rfl
 refine Znr ?_
 refine rt_1 T rfl (T.e 0 rfl) ?_
 have e9 : sm = decide (s = t) := by
   rw [Bool.eq_iff_iff, decide_eq_true_eq]
   constructor
   · intro hsm
     obtain ⟨⟨k1, k2, ⟨k3, k4⟩, ⟨k5, k6⟩, k7⟩, k8⟩ := hs.1 hsm
     have hi9 : ¬ i < s.ps.length := by simpa [hsm] using h6
     rw [List.take_of_length_le (by omega), List.take_of_length_le (by omega)] at k8
     cases s; cases t; simp_all
   · rintro rfl
     exact hs.2 ⟨⟨rfl, rfl, ⟨rfl, rfl⟩, ⟨rfl, rfl⟩, rfl⟩, rfl⟩
 rw [e9]
 exact ⟨rfl, M.below⟩
end Go.Proofs.YtaikhendogcflaaGreatDoor


/-
  Walks of functions,and plain laws (texts put together). No condition.
-/
import Derived.Conc.Beside
import Derived.Conc.CrowdTrace
import Derived.Conc.CrowdComm
import Derived.Conc.CompanyWords
import GoSem.Extern.RuntimeError
import Derived.Test.YtoheddpnnjldgaaRows
import Derived.WalkKit
import Derived.WalkSpells
import Derived.WalkLawsBesides
import Derived.Handy
import Derived.Lib.Hide
import Derived.Deep.Draws
import Derived.Deep.MidRow
import Derived.Deep.AppendLies
import Derived.Deep.RegionHeld3
import Derived.Deep.DrawnRows
import Derived.ProofKit
import Derived.OpenShut
import Derived.WideKeyArgs
import Derived.Carry
import Derived.IntWalk
import Derived.LoopN
import Derived.Conc.AppendEvents3
import Derived.Conc.EventLaws2
import Derived.RangeFuncNested
import Derived.RangeFuncBound
import Derived.RangeFuncCalls
import Derived.RangeFuncLeaves
import Derived.Shelf.Abstract
import Derived.Shelf.RegionOpen
import Derived.OwnWalkIn
import Derived.TacticsInMore
import Derived.LoopNIn
import Derived.LoopIn
import Derived.Conc.LeavingOf
import Derived.Test.YtoheddpnnjldgaaMBellowTurned1
set_option maxRecDepth 100000
set_option maxHeartbeats 1000000
set_option linter.unusedSimpArgs false
set_option linter.unusedVariables false
set_option linter.unusedSectionVars false
namespace Go.Proofs.Ytoheddpnnjldgaa
open Go.RowKit
end Go.Proofs.Ytoheddpnnjldgaa
section
namespace Go.Proofs.Ytoheddpnnjldgaa.Bi
open Go Go.Conc
open Go.ConcN (PermW fork_knows)
set_option maxHeartbeats 1000000
def inB (S:Nat→Prop):Loc→Prop
 | .cell a=>S a.block
 | .obj r=>S r
 | _=>False
theorem inB_low {S:Nat→Prop} {B:Nat} {l:Loc} (h:inB S l) (hS:∀ b,S b→B≤b) : ¬ l.low B:=by
 cases l <;> first | exact h.elim | exact Nat.not_lt.2 (hS _ h)
theorem inB_mono {S S':Nat→Prop} {l:Loc} (h:inB S l) (hs:∀ b,S b→S' b):inB S' l:=by
 cases l <;> first | exact h.elim | exact hs _ h
theorem inB_or {S S':Nat→Prop} {l:Loc} (h:inB (fun b=>S b∨S' b) l):inB S l∨inB S' l:=by
 cases l <;> first | exact h.elim | exact h
structure Two (p:Nat) (W Rd:Nat→Prop) (B:Nat) (t:Trace):Prop where
 clean:∀ said,¬ Race said t
 own:∀ l,inB W l→Perm t p l
 rd:∀ l,inB Rd l→PermW t p l
 free:∀ l,l.isMemory=true→¬ inB W l→¬ inB Rd l→Perm t 0 l
 mine:∀ l,l.isMemory=true→¬ inB W l→PermW t 0 l
 known:∀ i a,touchAt t i=some a→a.loc.isMemory=true→Knows t 0 i∨∃ x,t[i]? = some x∧x.g=p
 over:∀ i g,t.g? i=some g→g≠0→g≠p→t.counts i→∃ j,t.g? j=some 0∧HappensBefore t i j
 hears:Deaf t 0=0
 seen:∀ op∈t,op.act.low B
section
variable {p:Nat} {W Rd:Nat→Prop} {B:Nat} {t u:Trace}
theorem Two.mono {B':Nat} (h:Two p W Rd B t) (hB:B≤B'):Two p W Rd B' t:={ h with seen:=fun op hop=>MemAct.low_mono hB (h.seen op hop) }
theorem low_touch {x:MemAct} {y:Touch} (h:x.low B) (hx:x.touch? = some y):y.loc.low B:=by
 cases x with
 | access e=>cases hx;exact h
 | mark m=>cases m <;> first | (cases hx;exact h) | cases hx
 | _=>cases hx
theorem Two.grow {W':Nat→Prop} (h:Two p W Rd B t) (hW:∀ b,W b→W' b) (hn:∀ b,W' b→W b∨B≤b):Two p W' Rd B t:=by
 refine { h with own:=fun l hl i a ha e=>?_,free:=fun l hm hl hr=>h.free l hm (fun x=>hl (inB_mono x hW)) hr,mine:=fun l hm hl=>h.mine l hm fun x=>hl (inB_mono x hW) }
 rcases inB_or (inB_mono hl hn) with h1 | h1
 ·exact h.own l h1 i a ha e
 ·obtain ⟨x,hx,hxa⟩:=touch_of ha
  have hlo:=low_touch (h.seen x (Array.mem_of_getElem? hx)) hxa
  exact absurd (e ▸ hlo) (inB_low h1 fun b hb=>hb)
theorem over_app (hne:∀ op∈u,op.g=0∨op.g=p∨op.act.touch? = none) (h:∀ i g,t.g? i=some g→g≠0→g≠p→t.counts i→∃ j,t.g? j=some 0∧HappensBefore t i j) :
  ∀ i g,(t++u).g? i=some g→g≠0→g≠p→(t++u).counts i→∃ j,(t++u).g? j=some 0∧HappensBefore (t++u) i j:=by
 intro i g hg h0 hp hc
 obtain ⟨x,hx,hrest⟩:=hc
 obtain ⟨op,hop,hox⟩:=touch_of hx
 rcases getElem?_append_cases hop with ⟨hi,hop'⟩ | ⟨_,hopu⟩
 ·obtain ⟨j,hj,hb⟩:=h i g (by simpa [Trace.g?,getElem?_append_old hi] using hg) h0 hp ((counts_old hi).1 ⟨x,hx,hrest⟩)
  have hjl:j < t.size:=by
   unfold Trace.g? at hj
   obtain ⟨z,hz,_⟩:=Option.map_eq_some_iff.1 hj
   exact lt_size_of_getElem? hz
  exact ⟨j,by simpa [Trace.g?,getElem?_append_old hjl] using hj,hb_app u hb⟩
 ·have hgg:op.g=g:=by simpa [Trace.g?,hop] using hg
  rcases hne op hopu with h1 | h1 | h1
  ·exact absurd (hgg.symm.trans h1) h0
  ·exact absurd (hgg.symm.trans h1) hp
  ·rw [h1] at hox;cases hox
def Ok0 (W Rd:Nat→Prop) (op:MemOp):Prop:=op.g=0∧∀ x,op.act.touch? = some x→¬ inB W x.loc∧(x.write=true→¬ inB Rd x.loc)
def OkP (p:Nat) (W Rd:Nat→Prop) (op:MemOp):Prop:=op.g=p∧∀ x,op.act.touch? = some x→inB W x.loc∨(inB Rd x.loc∧x.write=false)
theorem Two.app0 (h:Two p W Rd B t) (hu:∀ op∈u,Ok0 W Rd op) (hl:∀ op∈u,op.act.low B) (hd:Deaf (t++u) 0=Deaf t 0):Two p W Rd B (t++u):=by
 refine ⟨fun said=>noRace_append (h.clean said) (fun op hop=>(hu op hop).1) fun i a ha op hop b hb hc=>?_,fun l hl=>(h.own l hl).app fun op hop b hb e=>absurd (e ▸ hl) ((hu op hop).2 b hb).1,
  fun l hl=>(h.rd l hl).app fun op hop b hb e hw=>absurd (e ▸ hl) (((hu op hop).2 b hb).2 hw),fun l hm h1 h2=>(h.free l hm h1 h2).app fun op hop _ _ _=>(hu op hop).1,fun l hm h1=>(h.mine l hm h1).app fun op hop _ _ _ _=>(hu op hop).1,
  fun i a ha hm=>?_,over_app (fun op hop=>.inl (hu op hop).1) h.over,hd.trans h.hears,seen_app h.seen hl⟩
 ·obtain ⟨h1,h2⟩:=(hu op hop).2 b hb
  have hm:b.loc.isMemory=true:=hc.1 ▸ hc.2.1
  cases hbw:b.write with
  | true=>exact h.free b.loc hm h1 (h2 hbw) i a ha hc.1
  | false=>exact h.mine b.loc hm h1 i a ha hc.1 (hc.2.2.1.resolve_right (by simp [hbw]))
 ·obtain ⟨x,hx,hxa⟩:=touch_of ha
  rcases getElem?_append_cases hx with ⟨_,hx'⟩ | ⟨_,hxu⟩
  ·exact (h.known i a (by rw [touchAt_of hx'];exact hxa) hm).imp (·.app u) fun ⟨y,hy,hg⟩=>⟨x,hx,by rw [hx'] at hy;cases hy;exact hg⟩
  ·have:=knows_own hx
   rw [(hu x hxu).1] at this
   exact .inl this
theorem Two.appP (h:Two p W Rd B t) (hu:∀ op∈u,OkP p W Rd op) (hl:∀ op∈u,op.act.low B) (hd:Deaf (t++u) 0=Deaf t 0):Two p W Rd B (t++u):=by
 refine ⟨fun said=>noRace_append (h.clean said) (fun op hop=>(hu op hop).1) fun i a ha op hop b hb hc=>?_,fun l hl=>(h.own l hl).app fun op hop _ _ _=>(hu op hop).1,
  fun l hl=>(h.rd l hl).app fun op hop _ _ _ _=>(hu op hop).1,fun l hm h1 h2=>(h.free l hm h1 h2).app fun op hop b hb e=>?_,fun l hm h1=>(h.mine l hm h1).app fun op hop b hb e hw=>?_,
  fun i a ha hm=>?_,over_app (fun op hop=>.inr (.inl (hu op hop).1)) h.over,hd.trans h.hears,seen_app h.seen hl⟩
 ·rcases (hu op hop).2 b hb with h1 | ⟨h1,h2⟩
  ·exact h.own b.loc h1 i a ha hc.1
  ·exact h.rd b.loc h1 i a ha hc.1 (hc.2.2.1.resolve_right (by simp [h2]))
 ·rcases (hu op hop).2 b hb with h3 | ⟨h3,_⟩
  ·exact absurd (e ▸ h3) h1
  ·exact absurd (e ▸ h3) h2
 ·rcases (hu op hop).2 b hb with h3 | ⟨_,h3⟩
  ·exact absurd (e ▸ h3) h1
  ·rw [h3] at hw;cases hw
 ·obtain ⟨x,hx,hxa⟩:=touch_of ha
  rcases getElem?_append_cases hx with ⟨_,hx'⟩ | ⟨_,hxu⟩
  ·exact (h.known i a (by rw [touchAt_of hx'];exact hxa) hm).imp (·.app u) fun ⟨y,hy,hg⟩=>⟨x,hx,by rw [hx'] at hy;cases hy;exact hg⟩
  ·exact .inr ⟨x,hx,(hu x hxu).1⟩
theorem Two.mute (h:Two p W Rd B t) {g:Nat} (hu:∀ op∈u,op.g=g) (hn:∀ op∈u,op.act.touch? = none) (hl:∀ op∈u,op.act.low B) (hd:Deaf (t++u) 0=Deaf t 0):Two p W Rd B (t++u):=by
 refine ⟨fun said=>noRace_append (h.clean said) hu fun i a ha op hop b hb hc=>?_,fun l hl=>(h.own l hl).app fun op hop b hb _=>?_,fun l hl=>(h.rd l hl).app fun op hop b hb _ _=>?_,fun l hm h1 h2=>(h.free l hm h1 h2).app fun op hop b hb _=>?_,
  fun l hm h1=>(h.mine l hm h1).app fun op hop b hb _ _=>?_,fun i a ha hm=>?_,over_app (fun op hop=>.inr (.inr (hn op hop))) h.over,hd.trans h.hears,seen_app h.seen hl⟩
 iterate 5 (rw [hn op hop] at hb;cases hb)
 ·obtain ⟨x,hx,hxa⟩:=touch_of ha
  rcases getElem?_append_cases hx with ⟨_,hx'⟩ | ⟨_,hxu⟩
  ·exact (h.known i a (by rw [touchAt_of hx'];exact hxa) hm).imp (·.app u) fun ⟨y,hy,hg⟩=>⟨x,hx,by rw [hx'] at hy;cases hy;exact hg⟩
  ·rw [hn x hxu] at hxa;cases hxa
theorem two_fork (h:Past (fun _=>False) B t) {x y:MemOp} (hx:x.g=0∧x.act=.go p) (hy:y.g=p∧y.act=.start) (hk:Deaf t p=0):Two p W Rd B (t++#[x,y]):=by
 have hnt:∀ op∈#[x,y],op.act.touch? = none:=by
  intro op hop
  simp only [List.mem_toArray,List.mem_cons,List.not_mem_nil,or_false] at hop
  rcases hop with rfl | rfl
  ·rw [hx.2];rfl
  ·rw [hy.2];rfl
 have hlow:∀ op∈#[x,y],op.act.low B:=by
  intro op hop
  simp only [List.mem_toArray,List.mem_cons,List.not_mem_nil,or_false] at hop
  rcases hop with rfl | rfl
  ·rw [hx.2];trivial
  ·rw [hy.2];trivial
 have old:∀ {i:Nat} {a:Touch},touchAt (t++#[x,y]) i=some a→touchAt t i=some a:=by
  intro i a ha
  obtain ⟨z,hz,hza⟩:=touch_of ha
  rcases getElem?_append_cases hz with ⟨_,hz'⟩ | ⟨_,hzu⟩
  ·rw [touchAt_of hz'];exact hza
  ·rw [hnt z hzu] at hza;cases hza
 have h0:∀ i a,touchAt t i=some a→a.loc.isMemory=true→Knows t 0 i:=fun i a ha hm=>(h.known i a ha hm).resolve_right fun ⟨f,_⟩=>f
 have hdf:∀ g,Deaf (t++#[x,y]) g=Deaf t g:=by
  intro g
  have e:t++#[x,y]=t++[x,y].toArray:=rfl
  rw [e,Deaf_append]
  simp [deafStep,hx.2,hy.2]
 have mem:∀ {S:Nat→Prop} {l:Loc},inB S l→l.isMemory=true:=by
  intro S l hl
  cases l <;> first | rfl | exact hl.elim
 refine ⟨fun said=>?_,fun l hl i a ha e=>fork_knows hx hy h.hears hk (h0 i a (old ha) (e ▸ mem hl)),fun l hl i a ha e _=>fork_knows hx hy h.hears hk (h0 i a (old ha) (e ▸ mem hl)),
  fun l hm _ _ i a ha e=>(h0 i a (old ha) (e ▸ hm)).app _,fun l hm _ i a ha e _=>(h0 i a (old ha) (e ▸ hm)).app _,fun i a ha hm=>.inl ((h0 i a (old ha) hm).app _),
  over_app (fun op hop=>.inr (.inr (hnt op hop))) (fun i g hg h1 _ hc=>h.over i g hg h1 hc),(hdf 0).trans h.hears,seen_app h.seen hlow⟩
 have e:t++#[x,y]=(t++#[x])++#[y]:=by apply Array.ext';simp
 rw [e]
 refine noRace_append (g:=p) (noRace_append (g:=0) (h.clean said) (fun op hop=>by simp at hop;rw [hop];exact hx.1) fun i a _ op hop b hb _=>?_) (fun op hop=>by simp at hop;rw [hop];exact hy.1) fun i a _ op hop b hb _=>?_
 ·rw [hnt op (by simp at hop ⊢;exact .inl hop)] at hb;cases hb
 ·rw [hnt op (by simp at hop ⊢;exact .inr hop)] at hb;cases hb
theorem two_end (h:Two p W Rd B t) (hp:p≠0) {pc pr c:Nat} {x y:MemOp} (hx:t[pc]? = some x) (hxg:x.g=p) (hxa:x.act=.close c) (hy:t[pr]? = some y) (hyg:y.g=0) (hya:y.act=.recvClosed c) (hhx:t.heard pc) (hhy:t.heard pr)
  (hlast:∀ i z,t[i]? = some z→z.g=p→z.act.touch?≠none→i < pc):Past (fun _=>False) B t:=by
 have edge:HappensBefore t pc pr:=.single (.inr ⟨.closed (by rw [act?_of hx,hxa]) (by rw [act?_of hy,hya]),hhx,hhy⟩)
 have hk:∀ i z,t[i]? = some z→z.g=p→z.act.touch?≠none→HappensBefore t i pr:=fun i z hz hg hn =>
  .trans (.single (.inl ⟨hlast i z hz hg hn,p,by simp [Trace.g?,hz,hg],by simp [Trace.g?,hx,hxg]⟩)) edge
 refine ⟨h.clean,fun i a ha hm=>.inl ?_,fun i g hg h0 hc=>?_,h.hears,h.seen⟩
 ·rcases h.known i a ha hm with h1 | ⟨z,hz,hg⟩
  ·exact h1
  ·obtain ⟨z',hz',hza⟩:=touch_of ha
   rw [hz] at hz'
   cases hz'
   exact ⟨pr,y,hy,hyg,.inr (hk i z hz hg (by rw [hza];simp))⟩
 ·by_cases hgp:g=p
  ·obtain ⟨z,hz,hzg⟩:=Option.map_eq_some_iff.1 hg
   obtain ⟨b,hb,-⟩:=hc
   obtain ⟨z',hz',hza⟩:=touch_of hb
   rw [hz] at hz'
   cases hz'
   exact ⟨pr,by simp [Trace.g?,hy,hyg],hk i z hz (hzg.trans hgp) (by rw [hza];simp)⟩
  ·exact h.over i g hg h0 hgp hc
end
end Go.Proofs.Ytoheddpnnjldgaa.Bi
end
namespace Go.Proofs.Ytoheddpnnjldgaa
open Go.RowKit
end Go.Proofs.Ytoheddpnnjldgaa
section
namespace Go.Proofs.Ytoheddpnnjldgaa.Bi
open Go Go.Conc
open Go.ConcN (sumTo upd sumTo_upd upd_ne upd_same)
set_option maxHeartbeats 1000000
structure Conf (P:Program) (p:Nat) (W Rd:Nat→Prop) (gA gB:Goroutine) (gs:Array Goroutine) (w:World) (t:Trace) (q:Nat→Nat):Prop where
 a:gs[0]? = some gA
 b:gs[p]? = some gB
 p0:p≠0
 leav:∀ i g,0 < i→i≠p→gs[i]? = some g→QuitsD P (q i) (Deaf t i) g
 above:∀ j,gs.size≤j→Deaf t j=0
 tr:Two p W Rd w.heap.size t
 hp:Deaf t p=0
section
variable {P:Program} {p:Nat} {W Rd:Nat→Prop} {gA gB:Goroutine} {gs:Array Goroutine} {w:World} {t:Trace} {q:Nat→Nat} {sl:Option (Nat×Nat)}
theorem Two.leaver (h:Two p W Rd w.heap.size t) {i:Nat} (hi:i≠0) {fn:FuncId} {pos:String} {es:Array Event} (hm:∀ e∈es,e.mute=true):Two p W Rd w.heap.size (t++MemOp.ofEvents i fn pos es):=by
 have hg:∀ op∈MemOp.ofEvents i fn pos es,op.g=i:=fun op hop=>by obtain ⟨e,_,rfl⟩:=Conc.mem_ofEvents hop;rfl
 exact h.mute hg (fun op hop=>by obtain ⟨e,he,rfl⟩:=Conc.mem_ofEvents hop;exact touch_mute (hm e he)) (fun op hop=>by obtain ⟨e,he,rfl⟩:=Conc.mem_ofEvents hop;exact low_mute (hm e he) _) (Deaf_other t hi _ hg)
theorem conf_move (h:Conf P p W Rd gA gB gs w t q) (hA:gA.status=.running∨gA.status=.blocked) (hB:gB.status=.running∨gB.status=.blocked) (hr:gA.status=.running∨gB.status=.running)
  (hwA:∀ g g' d,woken P g g' (w.at d) gA=gA) (hwB:∀ g g' d,woken P g g' (w.at d) gB=gB) :
  (gA.status=.running∧∃ d sl',stepT P (crowd gs w sl)=runT P (crowd gs (w.at d) sl') 0)∨(gB.status=.running∧∃ d sl',stepT P (crowd gs w sl)=runT P (crowd gs (w.at d) sl') p) ∨
  ∃ gs' d sl' ops q',stepT P (crowd gs w sl)=(.next (crowd gs' (w.at d) sl'),ops)∧Conf P p W Rd gA gB gs' (w.at d) (t++ops) q'∧gs'.size=gs.size∧sumTo gs'.size q' < sumTo gs.size q:=by
 have haw:∀ g∈gs,awake g:=by
  intro g' hg
  obtain ⟨i,hi,rfl⟩:=Array.mem_iff_getElem.1 hg
  have hi':=Array.getElem?_eq_getElem hi
  rcases Nat.eq_zero_or_pos i with rfl | hpos
  ·have:gs[0]=gA:=by have:=h.a;rw [hi'] at this;exact Option.some.inj this
   rw [this];exact awake_of (hA.imp id .inl)
  ·by_cases hip:i=p
   ·subst hip
    have:gs[i]=gB:=by have:=h.b;rw [hi'] at this;exact Option.some.inj this
    rw [this];exact awake_of (hB.imp id .inl)
   ·exact awake_of ((h.leav i _ hpos hip hi').status.elim .inl fun x=>.inr (.inr x))
 have hsome:∃ (i:Nat) (g:Goroutine),gs[i]? = some g∧g.status=.running:=hr.elim (fun x=>⟨0,gA,h.a,x⟩) fun x=>⟨p,gB,h.b,x⟩
 obtain ⟨i,g',d,sl',hi,hg,hst⟩:=crowd_pick (P:=P) (w:=w) (sl:=sl) haw hsome
 rcases Nat.eq_zero_or_pos i with rfl | hpos
 ·exact .inl ⟨by have:=h.a;rw [hi] at this;cases this;exact hg,d,sl',hst⟩
 by_cases hip:i=p
 ·subst hip
  exact .inr (.inl ⟨by have:=h.b;rw [hi] at this;cases this;exact hg,d,sl',hst⟩)
 refine .inr (.inr ?_)
 have hq:=h.leav i g' hpos hip hi
 have hi0:(i == 0)=false:=by simp;omega
 have hlt:i < gs.size:=(Array.getElem?_eq_some_iff.1 hi).1
 cases hqi:q i with
 | zero=>rw [hqi] at hq;rw [hq.1] at hg;cases hg
 | succ k =>
  rw [hqi] at hq
  rcases hq with ⟨hf,_⟩ | ⟨_,g2,es,hm,hstp,hq'⟩
  ·rw [hf] at hg;cases hg
  have hrunT:=runT_crowd_go (P:=P) (sl:=sl') (i:=i) hi (by rw [hi0];exact hstp (w.at d))
  have hsz:((gs.map (woken P g' g2 (w.at d))).setIfInBounds i g2).size=gs.size:=by simp
  have hsum:sumTo gs.size (upd q i k)+(k+1)=sumTo gs.size q+k:=by
   have:=sumTo_upd q k id hlt
   simpa [hqi] using this
  have hop:∀ op∈MemOp.ofEvents i g'.frame.fn g'.frame.place es,op.g=i:=fun op hop=>by obtain ⟨e,_,rfl⟩:=Conc.mem_ofEvents hop;rfl
  refine ⟨_,d,sl',_,upd q i k,hst.trans hrunT,⟨?_,?_,h.p0,fun j x hj hjp hx=>?_,fun j hj=>?_,h.tr.leaver (by omega) hm,(Deaf_other t hip _ hop).trans h.hp⟩,hsz,by rw [hsz];omega⟩
  ·have hne:i≠0:=by omega
   rw [Array.getElem?_setIfInBounds_ne hne,Array.getElem?_map,h.a,Option.map_some,hwA]
  ·rw [Array.getElem?_setIfInBounds_ne hip,Array.getElem?_map,h.b,Option.map_some,hwB]
  ·by_cases hji:i=j
   ·subst hji
    rw [Array.getElem?_setIfInBounds_self_of_lt (by simpa using hlt)] at hx
    obtain rfl:=Option.some.inj hx
    rw [upd_same,Deaf_own]
    exact hq'
   ·rw [Array.getElem?_setIfInBounds_ne hji,Array.getElem?_map] at hx
    obtain ⟨y,hy,rfl⟩:=Option.map_eq_some_iff.1 hx
    have hqj:=h.leav j y hj hjp hy
    rw [woken_quitsD hqj,upd_ne q k (Ne.symm hji),Deaf_other t hji _ hop]
    exact hqj
  ·rw [Deaf_other t (g':=i) (by simp at hj;omega) _ hop]
   exact h.above j (by simpa using hj)
end
end Go.Proofs.Ytoheddpnnjldgaa.Bi
end
namespace Go.Proofs.Ytoheddpnnjldgaa
open Go.RowKit
end Go.Proofs.Ytoheddpnnjldgaa
section
namespace Go.Proofs.Ytoheddpnnjldgaa.Bi
open Go Go.Conc
open Go.ConcN (sumTo upd sumTo_upd upd_ne upd_same)
set_option maxHeartbeats 1000000
structure Side (X:Type) where
 W:X→Nat→Prop
 Sit:X→World→Prop
def Turn (w w1:World):Prop:=∃ h d,w1 = { w with heap:=h,drawn:=d }
structure Gd {X:Type} (I:World→Prop) (S:Side X) (Rd:Nat→Prop) (x x1:X) (w w1:World) (es:Array Event):Prop where
 inv:I w→I w1
 sit:S.Sit x1 w1
 turn:Turn w w1
 size:w.heap.size≤w1.heap.size
 keep:∀ b,b < w.heap.size→¬ S.W x b→w1.heap[b]? = w.heap[b]?
 up:∀ b,S.W x b→S.W x1 b
 new:∀ b,S.W x1 b→S.W x b∨w.heap.size≤b
 ev:∀ e∈es,(∀ y,(MemAct.ofEvent e).touch? = some y→inB (S.W x1) y.loc∨(inB Rd y.loc∧y.write=false))∧e.loc≠.mark .disable∧e.loc≠.mark .enable∧(MemAct.ofEvent e).low w1.heap.size
structure Stable {X:Type} (I:World→Prop) (S:Side X) (Rd:Nat→Prop):Prop where
 st:∀ x w w',S.Sit x w→I w'→Turn w w'→w.heap.size≤w'.heap.size→(∀ b,b < w.heap.size→S.W x b∨Rd b→w'.heap[b]? = w.heap[b]?)→S.Sit x w'
 low:∀ x w,S.Sit x w→∀ b,S.W x b→b < w.heap.size
structure Bears (I:World→Prop) (c:Nat):Prop where
 draw:∀ w d,I w→I (w.at d)
 chan:∀ (w:World) (s r s' r':Nat) (tm b b':Bool),w.heap[c]? = some (.chan 0 #[] b s r tm)→I w→I { w with heap:=w.heap.setIfInBounds c (.chan 0 #[] b' s' r' tm) }
theorem side_terms {X:Type} (I:World→Prop) (S:Side X) (Rd:Nat→Prop):Terms S.Sit (Gd I S Rd) :=
 ⟨fun x w h=>⟨id,h,⟨w.heap,w.drawn,rfl⟩,Nat.le_refl _,fun _ _ _=>rfl,fun _ h=>h,fun _ h=>.inl h,fun e he=>by simp at he⟩⟩
section
variable {XA XB:Type} {I:World→Prop} {SA:Side XA} {SB:Side XB} {Rd:Nat→Prop} {c:Nat}
def Rdc (Rd:Nat→Prop) (c:Nat) (b:Nat):Prop:=Rd b∨b=c
structure Meet (I:World→Prop) (SA:Side XA) (SB:Side XB) (Rd:Nat→Prop) (c:Nat) (xA:XA) (xB:XB) (w:World):Prop where
 inv:I w
 sa:SA.Sit xA w
 sb:SB.Sit xB w
 ab:∀ b,SA.W xA b→¬ SB.W xB b
 ra:∀ b,Rd b→¬ SA.W xA b
 rb:∀ b,Rd b→¬ SB.W xB b
 rl:∀ b,Rd b→b < w.heap.size
 ca : ¬ SA.W xA c
 cb : ¬ SB.W xB c
 cr : ¬ Rd c
 cl:c < w.heap.size
variable {xA:XA} {xB:XB} {w w1:World} {es:Array Event}
theorem Meet.swap (h:Meet I SA SB Rd c xA xB w):Meet I SB SA Rd c xB xA w:=⟨h.inv,h.sb,h.sa,fun b h1 h2=>h.ab b h2 h1,h.rb,h.ra,h.rl,h.cb,h.ca,h.cr,h.cl⟩
theorem Meet.turn (hA:Stable I SA Rd) (hB:Stable I SB Rd) (h:Meet I SA SB Rd c xA xB w) (hi:I w1) (ht:Turn w w1) (hs:w1.heap.size=w.heap.size) (hk:∀ b,b≠c→w1.heap[b]? = w.heap[b]?):Meet I SA SB Rd c xA xB w1:=by
 have h1:SA.Sit xA w1:=hA.st xA w w1 h.sa hi ht (Nat.le_of_eq hs.symm) fun b _ hb=>hk b fun e=>hb.elim (fun x=>h.ca (e ▸ x)) fun x=>h.cr (e ▸ x)
 have h2:SB.Sit xB w1:=hB.st xB w w1 h.sb hi ht (Nat.le_of_eq hs.symm) fun b _ hb=>hk b fun e=>hb.elim (fun x=>h.cb (e ▸ x)) fun x=>h.cr (e ▸ x)
 exact ⟨hi,h1,h2,h.ab,h.ra,h.rb,fun b hb=>by rw [hs];exact h.rl b hb,h.ca,h.cb,h.cr,by rw [hs];exact h.cl⟩
theorem Meet.at (hA:Stable I SA Rd) (hB:Stable I SB Rd) (hI:Bears I c) (h:Meet I SA SB Rd c xA xB w) (d:Nat):Meet I SA SB Rd c xA xB (w.at d):=h.turn hA hB (hI.draw w d h.inv) ⟨w.heap,d,rfl⟩ rfl fun _ _=>rfl
theorem Meet.step {x1:XA} (hB:Stable I SB Rd) (hA:Stable I SA Rd) (h:Meet I SA SB Rd c xA xB w) (g:Gd I SA Rd xA x1 w w1 es):Meet I SA SB Rd c x1 xB w1∧w1.heap[c]? = w.heap[c]?:=by
 have hsb:SB.Sit xB w1:=hB.st xB w w1 h.sb (g.inv h.inv) g.turn g.size fun b hb h1=>g.keep b hb fun h2=>h1.elim (h.ab b h2) fun h3=>h.ra b h3 h2
 exact ⟨⟨g.inv h.inv,g.sit,hsb,fun b h1 h2=>(g.new b h1).elim (fun h3=>h.ab b h3 h2) fun h3=>Nat.not_lt.2 h3 (hB.low xB w h.sb b h2),fun b h1 h2=>(g.new b h2).elim (h.ra b h1) fun h3=>Nat.not_lt.2 h3 (h.rl b h1),h.rb,
  fun b hb=>Nat.lt_of_lt_of_le (h.rl b hb) g.size,fun h1=>(g.new c h1).elim h.ca fun h3=>Nat.not_lt.2 h3 h.cl,h.cb,h.cr,Nat.lt_of_lt_of_le h.cl g.size⟩,g.keep c h.cl h.ca⟩
theorem inB_not {S S':Nat→Prop} {l:Loc} (h:inB S l) (hs:∀ b,S b→¬ S' b) : ¬ inB S' l:=by
 cases l <;> first | exact h.elim | exact hs _ h
theorem ofEvents_deaf {t:Trace} {i g:Nat} {fn:FuncId} {pos:String} (h:∀ e∈es,e.loc≠.mark .disable∧e.loc≠.mark .enable):Deaf (t++MemOp.ofEvents i fn pos es) g=Deaf t g:=by
 by_cases hig:i=g
 ·subst hig
  rw [Deaf_own]
  exact deafBehind_still h _
 ·exact Deaf_other t hig _ fun op hop=>by obtain ⟨e,_,rfl⟩:=Conc.mem_ofEvents hop;rfl
theorem two_stepA {p:Nat} {x1:XA} {t:Trace} {fn:FuncId} {pos:String} (h:Two p (SB.W xB) (Rdc Rd c) w.heap.size t) (hm:Meet I SA SB Rd c x1 xB w1) (g:Gd I SA Rd xA x1 w w1 es):Two p (SB.W xB) (Rdc Rd c) w1.heap.size (t++MemOp.ofEvents 0 fn pos es):=by
 refine (h.mono g.size).app0 (fun op hop=>?_) (fun op hop=>?_) (ofEvents_deaf fun e he=>⟨(g.ev e he).2.1,(g.ev e he).2.2.1⟩)
 ·obtain ⟨e,he,rfl⟩:=Conc.mem_ofEvents hop
  refine ⟨rfl,fun y hy=>?_⟩
  rcases (g.ev e he).1 y hy with h1 | ⟨h1,h2⟩
  ·exact ⟨inB_not h1 hm.ab,fun _ h3=>inB_not h1 (fun b hb hd=>hd.elim (fun hd=>hm.ra b hd hb) fun e=>hm.ca (e ▸ hb)) h3⟩
  ·exact ⟨inB_not h1 hm.rb,fun h3=>by rw [h2] at h3;cases h3⟩
 ·obtain ⟨e,he,rfl⟩:=Conc.mem_ofEvents hop
  exact (g.ev e he).2.2.2
theorem two_stepB {p:Nat} {x1:XB} {t:Trace} {fn:FuncId} {pos:String} (h:Two p (SB.W xB) (Rdc Rd c) w.heap.size t) (g:Gd I SB Rd xB x1 w w1 es):Two p (SB.W x1) (Rdc Rd c) w1.heap.size (t++MemOp.ofEvents p fn pos es):=by
 refine ((h.grow g.up g.new).mono g.size).appP (fun op hop=>?_) (fun op hop=>?_) (ofEvents_deaf fun e he=>⟨(g.ev e he).2.1,(g.ev e he).2.2.1⟩)
 ·obtain ⟨e,he,rfl⟩:=Conc.mem_ofEvents hop
  exact ⟨rfl,fun y hy=>((g.ev e he).1 y hy).imp id fun h=>⟨inB_mono h.1 fun b hb=>.inl hb,h.2⟩⟩
 ·obtain ⟨e,he,rfl⟩:=Conc.mem_ofEvents hop
  exact (g.ev e he).2.2.2
variable {P:Program} {p:Nat} {gA gB:Goroutine} {gs:Array Goroutine} {t:Trace} {q:Nat→Nat} {sl:Option (Nat×Nat)}
theorem conf_stepA {x1:XA} {g1:Goroutine} (h:Conf P p (SB.W xB) (Rdc Rd c) gA gB gs w t q) (hm:Meet I SA SB Rd c x1 xB w1) (hs:stepG P true gA w=.go g1 w1 es) (g:Gd I SA Rd xA x1 w w1 es) (hwB:woken P gA g1 w1 gB=gB) :
  ∃ gs' ops,runT P (crowd gs w sl) 0=(.next (crowd gs' w1 sl),ops)∧Conf P p (SB.W xB) (Rdc Rd c) g1 gB gs' w1 (t++ops) q∧gs'.size=gs.size:=by
 have hrunT:=runT_crowd_go (P:=P) (sl:=sl) (i:=0) h.a (show stepG P (0 == 0) gA w=_ from hs)
 have hlt:0 < gs.size:=(Array.getElem?_eq_some_iff.1 h.a).1
 have hop:∀ op∈MemOp.ofEvents 0 gA.frame.fn gA.frame.place es,op.g=0:=fun op hop=>by obtain ⟨e,_,rfl⟩:=Conc.mem_ofEvents hop;rfl
 refine ⟨_,_,hrunT,⟨by simp [hlt],?_,h.p0,fun j x hj hjp hx=>?_,fun j hj=>?_,two_stepA h.tr hm g,(ofEvents_deaf fun e he=>⟨(g.ev e he).2.1,(g.ev e he).2.2.1⟩).trans h.hp⟩,by simp⟩
 ·rw [Array.getElem?_setIfInBounds_ne (Ne.symm h.p0),Array.getElem?_map,h.b,Option.map_some,hwB]
 ·rw [Array.getElem?_setIfInBounds_ne (by omega),Array.getElem?_map] at hx
  obtain ⟨y,hy,rfl⟩:=Option.map_eq_some_iff.1 hx
  have hqj:=h.leav j y hj hjp hy
  rw [woken_quitsD hqj,Deaf_other t (by omega) _ hop]
  exact hqj
 ·rw [Deaf_other t (g':=0) (by simp at hj;omega) _ hop]
  exact h.above j (by simpa using hj)
theorem conf_stepB {x1:XB} {g1:Goroutine} (h:Conf P p (SB.W xB) (Rdc Rd c) gA gB gs w t q) (hs:stepG P false gB w=.go g1 w1 es) (g:Gd I SB Rd xB x1 w w1 es) (hwA:woken P gB g1 w1 gA=gA) :
  ∃ gs' ops,runT P (crowd gs w sl) p=(.next (crowd gs' w1 sl),ops)∧Conf P p (SB.W x1) (Rdc Rd c) gA g1 gs' w1 (t++ops) q∧gs'.size=gs.size:=by
 have hp0:(p == 0)=false:=by simp [h.p0]
 have hrunT:=runT_crowd_go (P:=P) (sl:=sl) (i:=p) h.b (show stepG P (p == 0) gB w=_ by rw [hp0];exact hs)
 have hlt:p < gs.size:=(Array.getElem?_eq_some_iff.1 h.b).1
 have hop:∀ op∈MemOp.ofEvents p gB.frame.fn gB.frame.place es,op.g=p:=fun op hop=>by obtain ⟨e,_,rfl⟩:=Conc.mem_ofEvents hop;rfl
 refine ⟨_,_,hrunT,⟨?_,by simp [hlt],h.p0,fun j x hj hjp hx=>?_,fun j hj=>?_,two_stepB h.tr g,(ofEvents_deaf fun e he=>⟨(g.ev e he).2.1,(g.ev e he).2.2.1⟩).trans h.hp⟩,by simp⟩
 ·rw [Array.getElem?_setIfInBounds_ne h.p0,Array.getElem?_map,h.a,Option.map_some,hwA]
 ·rw [Array.getElem?_setIfInBounds_ne (Ne.symm hjp),Array.getElem?_map] at hx
  obtain ⟨y,hy,rfl⟩:=Option.map_eq_some_iff.1 hx
  have hqj:=h.leav j y hj hjp hy
  rw [woken_quitsD hqj,Deaf_other t (Ne.symm hjp) _ hop]
  exact hqj
 ·rw [Deaf_other t (g':=p) (by simp at hj;omega) _ hop]
  exact h.above j (by simpa using hj)
end
end Go.Proofs.Ytoheddpnnjldgaa.Bi
end
namespace Go.Proofs.Ytoheddpnnjldgaa
open Go.RowKit
end Go.Proofs.Ytoheddpnnjldgaa
section
namespace Go.Proofs.Ytoheddpnnjldgaa.Bi
open Go Go.Conc
open Go.ConcN (sumTo upd sumTo_upd upd_ne upd_same)
set_option maxHeartbeats 1000000
theorem deaf_silent {t u:Trace} (h:∀ op∈u,∀ m,op.act≠.mark m) (g:Nat):Deaf (t++u) g=Deaf t g:=by
 obtain ⟨l⟩:=u
 rw [Deaf_append]
 have:∀ (l:List MemOp) (d:Nat),(∀ op∈l,∀ m,op.act≠.mark m)→l.foldl (deafStep g) d=d:=by
  intro l
  induction l with
  | nil=>intro d _;rfl
  | cons y l ih =>
   intro d hl
   have hy:deafStep g d y=d:=by
    unfold deafStep
    split
    ·rename_i e;exact absurd e (hl y (by simp) _)
    ·rename_i e;exact absurd e (hl y (by simp) _)
    ·rfl
   rw [List.foldl_cons,hy]
   exact ih d fun op hop=>hl op (by simp [hop])
 exact this l _ fun op hop=>h op (by simpa using hop)
section
variable {p:Nat} {W Rd:Nat→Prop} {B:Nat} {t:Trace}
theorem Two.silent (h:Two p W Rd B t):∀ (l:List MemOp),(∀ op∈l,op.act.touch? = none∧op.act.low B∧∀ m,op.act≠.mark m)→Two p W Rd B (t++l.toArray):=by
 intro l
 induction l generalizing t with
 | nil=>intro _;simpa using h
 | cons y l ih =>
  intro hl
  have e:t++(y::l).toArray=(t++#[y])++l.toArray:=by apply Array.ext';simp
  rw [e]
  have hy:=hl y (by simp)
  have hs:∀ op∈#[y],∀ m,op.act≠.mark m:=fun op hop m=>by simp at hop;rw [hop];exact hy.2.2 m
  exact ih (h.mute (g:=y.g) (fun op hop=>by simp at hop;rw [hop]) (fun op hop=>by simp at hop;rw [hop];exact hy.1) (fun op hop=>by simp at hop;rw [hop];exact hy.2.1) (deaf_silent hs 0)) fun op hop=>hl op (by simp [hop])
end
section
variable (P:Program) (c:Nat) (z:Value)
def AtRecv (f:Bool) (g:Goroutine):Prop:=g.status=.running∧∀ w,stepG P true g w=.comm (core g) #[rcase c z] true (.recv f) w #[]
def AtSend (v:Value) (g:Goroutine):Prop:=g.status=.running∧∃ z',∀ w,stepG P false g w=.comm (core g) #[scase c v z'] true .send w #[]
def AtClose (g:Goroutine):Prop :=
 g.status=.running∧mayWake P g=true∧∃ (g₂:Goroutine) (n:Nat),(∀ w s r tm,w.heap[c]? = some (.chan 0 #[] false s r tm)→stepG P false g w=.go g₂ (w.shut c s r tm) #[⟨.obj c,false,true⟩,⟨.obj c,true,true⟩])∧QuitsD P n 0 g₂
end
section
variable {P:Program} {p c:Nat} {z v:Value} {W Rd:Nat→Prop} {gA gB:Goroutine} {gs:Array Goroutine} {w:World} {t:Trace} {q:Nat→Nat} {sl:Option (Nat×Nat)} {s r:Nat} {tm f:Bool}
theorem AtRecv.again (h:AtRecv P c z f gA):AtRecv P c z f { parked (core gA) #[rcase c z] (.recv f) with status:=.running } :=
 ⟨rfl,fun w=>by
  have e:stepG P true { parked (core gA) #[rcase c z] (.recv f) with status:=.running } w=stepG P true gA w:=stepG_same rfl rfl rfl w
  rw [e];exact h.2 w⟩
theorem Conf.quiet (h:Conf P p W Rd gA gB gs w t q) {j:Nat} {g:Goroutine} (hj:gs[j]? = some g) (h0:j≠0) (hp:j≠p) (b:Bool):offersAt g c b=[]:=by
 refine offersAt_of_not_blocked (fun e=>?_) c b
 rcases (h.leav j g (by omega) hp hj).status with x | x <;> rw [x] at e <;> cases e
theorem Conf.comm (h:Conf P p W Rd gA gB gs w t q) {gA' gB':Goroutine} {gs':Array Goroutine} {w':World} {l:List MemOp} (ha:gs'[0]? = some gA') (hb:gs'[p]? = some gB') (hsz:gs'.size=gs.size) (ho:∀ i,i≠0→i≠p→gs'[i]? = gs[i]?)
  (hw:w'.heap.size=w.heap.size) (hl:∀ op∈l,op.act.touch? = none∧op.act.low w.heap.size∧∀ m,op.act≠.mark m):Conf P p W Rd gA' gB' gs' w' (t++l.toArray) q:=by
 have hs:∀ op∈l.toArray,∀ m,op.act≠.mark m:=fun op hop m=>(hl op (by simpa using hop)).2.2 m
 refine ⟨ha,hb,h.p0,fun i g hi hip hg=>?_,fun j hj=>?_,by rw [hw];exact h.tr.silent l hl,(deaf_silent hs p).trans h.hp⟩
 ·rw [deaf_silent hs]
  exact h.leav i g hi hip (by rw [← ho i (by omega) hip];exact hg)
 ·rw [deaf_silent hs]
  exact h.above j (by rw [← hsz];exact hj)
theorem ofEvents_nil (g:Nat) (fn:FuncId) (pos:String):MemOp.ofEvents g fn pos #[] = #[]:=by rw [ofEvents_eq];simp
theorem conf_parkA (h:Conf P p W Rd gA gB gs w t q) (hc:w.heap[c]? = some (.chan 0 #[] false s r tm)) (hA:AtRecv P c z f gA) (hB:gB.status=.running) :
  ∃ gs',runT P (crowd gs w sl) 0=(.next (crowd gs' w sl),#[])∧Conf P p W Rd (parked (core gA) #[rcase c z] (.recv f)) gB gs' w t q∧gs'.size=gs.size:=by
 have hlt:0 < gs.size:=(Array.getElem?_eq_some_iff.1 h.a).1
 have hw:=crowd_waits (P:=P) (sl:=sl) (i:=0) h.a (show stepG P (0 == 0) gA w=_ from hA.2 w) (fun cc hcc=>by
  simp only [List.mem_toArray,List.mem_cons,List.not_mem_nil,or_false] at hcc
  subst hcc
  refine ⟨made_recv z hc,?_⟩
  have hp:partners (gs.setIfInBounds 0 ph) c true=[]:=partners_nil fun j g hj=>by
   rcases getElem?_stand gs 0 j g hj with ⟨-,rfl⟩ | ⟨hne,hj'⟩
   ·rfl
   ·by_cases hjp:j=p
    ·subst hjp;rw [h.b] at hj';cases hj';exact offersAt_of_not_blocked (by rw [hB];simp) c true
    ·exact h.quiet hj' hne hjp true
  simp [ways,rcase,hc,hp])
 rw [ofEvents_nil] at hw
 refine ⟨_,hw,?_,by simp⟩
 have:=h.comm (gA':=parked (core gA) #[rcase c z] (.recv f)) (gB':=gB) (gs':=gs.setIfInBounds 0 (parked (core gA) #[rcase c z] (.recv f))) (w':=w) (l:=[]) (by simp [hlt]) (by rw [Array.getElem?_setIfInBounds_ne (Ne.symm h.p0)];exact h.b) (by simp) (fun i hi _=>by rw [Array.getElem?_setIfInBounds_ne (Ne.symm hi)]) rfl (by simp)
 simpa using this
theorem conf_parkB {z':Value} (h:Conf P p W Rd gA gB gs w t q) (hc:w.heap[c]? = some (.chan 0 #[] false s r tm)) (hB:∀ w,stepG P false gB w=.comm (core gB) #[scase c v z'] true .send w #[]) (hA:gA.status=.running) :
  ∃ gs',runT P (crowd gs w sl) p=(.next (crowd gs' w sl),#[])∧Conf P p W Rd gA (parked (core gB) #[scase c v z'] .send) gs' w t q∧gs'.size=gs.size:=by
 have hlt:p < gs.size:=(Array.getElem?_eq_some_iff.1 h.b).1
 have hp0:(p == 0)=false:=by simp [h.p0]
 have hw:=crowd_waits (P:=P) (sl:=sl) (i:=p) h.b (show stepG P (p == 0) gB w=_ by rw [hp0];exact hB w) (fun cc hcc=>by
  simp only [List.mem_toArray,List.mem_cons,List.not_mem_nil,or_false] at hcc
  subst hcc
  refine ⟨made_send v z' hc,?_⟩
  have hp:partners (gs.setIfInBounds p ph) c false=[]:=partners_nil fun j g hj=>by
   rcases getElem?_stand gs p j g hj with ⟨-,rfl⟩ | ⟨hne,hj'⟩
   ·rfl
   ·by_cases hj0:j=0
    ·subst hj0;rw [h.a] at hj';cases hj';exact offersAt_of_not_blocked (by rw [hA];simp) c false
    ·exact h.quiet hj' hj0 hne false
  simp [ways,scase,hc,hp])
 rw [ofEvents_nil] at hw
 refine ⟨_,hw,?_,by simp⟩
 have:=h.comm (gA':=gA) (gB':=parked (core gB) #[scase c v z'] .send) (gs':=gs.setIfInBounds p (parked (core gB) #[scase c v z'] .send)) (w':=w) (l:=[]) (by rw [Array.getElem?_setIfInBounds_ne h.p0];exact h.a) (by simp [hlt]) (by simp) (fun i _ hi=>by rw [Array.getElem?_setIfInBounds_ne (Ne.symm hi)]) rfl (by simp)
 simpa using this
theorem conf_sendMeets {z':Value} {g:Goroutine} (h:Conf P p W Rd (parked (core g) #[rcase c z] (.recv f)) gB gs w t q) (hc:w.heap[c]? = some (.chan 0 #[] false s r tm)) (hB:∀ w,stepG P false gB w=.comm (core gB) #[scase c v z'] true .send w #[]) :
  ∃ gs' ops,runT P (crowd gs w sl) p=(.next (crowd gs' (w.setChan c 0 #[] false (s+1) (r+1) tm) sl),ops)∧Conf P p W Rd (Conc.served (core g) (recvd f v true)) (Conc.served (core gB) undef) gs' (w.setChan c 0 #[] false (s+1) (r+1) tm) (t++ops) q∧gs'.size=gs.size:=by
 have hlt:p < gs.size:=(Array.getElem?_eq_some_iff.1 h.b).1
 have hlt0:0 < gs.size:=by omega
 have hcl:c < w.heap.size:=(Array.getElem?_eq_some_iff.1 hc).1
 have hp0:(p == 0)=false:=by simp [h.p0]
 have hpp:partners (gs.setIfInBounds p ph) c false=[(0,0)]:=by
  rw [partners_one (j:=0) (g:=parked (core g) #[rcase c z] (.recv f)) (stand_get (Ne.symm h.p0) h.a) fun k x hk hx=>?_]
  ·rw [offersAt_parked_recv];simp
  ·rcases getElem?_stand gs p k x hx with ⟨-,rfl⟩ | ⟨hne,hj'⟩
   ·rfl
   ·exact h.quiet hj' hk hne false
 have hw:=crowd_send_meets (P:=P) (sl:=sl) (i:=p) (j:=0) h.b (show stepG P (p == 0) gB w=_ by rw [hp0];exact hB w) hc (Ne.symm h.p0) h.a hpp
 rw [ofEvents_nil,Array.empty_append,finishComm_recv,finishComm_send] at hw
 refine ⟨_,_,hw,h.comm ?_ ?_ (by simp) (fun i hi hip=>?_) (by simp [World.setChan]) ?_,by simp⟩
 ·rw [Array.getElem?_setIfInBounds_ne h.p0];simp [hlt0]
 ·simp [hlt]
 ·rw [Array.getElem?_setIfInBounds_ne (Ne.symm hip),Array.getElem?_setIfInBounds_ne (Ne.symm hi)]
 ·intro op hop
  simp only [List.mem_cons,List.not_mem_nil,or_false] at hop
  rcases hop with rfl | rfl | rfl | rfl <;> exact ⟨rfl,hcl,fun m e=>by cases e⟩
theorem conf_recvMeets {z':Value} {g:Goroutine} (h:Conf P p W Rd gA (parked (core g) #[scase c v z'] .send) gs w t q) (hc:w.heap[c]? = some (.chan 0 #[] false s r tm)) (hA:AtRecv P c z f gA) :
  ∃ gs' ops,runT P (crowd gs w sl) 0=(.next (crowd gs' (w.setChan c 0 #[] false (s+1) (r+1) tm) sl),ops)∧Conf P p W Rd (Conc.served (core gA) (recvd f v true)) (Conc.served (core g) undef) gs' (w.setChan c 0 #[] false (s+1) (r+1) tm) (t++ops) q∧gs'.size=gs.size:=by
 have hlt:p < gs.size:=(Array.getElem?_eq_some_iff.1 h.b).1
 have hlt0:0 < gs.size:=by omega
 have hcl:c < w.heap.size:=(Array.getElem?_eq_some_iff.1 hc).1
 have hpp:partners (gs.setIfInBounds 0 ph) c true=[(p,0)]:=by
  rw [partners_one (j:=p) (g:=parked (core g) #[scase c v z'] .send) (stand_get h.p0 h.b) fun k x hk hx=>?_]
  ·rw [offersAt_parked_send];simp
  ·rcases getElem?_stand gs 0 k x hx with ⟨-,rfl⟩ | ⟨hne,hj'⟩
   ·rfl
   ·exact h.quiet hj' hne hk true
 have hw:=crowd_recv_meets (P:=P) (sl:=sl) (i:=0) (j:=p) h.a (show stepG P (0 == 0) gA w=_ from hA.2 w) hc h.p0 h.b hpp
 rw [ofEvents_nil,Array.empty_append,finishComm_recv,finishComm_send] at hw
 refine ⟨_,_,hw,h.comm ?_ ?_ (by simp) (fun i hi hip=>?_) (by simp [World.setChan]) ?_,by simp⟩
 ·simp [hlt0]
 ·rw [Array.getElem?_setIfInBounds_ne (Ne.symm h.p0)];simp [hlt]
 ·rw [Array.getElem?_setIfInBounds_ne (Ne.symm hi),Array.getElem?_setIfInBounds_ne (Ne.symm hip)]
 ·intro op hop
  simp only [List.mem_cons,List.not_mem_nil,or_false] at hop
  rcases hop with rfl | rfl | rfl | rfl <;> exact ⟨rfl,hcl,fun m e=>by cases e⟩
end
end Go.Proofs.Ytoheddpnnjldgaa.Bi
end
namespace Go.Proofs.Ytoheddpnnjldgaa
open Go.RowKit
end Go.Proofs.Ytoheddpnnjldgaa
section
namespace Go.Proofs.Ytoheddpnnjldgaa.Bi
open Go Go.Conc
open Go.ConcN (sumTo upd sumTo_upd upd_ne upd_same)
set_option maxHeartbeats 1000000
structure Shut (p c:Nat) (W Rd:Nat→Prop) (B:Nat) (t:Trace) (pc:Nat):Prop where
 two:Two p W Rd B t
 p0:p≠0
 close:∃ x,t[pc]? = some x∧x.g=p∧x.act=.close c
 heard:t.heard pc
 last:∀ i z,t[i]? = some z→z.g=p→z.act.touch?≠none→i < pc
section
variable {p c:Nat} {W Rd:Nat→Prop} {B:Nat} {t u:Trace} {pc:Nat}
theorem Shut.app {B':Nat} (h:Shut p c W Rd B t pc) (h2:Two p W Rd B' (t++u)) (hu:∀ op∈u,op.g=p→op.act.touch? = none):Shut p c W Rd B' (t++u) pc:=by
 obtain ⟨x,hx,hg,ha⟩:=h.close
 have hlt:=lt_size_of_getElem? hx
 refine ⟨h2,h.p0,⟨x,by rw [getElem?_append_old hlt];exact hx,hg,ha⟩,(heard_old hlt).2 h.heard,fun i z hz hzg hn=>?_⟩
 rcases getElem?_append_cases hz with ⟨_,hz'⟩ | ⟨_,hzu⟩
 · exact h.last i z hz' hzg hn
 · exact absurd (hu z hzu hzg) hn
theorem Two.leaver' (h:Two p W Rd B t) {i:Nat} (hi:i≠0) {fn:FuncId} {pos:String} {es:Array Event} (hm:∀ e∈es,e.mute=true):Two p W Rd B (t++MemOp.ofEvents i fn pos es):=by
 have hg:∀ op∈MemOp.ofEvents i fn pos es,op.g=i:=fun op hop=>by obtain ⟨e,_,rfl⟩:=Conc.mem_ofEvents hop;rfl
 exact h.mute hg (fun op hop=>by obtain ⟨e,he,rfl⟩:=Conc.mem_ofEvents hop;exact touch_mute (hm e he)) (fun op hop=>by obtain ⟨e,he,rfl⟩:=Conc.mem_ofEvents hop;exact low_mute (hm e he) _) (Deaf_other t hi _ hg)
end
section
variable {P:Program} {p c:Nat} {z v:Value} {W Rd:Nat→Prop} {gA gB:Goroutine} {gs:Array Goroutine} {w:World} {t:Trace} {q:Nat→Nat} {sl:Option (Nat×Nat)} {s r:Nat} {tm f:Bool}
theorem conf_close (hcR:Rd c) (h:Conf P p W Rd gA gB gs w t q) (hc:w.heap[c]? = some (.chan 0 #[] false s r tm)) (hB:AtClose P c gB) {gA':Goroutine} (hA:gA.status=.running∧gA'=gA∨∃ g,gA=parked (core g) #[rcase c z] (.recv f)∧gA' = { parked (core g) #[rcase c z] (.recv f) with status:=.running }) :
  ∃ gs' ops q' pc,runT P (crowd gs w sl) p=(.next (crowd gs' (w.shut c s r tm) sl),ops)∧gs'[0]? = some gA'∧Leavers P (t++ops) gs' q'∧Shut p c W Rd (w.shut c s r tm).heap.size (t++ops) pc:=by
 obtain ⟨hrun,hmay,g2,n,hst,hq2⟩:=hB
 have hp0:(p == 0)=false:=by simp [h.p0]
 have hcl:c < w.heap.size:=(Array.getElem?_eq_some_iff.1 hc).1
 have hlt:p < gs.size:=(Array.getElem?_eq_some_iff.1 h.b).1
 have hrunT:=runT_crowd_go (P:=P) (sl:=sl) (i:=p) h.b (show stepG P (p == 0) gB w=_ by rw [hp0];exact hst w s r tm hc)
 have hc2:(w.shut c s r tm).heap[c]? = some (.chan 0 #[] true s r tm):=heap_put hc
 let ra:MemOp:={ g:=p,fn:=gB.frame.fn,pos:=gB.frame.place,act:=.access ⟨.obj c,false,true⟩ }
 let rc:MemOp:={ g:=p,fn:=gB.frame.fn,pos:=gB.frame.place,act:=.close c }
 have hops:MemOp.ofEvents p gB.frame.fn gB.frame.place #[⟨.obj c,false,true⟩,⟨.obj c,true,true⟩] = #[ra]++[rc].toArray:=by rw [ofEvents_eq];simp [ra,rc,MemAct.ofEvent]
 have hsil:∀ op∈[rc],op.act.touch? = none∧op.act.low w.heap.size∧∀ m,op.act≠.mark m:=by
  intro op hop
  simp only [List.mem_cons,List.not_mem_nil,or_false] at hop
  subst hop
  exact ⟨rfl,hcl,fun m e=>by cases e⟩
 have hs1:∀ op∈#[ra],∀ m,op.act≠.mark m:=fun op hop m=>by
  simp only [List.mem_toArray,List.mem_cons,List.not_mem_nil,or_false] at hop
  subst hop
  intro e;cases e
 have hs2:∀ op∈[rc].toArray,∀ m,op.act≠.mark m:=fun op hop m=>(hsil op (by simpa using hop)).2.2 m
 have hds:∀ g,Deaf (t++(#[ra]++[rc].toArray)) g=Deaf t g:=fun g=>by rw [← Array.append_assoc,deaf_silent hs2,deaf_silent hs1]
 have hsz:(w.shut c s r tm).heap.size=w.heap.size:=by simp [World.shut]
 have hw2:∀ g,woken P gB g2 (w.shut c s r tm) g=g.again (w.shut c s r tm):=by
  intro g
  unfold woken
  rw [if_pos]
  have:g2.status≠.blocked∧g2.status≠.waiting:=by
   rcases hq2.status with e | e <;> rw [e] <;> simp
  simp [hmay,this.1,this.2]
 have hwA:woken P gB g2 (w.shut c s r tm) gA=gA':=by
  rcases hA with ⟨h1,rfl⟩ | ⟨g,rfl,rfl⟩
  ·exact woken_run h1
  ·rw [hw2];exact again_recv_closed hc2
 rw [hops] at hrunT
 have hlast:(t++(#[ra]++[rc].toArray))[t.size+1]? = some rc:=by
  rw [Array.getElem?_append_right (by omega),Nat.add_sub_cancel_left];rfl
 have htwo0:Two p W Rd w.heap.size (t++#[ra]):=h.tr.appP (fun op hop=>by
   simp only [List.mem_toArray,List.mem_cons,List.not_mem_nil,or_false] at hop
   subst hop
   exact ⟨rfl,fun y hy=>by cases hy;exact .inr ⟨hcR,rfl⟩⟩) (fun op hop=>by
   simp only [List.mem_toArray,List.mem_cons,List.not_mem_nil,or_false] at hop
   subst hop
   exact hcl) (deaf_silent hs1 0)
 have htwo:Two p W Rd w.heap.size (t++(#[ra]++[rc].toArray)):=by
  rw [← Array.append_assoc]
  exact htwo0.silent _ hsil
 refine ⟨_,_,upd q p n,t.size+1,hrunT,?_,⟨fun j x hj hx=>?_,fun j hj=>?_⟩,⟨by rw [hsz];exact htwo,h.p0,⟨_,hlast,rfl,rfl⟩,?_,fun i y hy hyg hn=>?_⟩⟩
 ·rw [Array.getElem?_setIfInBounds_ne h.p0,Array.getElem?_map,h.a,Option.map_some,hwA]
 ·rw [hds]
  by_cases hjp:j=p
  ·subst hjp
   rw [Array.getElem?_setIfInBounds_self_of_lt (by simpa using hlt)] at hx
   obtain rfl:=Option.some.inj hx
   rw [upd_same,h.hp]
   exact hq2
  ·rw [Array.getElem?_setIfInBounds_ne (Ne.symm hjp),Array.getElem?_map] at hx
   obtain ⟨y,hy,rfl⟩:=Option.map_eq_some_iff.1 hx
   have hqj:=h.leav j y hj hjp hy
   rw [woken_quitsD hqj,upd_ne q n hjp]
   exact hqj
 ·rw [hds]
  exact h.above j (by simpa using hj)
 ·refine ⟨p,by unfold Trace.g?;rw [hlast];rfl,?_⟩
  have hsz1:(t++#[ra]).size=t.size+1:=by simp
  rw [← Array.append_assoc,← hsz1,deaf_old (Nat.le_refl _)]
  exact (deaf_silent hs1 p).trans h.hp
 ·rcases getElem?_append_cases hy with ⟨hi,_⟩ | ⟨_,hyu⟩
  ·omega
  ·simp only [Array.mem_append,List.mem_toArray,List.mem_cons,List.not_mem_nil,or_false] at hyu
   rcases hyu with rfl | rfl
   ·have hi3:i < t.size+2:=by have:=lt_size_of_getElem? hy;simpa using this
    by_cases hi4:i=t.size+1
    ·subst hi4
     rw [hlast] at hy
     have:=congrArg MemOp.act (Option.some.inj hy)
     cases this
    ·omega
   ·exact absurd rfl hn
theorem shut_until {pc:Nat} (hrun:gA.status=.running):∀ (M:Nat) (gs:Array Goroutine) (w:World) (sl:Option (Nat×Nat)) (t:Trace) (q:Nat→Nat),sumTo gs.size q≤M→gs[0]? = some gA→Leavers P t gs q→Shut p c W Rd w.heap.size t pc →
  ∃ N gs1 sl1 t1 q1 d1 d2 sl2,runNT P N (crowd gs w sl) t=(.next (crowd gs1 (w.at d1) sl1),t1)∧stepT P (crowd gs1 (w.at d1) sl1)=runT P (crowd gs1 (w.at d2) sl2) 0∧gs1[0]? = some gA∧Leavers P t1 gs1 q1∧Shut p c W Rd w.heap.size t1 pc:=by
 intro M
 induction M with
 | zero =>
  intro gs w sl t q hM h0 hL hP
  have haw:∀ g∈gs,awake g:=by
   intro g' hg
   obtain ⟨i,hi,rfl⟩:=Array.mem_iff_getElem.1 hg
   rcases Nat.eq_zero_or_pos i with rfl | hpos
   ·have:gs[0]=gA:=by simpa [Array.getElem?_eq_getElem hi] using h0
    rw [this];exact awake_of (.inl hrun)
   ·exact awake_of ((hL.old i _ hpos (Array.getElem?_eq_getElem hi)).status.elim .inl fun x=>.inr (.inr x))
  obtain ⟨i,g',d,sl',hi,hg,hst⟩:=crowd_pick (P:=P) (w:=w) (sl:=sl) haw ⟨0,gA,h0,hrun⟩
  rcases Nat.eq_zero_or_pos i with rfl | hpos
  ·exact ⟨0,gs,sl,t,q,w.drawn,d,sl',rfl,hst,h0,hL,hP⟩
  ·have hq:=hL.old i g' hpos hi
   have hlt:i < gs.size:=(Array.getElem?_eq_some_iff.1 hi).1
   have hz:q i=0:=by
    have h1:sumTo gs.size (upd q i 0)+q i=sumTo gs.size q+0:=by simpa using sumTo_upd q 0 id hlt
    omega
   rw [hz] at hq
   rw [hq.1] at hg
   cases hg
 | succ M ih =>
  intro gs w sl t q hM h0 hL hP
  have haw:∀ g∈gs,awake g:=by
   intro g' hg
   obtain ⟨i,hi,rfl⟩:=Array.mem_iff_getElem.1 hg
   rcases Nat.eq_zero_or_pos i with rfl | hpos
   ·have:gs[0]=gA:=by simpa [Array.getElem?_eq_getElem hi] using h0
    rw [this];exact awake_of (.inl hrun)
   ·exact awake_of ((hL.old i _ hpos (Array.getElem?_eq_getElem hi)).status.elim .inl fun x=>.inr (.inr x))
  obtain ⟨i,g',d,sl',hi,hg,hst⟩:=crowd_pick (P:=P) (w:=w) (sl:=sl) haw ⟨0,gA,h0,hrun⟩
  rcases Nat.eq_zero_or_pos i with rfl | hpos
  ·exact ⟨0,gs,sl,t,q,w.drawn,d,sl',rfl,hst,h0,hL,hP⟩
  ·have hq:=hL.old i g' hpos hi
   have hi0:(i == 0)=false:=by simp;omega
   have hlt:i < gs.size:=(Array.getElem?_eq_some_iff.1 hi).1
   cases hqi:q i with
   | zero=>rw [hqi] at hq;rw [hq.1] at hg;cases hg
   | succ k =>
    rw [hqi] at hq
    rcases hq with ⟨hf,_⟩ | ⟨_,g2,es,hm,hstp,hq'⟩
    ·rw [hf] at hg;cases hg
    have hrunT:=runT_crowd_go (P:=P) (sl:=sl') (i:=i) hi (by rw [hi0];exact hstp (w.at d))
    have hsz:((gs.map (woken P g' g2 (w.at d))).setIfInBounds i g2).size=gs.size:=by simp
    have hsum:sumTo gs.size (upd q i k)+(k+1)=sumTo gs.size q+k:=by
     have:=sumTo_upd q k id hlt
     simpa [hqi] using this
    have hst':stepT P (crowd gs w sl)=runT P (crowd gs (w.at d) sl') i:=hst
    have hop:∀ op∈MemOp.ofEvents i g'.frame.fn g'.frame.place es,op.g=i:=fun op hop=>by obtain ⟨e,_,rfl⟩:=Conc.mem_ofEvents hop;rfl
    have hShut:Shut p c W Rd (w.at d).heap.size (t++MemOp.ofEvents i g'.frame.fn g'.frame.place es) pc:=hP.app (hP.two.leaver' (by omega) hm) fun op hop _=>by obtain ⟨e,he,rfl⟩:=Conc.mem_ofEvents hop;exact touch_mute (hm e he)
    obtain ⟨N,gs1,sl1,t1,q1,d1,d2,sl2,hr,hrest⟩:=ih ((gs.map (woken P g' g2 (w.at d))).setIfInBounds i g2) (w.at d) sl' (t++MemOp.ofEvents i g'.frame.fn g'.frame.place es) (upd q i k) (by rw [hsz];omega)
     (by
      have hne:i≠0:=by omega
      rw [Array.getElem?_setIfInBounds_ne hne,Array.getElem?_map,h0]
      simp [woken_run hrun])
     ⟨fun j x hj hx=>by
      by_cases hji:i=j
      ·subst hji
       rw [Array.getElem?_setIfInBounds_self_of_lt (by simpa using hlt)] at hx
       obtain rfl:=Option.some.inj hx
       rw [upd_same,Deaf_own]
       exact hq'
      ·rw [Array.getElem?_setIfInBounds_ne hji,Array.getElem?_map] at hx
       obtain ⟨y,hy,rfl⟩:=Option.map_eq_some_iff.1 hx
       have hqj:=hL.old j y hj hy
       rw [woken_quitsD hqj,upd_ne q k (Ne.symm hji),Deaf_other t hji _ hop]
       exact hqj,fun j hj=>by
      rw [Deaf_other t (g':=i) (by simp at hj;omega) _ hop]
      exact hL.above j (by simpa using hj)⟩ hShut
    exact ⟨N+1,gs1,sl1,t1,q1,d1,d2,sl2,by simp only [runNT,hst',hrunT];exact hr,hrest⟩
end
end Go.Proofs.Ytoheddpnnjldgaa.Bi
end
namespace Go.Proofs.Ytoheddpnnjldgaa
open Go.RowKit
end Go.Proofs.Ytoheddpnnjldgaa
section
namespace Go.Proofs.Ytoheddpnnjldgaa.Bi
open Go Go.Conc
open Go.ConcN (sumTo upd sumTo_upd upd_ne upd_same)
set_option maxHeartbeats 1000000
section
variable {XA XB:Type} (P:Program) (p c:Nat) (z:Value) (f:Bool) (I:World→Prop) (SA:Side XA) (SB:Side XB) (Rd:Nat→Prop) (Fin:XA→Goroutine→Prop)
def Cons:List Value→XA→Goroutine→Prop
 | []=>TreeI P true SA.Sit (Gd I SA Rd) (fun x g=>AtRecv P c z f g∧Fin x (Conc.served (core g) (recvd f z false)))
 | v::vs=>TreeI P true SA.Sit (Gd I SA Rd) (fun x g=>AtRecv P c z f g∧Cons vs x (Conc.served (core g) (recvd f v true)))
def Prod:List Value→XB→Goroutine→Prop
 | []=>TreeI P false SB.Sit (Gd I SB Rd) (fun _ g=>AtClose P c g)
 | v::vs=>TreeI P false SB.Sit (Gd I SB Rd) (fun x g=>AtSend P c v g∧Prod vs x (Conc.served (core g) undef))
def NextA:List Value→XA→Goroutine→Prop
 | [],x,g=>Fin x (Conc.served (core g) (recvd f z false))
 | v::vs,x,g=>Cons P c z f I SA Rd Fin vs x (Conc.served (core g) (recvd f v true))
def StopB:List Value→XB→Goroutine→Prop
 | [],_,g=>AtClose P c g
 | v::vs,x,g=>AtSend P c v g∧Prod P c I SB Rd vs x (Conc.served (core g) undef)
def Done (m:Machine) (t:Trace):Prop:=∃ (N:Nat) (gs':Array Goroutine) (g':Goroutine) (w':World) (sl':Option (Nat×Nat)) (t':Trace) (q':Nat→Nat) (x:XA),
 runNT P N m t=(.next (crowd gs' w' sl'),t')∧gs'[0]? = some g'∧Fin x g'∧I w'∧SA.Sit x w'∧Leavers P t' gs' q'∧Past (fun _=>False) w'.heap.size t'
def DoneT (st:Stepped×Array MemOp) (t:Trace):Prop:=∃ m' ops,st=(.next m',ops)∧Done P I SA Fin m' (t++ops)
end
section
variable {XA XB:Type} {P:Program} {p c:Nat} {z:Value} {f:Bool} {I:World→Prop} {SA:Side XA} {SB:Side XB} {Rd:Nat→Prop} {Fin:XA→Goroutine→Prop}
theorem cons_iff (vs:List Value) (x:XA) (g:Goroutine):Cons P c z f I SA Rd Fin vs x g↔TreeI P true SA.Sit (Gd I SA Rd) (fun x g=>AtRecv P c z f g∧NextA P c z f I SA Rd Fin vs x g) x g:=by cases vs <;> exact Iff.rfl
theorem prod_iff (vs:List Value) (x:XB) (g:Goroutine):Prod P c I SB Rd vs x g↔TreeI P false SB.Sit (Gd I SB Rd) (StopB P c I SB Rd vs) x g:=by cases vs <;> exact Iff.rfl
theorem rn_then {a b:Nat} {m m1:Machine} {t t1:Trace} {x:Stepped×Trace} (h:runNT P a m t=(.next m1,t1)) (h1:runNT P b m1 t1=x):runNT P (a+b) m t=x:=by
 induction a generalizing m t with
 | zero=>cases h;simpa using h1
 | succ a ih =>
  rw [show a+1+b=(a+b)+1 by omega]
  simp only [runNT] at h ⊢
  cases hs:stepT P m with
  | mk s ops =>
   rw [hs] at h
   cases s with
   | next m2=>exact ih h
   | ended o w=>cases h
theorem done_run {a:Nat} {m m1:Machine} {t t1:Trace} (h:runNT P a m t=(.next m1,t1)) (hd:Done P I SA Fin m1 t1):Done P I SA Fin m t:=by
 obtain ⟨N,gs',g',w',sl',t',q',x,hr,hrest⟩:=hd
 exact ⟨a+N,gs',g',w',sl',t',q',x,rn_then h hr,hrest⟩
theorem done_step {m m1:Machine} {t:Trace} {ops:Array MemOp} (h:stepT P m=(.next m1,ops)) (hd:Done P I SA Fin m1 (t++ops)):Done P I SA Fin m t :=
 done_run (a:=1) (by simp only [runNT,h]) hd
theorem doneT_step {m:Machine} {st:Stepped×Array MemOp} {t:Trace} (h:stepT P m=st) (hd:DoneT P I SA Fin st t):Done P I SA Fin m t:=by
 obtain ⟨m',ops,e,hd⟩:=hd
 exact done_step (h.trans e) hd
theorem shut_claim (hSA:Stable I SA Rd) (hSB:Stable I SB Rd) (hI:Bears I c) {x:XA} {g:Goroutine} (h:Cons P c z f I SA Rd Fin [] x g):∀ (xB:XB) (gs:Array Goroutine) (w:World) (sl:Option (Nat×Nat)) (t:Trace) (q:Nat→Nat) (pc s r:Nat) (tm:Bool),
  gs[0]? = some g→Leavers P t gs q→Shut p c (SB.W xB) (Rdc Rd c) w.heap.size t pc→Meet I SA SB Rd c x xB w→w.heap[c]? = some (.chan 0 #[] true s r tm)→Done P I SA Fin (crowd gs w sl) t:=by
 have h':TreeI P true SA.Sit (Gd I SA Rd) (fun x g=>AtRecv P c z f g∧Fin x (Conc.served (core g) (recvd f z false))) x g:=h
 clear h
 induction h' with
 | @stop x g h =>
  intro xB gs w sl t q pc s r tm h0 hL hS hm hc
  obtain ⟨hR,hF⟩:=h
  obtain ⟨N,gs1,sl1,t1,q1,d1,d2,sl2,hr,hst,h01,hL1,hS1⟩:=shut_until hR.1 _ gs w sl t q (Nat.le_refl _) h0 hL hS
  have hcl:c < w.heap.size:=(Array.getElem?_eq_some_iff.1 hc).1
  have hlt:0 < gs1.size:=(Array.getElem?_eq_some_iff.1 h01).1
  have hp:partners (gs1.setIfInBounds 0 ph) c true=[]:=partners_nil fun j y hj=>by
   rcases getElem?_stand gs1 0 j y hj with ⟨-,rfl⟩ | ⟨hne,hj'⟩
   ·rfl
   ·refine offersAt_of_not_blocked (fun e=>?_) c true
    rcases (hL1.old j y (by omega) hj').status with x | x <;> rw [x] at e <;> cases e
  have hstep:=crowd_recv_closed (P:=P) (sl:=sl2) (i:=0) h01 (show stepG P (0 == 0) g (w.at d2)=_ from hR.2 _) (show (w.at d2).heap[c]? = _ from hc) hp
  rw [ofEvents_nil,Array.empty_append,finishComm_recv] at hstep
  refine done_run hr (done_step (hst.trans hstep) ?_)
  have hsil:∀ op∈[({ g:=0,fn:=(core g).frame.fn,pos:=(core g).frame.place,act:=.recvClosed c }:MemOp)],op.act.touch? = none∧op.act.low w.heap.size∧∀ m,op.act≠.mark m:=by
   intro op hop
   simp only [List.mem_cons,List.not_mem_nil,or_false] at hop
   subst hop
   exact ⟨rfl,hcl,fun m e=>by cases e⟩
  have hs:∀ op∈[({ g:=0,fn:=(core g).frame.fn,pos:=(core g).frame.place,act:=.recvClosed c }:MemOp)].toArray,∀ m,op.act≠.mark m:=fun op hop m=>(hsil op (by simpa using hop)).2.2 m
  have hS2:=hS1.app (hS1.two.silent _ hsil) fun op hop _=>(hsil op (by simpa using hop)).1
  have hlast:(t1++[({ g:=0,fn:=(core g).frame.fn,pos:=(core g).frame.place,act:=.recvClosed c }:MemOp)].toArray)[t1.size]? = some ({ g:=0,fn:=(core g).frame.fn,pos:=(core g).frame.place,act:=.recvClosed c }:MemOp):=by
   rw [Array.getElem?_append_right (Nat.le_refl _)];simp
  obtain ⟨y,hy,hyg,hya⟩:=hS2.close
  have hpast:=two_end hS2.two hS2.p0 hy hyg hya hlast rfl rfl hS2.heard ⟨0,by simp [Trace.g?,hlast],by rw [deaf_old (Nat.le_refl _)];exact hS1.two.hears⟩ hS2.last
  refine ⟨0,_,_,_,_,_,q1,x,rfl,by simp [hlt],hF,(hm.at hSA hSB hI d2).inv,(hm.at hSA hSB hI d2).sa,⟨fun j y hj hx=>?_,fun j hj=>?_⟩,hpast⟩
  ·rw [Array.getElem?_setIfInBounds_ne (by omega)] at hx
   have e:=deaf_silent (t:=t1) hs j
   rw [show t1++#[({ g:=0,fn:=(core g).frame.fn,pos:=(core g).frame.place,act:=.recvClosed c }:MemOp)]=t1++[({ g:=0,fn:=(core g).frame.fn,pos:=(core g).frame.place,act:=.recvClosed c }:MemOp)].toArray from rfl,e]
   exact hL1.old j y hj hx
  ·have e:=deaf_silent (t:=t1) hs j
   rw [show t1++#[({ g:=0,fn:=(core g).frame.fn,pos:=(core g).frame.place,act:=.recvClosed c }:MemOp)]=t1++[({ g:=0,fn:=(core g).frame.fn,pos:=(core g).frame.place,act:=.recvClosed c }:MemOp)].toArray from rfl,e]
   exact hL1.above j (by simpa using hj)
 | @step x g hst hdy x1 g1 w1 es h _ ih =>
  intro xB gs w sl t q pc s r tm h0 hL hS hm hc
  obtain ⟨N,gs1,sl1,t1,q1,d1,d2,sl2,hr,hstp,h01,hL1,hS1⟩:=shut_until hst _ gs w sl t q (Nat.le_refl _) h0 hL hS
  have hm2:=hm.at hSA hSB hI d2
  obtain ⟨hgo,hg⟩:=h (w.at d2) hm2.sa
  have hrunT:=runT_crowd_go (P:=P) (sl:=sl2) (i:=0) h01 (show stepG P (0 == 0) g (w.at d2)=_ from hgo)
  obtain ⟨hm3,hc3⟩:=hm2.step hSB hSA hg
  have hlt:0 < gs1.size:=(Array.getElem?_eq_some_iff.1 h01).1
  have hop:∀ op∈MemOp.ofEvents 0 g.frame.fn g.frame.place (es (w.at d2)),op.g=0:=fun op hop=>by obtain ⟨e,_,rfl⟩:=Conc.mem_ofEvents hop;rfl
  refine done_run hr (done_step (hstp.trans hrunT) (ih (w.at d2) hm2.sa xB _ _ _ _ q1 pc s r tm (by simp [hlt]) ⟨fun j y hj hx=>?_,fun j hj=>?_⟩ (hS1.app (two_stepA (w:=w.at d2) hS1.two hm3 hg) fun op ho hp=>absurd ((hop op ho).symm.trans hp) (Ne.symm hS1.p0)) hm3 (hc3.trans hc)))
  ·rw [Array.getElem?_setIfInBounds_ne (by omega),Array.getElem?_map] at hx
   obtain ⟨y',hy',rfl⟩:=Option.map_eq_some_iff.1 hx
   have hqj:=hL1.old j y' hj hy'
   rw [woken_quitsD hqj,Deaf_other t1 (by omega) _ hop]
   exact hqj
  ·rw [Deaf_other t1 (g':=0) (by simp at hj;omega) _ hop]
   exact hL1.above j (by simpa using hj)
end
end Go.Proofs.Ytoheddpnnjldgaa.Bi
end
namespace Go.Proofs.Ytoheddpnnjldgaa
open Go.RowKit
end Go.Proofs.Ytoheddpnnjldgaa
section
namespace Go.Proofs.Ytoheddpnnjldgaa.Bi
open Go Go.Conc
open Go.ConcN (sumTo upd sumTo_upd upd_ne upd_same)
set_option maxHeartbeats 1000000
section
variable {XA XB:Type} {P:Program} {p c:Nat} {z:Value} {f:Bool} {I:World→Prop} {SA:Side XA} {SB:Side XB} {Rd:Nat→Prop} {Fin:XA→Goroutine→Prop}
variable (P p c I SA SB Rd Fin) in
def Goal (xA:XA) (xB:XB) (gA gB:Goroutine):Prop:=∀ (gs:Array Goroutine) (w:World) (sl:Option (Nat×Nat)) (t:Trace) (q:Nat→Nat) (s r:Nat) (tm:Bool),
 Conf P p (SB.W xB) (Rdc Rd c) gA gB gs w t q→Meet I SA SB Rd c xA xB w→w.heap[c]? = some (.chan 0 #[] false s r tm)→Done P I SA Fin (crowd gs w sl) t
variable (P p c I SA SB Rd Fin) in
def Pick (i:Nat) (xA:XA) (xB:XB) (gA gB:Goroutine):Prop:=∀ (gs:Array Goroutine) (w:World) (sl:Option (Nat×Nat)) (t:Trace) (q:Nat→Nat) (s r:Nat) (tm:Bool),
 Conf P p (SB.W xB) (Rdc Rd c) gA gB gs w t q→Meet I SA SB Rd c xA xB w→w.heap[c]? = some (.chan 0 #[] false s r tm)→DoneT P I SA Fin (runT P (crowd gs w sl) i) t
variable (P c) in
def Still (g:Goroutine):Prop:=∀ (w:World) (g1 g2:Goroutine) (s r:Nat) (tm:Bool),w.heap[c]? = some (.chan 0 #[] false s r tm)→woken P g1 g2 w g=g
theorem still_run {g:Goroutine} (h:g.status=.running):Still P c g:=fun _ _ _ _ _ _ _=>woken_run h
theorem still_recv {g:Goroutine}:Still P c (parked g #[rcase c z] (.recv f)):=fun _ _ _ _ _ _ hc=>woken_recv_open _ _ hc
theorem still_send {g:Goroutine} {v z':Value}:Still P c (parked g #[scase c v z'] .send):=fun _ _ _ _ _ _ hc=>woken_send_open _ _ hc
theorem conf_loop (hSA:Stable I SA Rd) (hSB:Stable I SB Rd) (hI:Bears I c) {xA:XA} {xB:XB} {gA gB:Goroutine} (hA:gA.status=.running∨gA.status=.blocked) (hB:gB.status=.running∨gB.status=.blocked) (hr:gA.status=.running∨gB.status=.running) (hwA:Still P c gA) (hwB:Still P c gB)
  (kA:gA.status=.running→Pick P p c I SA SB Rd Fin 0 xA xB gA gB) (kB:gB.status=.running→Pick P p c I SA SB Rd Fin p xA xB gA gB):Goal P p c I SA SB Rd Fin xA xB gA gB:=by
 have key:∀ (M:Nat) (gs:Array Goroutine) (w:World) (sl:Option (Nat×Nat)) (t:Trace) (q:Nat→Nat) (s r:Nat) (tm:Bool),sumTo gs.size q≤M →
   Conf P p (SB.W xB) (Rdc Rd c) gA gB gs w t q→Meet I SA SB Rd c xA xB w→w.heap[c]? = some (.chan 0 #[] false s r tm)→Done P I SA Fin (crowd gs w sl) t:=by
  intro M
  induction M with
  | zero =>
   intro gs w sl t q s r tm hM hC hm hc
   rcases conf_move (sl:=sl) hC hA hB hr (fun g1 g2 d=>hwA (w.at d) g1 g2 s r tm hc) (fun g1 g2 d=>hwB (w.at d) g1 g2 s r tm hc) with ⟨h1,d,sl',hst⟩ | ⟨h1,d,sl',hst⟩ | ⟨gs',d,sl',ops,q',hst,hC',hsz,hlt⟩
   ·exact doneT_step hst (kA h1 gs (w.at d) sl' t q s r tm ⟨hC.a,hC.b,hC.p0,hC.leav,hC.above,hC.tr,hC.hp⟩ (hm.at hSA hSB hI d) hc)
   ·exact doneT_step hst (kB h1 gs (w.at d) sl' t q s r tm ⟨hC.a,hC.b,hC.p0,hC.leav,hC.above,hC.tr,hC.hp⟩ (hm.at hSA hSB hI d) hc)
   ·omega
  | succ M ih =>
   intro gs w sl t q s r tm hM hC hm hc
   rcases conf_move (sl:=sl) hC hA hB hr (fun g1 g2 d=>hwA (w.at d) g1 g2 s r tm hc) (fun g1 g2 d=>hwB (w.at d) g1 g2 s r tm hc) with ⟨h1,d,sl',hst⟩ | ⟨h1,d,sl',hst⟩ | ⟨gs',d,sl',ops,q',hst,hC',hsz,hlt⟩
   ·exact doneT_step hst (kA h1 gs (w.at d) sl' t q s r tm ⟨hC.a,hC.b,hC.p0,hC.leav,hC.above,hC.tr,hC.hp⟩ (hm.at hSA hSB hI d) hc)
   ·exact doneT_step hst (kB h1 gs (w.at d) sl' t q s r tm ⟨hC.a,hC.b,hC.p0,hC.leav,hC.above,hC.tr,hC.hp⟩ (hm.at hSA hSB hI d) hc)
   ·exact done_step hst (ih gs' (w.at d) sl' _ q' s r tm (by omega) hC' (hm.at hSA hSB hI d) hc)
 exact fun gs w sl t q s r tm hC hm hc=>key _ gs w sl t q s r tm (Nat.le_refl _) hC hm hc
theorem Meet.passed (hSA:Stable I SA Rd) (hSB:Stable I SB Rd) (hI:Bears I c) {xA:XA} {xB:XB} {w:World} {s r s' r':Nat} {tm:Bool} (h:Meet I SA SB Rd c xA xB w) (hc:w.heap[c]? = some (.chan 0 #[] false s r tm)):Meet I SA SB Rd c xA xB (w.setChan c 0 #[] false s' r' tm) :=
 h.turn hSA hSB (hI.chan w s r s' r' tm false false hc h.inv) ⟨_,w.drawn,rfl⟩ (by simp [World.setChan]) fun b hb=>by simp only [World.setChan];rw [Array.getElem?_setIfInBounds_ne (Ne.symm hb)]
theorem Meet.shut (hSA:Stable I SA Rd) (hSB:Stable I SB Rd) (hI:Bears I c) {xA:XA} {xB:XB} {w:World} {s r:Nat} {tm:Bool} (h:Meet I SA SB Rd c xA xB w) (hc:w.heap[c]? = some (.chan 0 #[] false s r tm)):Meet I SA SB Rd c xA xB (w.shut c s r tm) :=
 h.turn hSA hSB (hI.chan w s r s r tm false true hc h.inv) ⟨_,w.drawn,rfl⟩ (by simp [World.shut]) fun b hb=>by simp only [World.shut];rw [Array.getElem?_setIfInBounds_ne (Ne.symm hb)]
variable (P c I SB Rd) in
def BSt (vs:List Value) (xB:XB) (gB:Goroutine):Prop:=Prod P c I SB Rd vs xB gB∨∃ v vs' g z',vs=v::vs'∧gB=parked (core g) #[scase c v z'] .send∧Prod P c I SB Rd vs' xB (Conc.served (core g) undef)
theorem stopB_run {vs:List Value} {x:XB} {g:Goroutine} (h:StopB P c I SB Rd vs x g):g.status=.running:=by
 cases vs with
 | nil=>exact h.1
 | cons v vs=>exact h.1.1
theorem tree_run {X:Type} {main:Bool} {Sit:X→World→Prop} {Gd':X→X→World→World→Array Event→Prop} {Stop:X→Goroutine→Prop} {x:X} {g:Goroutine} (h:TreeI P main Sit Gd' Stop x g) (hs:∀ x g,Stop x g→g.status=.running):g.status=.running:=by
 cases h with
 | stop h=>exact hs _ _ h
 | step hst _ _ _ _ _ _ _=>exact hst
theorem cons_run {vs:List Value} {x:XA} {g:Goroutine} (h:Cons P c z f I SA Rd Fin vs x g):g.status=.running:=tree_run ((cons_iff vs x g).1 h) fun _ _ h=>h.1.1
variable (hSA:Stable I SA Rd) (hSB:Stable I SB Rd) (hI:Bears I c) {vs:List Value}
 (hvs:∀ v vs',vs=v::vs'→∀ xA gA xB gB,Cons P c z f I SA Rd Fin vs' xA gA→BSt P c I SB Rd vs' xB gB→Goal P p c I SA SB Rd Fin xA xB gA gB)
include hSA hSB hI hvs
theorem pickB_close {xA:XA} {xB:XB} {gA gA' gB:Goroutine} (e:vs=[]) (hB:AtClose P c gB) (hA:gA.status=.running∧gA'=gA∨∃ g,gA=parked (core g) #[rcase c z] (.recv f)∧gA' = { parked (core g) #[rcase c z] (.recv f) with status:=.running })
  (hC':Cons P c z f I SA Rd Fin vs xA gA'):Pick P p c I SA SB Rd Fin p xA xB gA gB:=by
 subst e
 intro gs w sl t q s r tm hC hm hc
 obtain ⟨gs',ops,q',pc,hrun,h0,hL,hS⟩:=conf_close (sl:=sl) (Rd:=Rdc Rd c) (.inr rfl) hC hc hB hA
 exact ⟨_,_,hrun,shut_claim hSA hSB hI hC' xB gs' _ sl _ q' pc s r tm h0 hL hS (hm.shut hSA hSB hI hc) (heap_put hc)⟩
theorem parkedA {xA:XA} {g:Goroutine} (hR:AtRecv P c z f g) (hN:NextA P c z f I SA Rd Fin vs xA g) {xB:XB} {gB:Goroutine} (hB:Prod P c I SB Rd vs xB gB):Goal P p c I SA SB Rd Fin xA xB (parked (core g) #[rcase c z] (.recv f)) gB:=by
 have hB':=(prod_iff vs xB gB).1 hB
 clear hB
 induction hB' with
 | @stop xB gB h =>
  have hrun:=stopB_run h
  refine conf_loop hSA hSB hI (.inr rfl) (.inl hrun) (.inr hrun) still_recv (still_run hrun) (fun e=>by cases e) fun _=>?_
  cases vs with
  | nil=>exact pickB_close hSA hSB hI hvs rfl h (.inr ⟨g,rfl,rfl⟩) (TreeI.stop ⟨hR.again,hN⟩)
  | cons v vs' =>
   obtain ⟨⟨_,z',hst⟩,hP⟩:=h
   intro gs w sl t q s r tm hC hm hc
   obtain ⟨gs',ops,hrun',hC',-⟩:=conf_sendMeets (sl:=sl) hC hc hst
   exact ⟨_,_,hrun',hvs v vs' rfl _ _ _ _ hN (.inl hP) gs' _ sl _ q (s+1) (r+1) tm hC' (Meet.passed hSA hSB hI hm hc) (heap_put hc)⟩
 | @step xB gB hst hdy x1 g1 w1 es h _ ih =>
  refine conf_loop hSA hSB hI (.inr rfl) (.inl hst) (.inr hst) still_recv (still_run hst) (fun e=>by cases e) fun _=>?_
  intro gs w sl t q s r tm hC hm hc
  obtain ⟨hgo,hg⟩:=h w hm.sb
  obtain ⟨hm',hc'⟩:=hm.swap.step hSA hSB hg
  obtain ⟨gs',ops,hrun',hC',-⟩:=conf_stepB (sl:=sl) hC hgo hg (still_recv (w1 w) gB (g1 w) s r tm (hc'.trans hc))
  exact ⟨_,_,hrun',ih w hm.sb gs' _ sl _ q s r tm hC' hm'.swap (hc'.trans hc)⟩
theorem nodeA {xA:XA} {gA:Goroutine} (hA:Cons P c z f I SA Rd Fin vs xA gA) (kA:∀ xB gB,BSt P c I SB Rd vs xB gB→(gB.status=.running∨gB.status=.blocked)→Still P c gB→Pick P p c I SA SB Rd Fin 0 xA xB gA gB) {xB:XB} {gB:Goroutine} (hB:BSt P c I SB Rd vs xB gB):Goal P p c I SA SB Rd Fin xA xB gA gB:=by
 have hrA:=cons_run hA
 have hpark:∀ (xB:XB) (v:Value) (vs':List Value) (g:Goroutine) (z':Value),vs=v::vs'→Prod P c I SB Rd vs' xB (Conc.served (core g) undef)→Goal P p c I SA SB Rd Fin xA xB gA (parked (core g) #[scase c v z'] .send):=by
  intro xB v vs' g z' e hP
  exact conf_loop hSA hSB hI (.inl hrA) (.inr rfl) (.inl hrA) (still_run hrA) still_send (fun _=>kA _ _ (.inr ⟨v,vs',g,z',e,rfl,hP⟩) (.inr rfl) still_send) fun e=>by cases e
 rcases hB with hB | ⟨v,vs',g,z',e,rfl,hP⟩
 ·have hB':=(prod_iff vs xB gB).1 hB
  clear hB
  induction hB' with
  | @stop xB gB h =>
   have hrun:=stopB_run h
   refine conf_loop hSA hSB hI (.inl hrA) (.inl hrun) (.inl hrA) (still_run hrA) (still_run hrun) (fun _=>kA _ _ (.inl ((prod_iff vs xB gB).2 (.stop h))) (.inl hrun) (still_run hrun)) fun _=>?_
   cases hv:vs with
   | nil=>subst hv;exact pickB_close hSA hSB hI hvs rfl h (.inl ⟨hrA,rfl⟩) hA
   | cons v vs' =>
    subst hv
    obtain ⟨⟨_,z',hst⟩,hP⟩:=h
    intro gs w sl t q s r tm hC hm hc
    obtain ⟨gs',hrun',hC',-⟩:=conf_parkB (sl:=sl) hC hc hst hrA
    exact ⟨_,_,hrun',by rw [Array.append_empty];exact hpark xB v vs' gB z' rfl hP gs' _ sl _ q s r tm hC' hm hc⟩
  | @step xB gB hst hdy x1 g1 w1 es h ht ih =>
   refine conf_loop hSA hSB hI (.inl hrA) (.inl hst) (.inl hrA) (still_run hrA) (still_run hst) (fun _=>kA _ _ (.inl ((prod_iff vs xB gB).2 (.step hst hdy x1 g1 w1 es h ht))) (.inl hst) (still_run hst)) fun _=>?_
   intro gs w sl t q s r tm hC hm hc
   obtain ⟨hgo,hg⟩:=h w hm.sb
   obtain ⟨hm',hc'⟩:=hm.swap.step hSA hSB hg
   obtain ⟨gs',ops,hrun',hC',-⟩:=conf_stepB (sl:=sl) hC hgo hg (woken_run hrA)
   exact ⟨_,_,hrun',ih w hm.sb gs' _ sl _ q s r tm hC' hm'.swap (hc'.trans hc)⟩
 ·exact hpark xB v vs' g z' e hP
theorem open_step {xA:XA} {gA:Goroutine} (hA:Cons P c z f I SA Rd Fin vs xA gA):∀ {xB:XB} {gB:Goroutine},BSt P c I SB Rd vs xB gB→Goal P p c I SA SB Rd Fin xA xB gA gB:=by
 have hA':=(cons_iff vs xA gA).1 hA
 clear hA
 induction hA' with
 | @stop xA gA h =>
  intro xB gB hB
  refine nodeA hSA hSB hI hvs ((cons_iff vs xA gA).2 (.stop h)) (fun xB gB hB hs hst=>?_) hB
  intro gs w sl t q s r tm hC hm hc
  rcases hB with hB | ⟨v,vs',g,z',e,rfl,hP⟩
  ·have hrun:gB.status=.running:=tree_run ((prod_iff vs xB gB).1 hB) fun _ _ h=>stopB_run h
   obtain ⟨gs',hrun',hC',-⟩:=conf_parkA (sl:=sl) hC hc h.1 hrun
   exact ⟨_,_,hrun',by rw [Array.append_empty];exact parkedA hSA hSB hI hvs h.1 h.2 hB gs' _ sl _ q s r tm hC' hm hc⟩
  ·subst e
   obtain ⟨gs',ops,hrun',hC',-⟩:=conf_recvMeets (sl:=sl) hC hc h.1
   exact ⟨_,_,hrun',hvs v vs' rfl _ _ _ _ h.2 (.inl hP) gs' _ sl _ q (s+1) (r+1) tm hC' (Meet.passed hSA hSB hI hm hc) (heap_put hc)⟩
 | @step xA gA hst hdy x1 g1 w1 es h ht ih =>
  intro xB gB hB
  refine nodeA hSA hSB hI hvs ((cons_iff vs xA gA).2 (.step hst hdy x1 g1 w1 es h ht)) (fun xB gB hB hs hstill=>?_) hB
  intro gs w sl t q s r tm hC hm hc
  obtain ⟨hgo,hg⟩:=h w hm.sa
  obtain ⟨hm',hc'⟩:=hm.step hSB hSA hg
  obtain ⟨gs',ops,hrun',hC',-⟩:=conf_stepA (sl:=sl) hC hm' hgo hg (hstill (w1 w) gA (g1 w) s r tm (hc'.trans hc))
  exact ⟨_,_,hrun',ih w hm.sa hB gs' _ sl _ q s r tm hC' hm' (hc'.trans hc)⟩
omit hvs in
theorem open_claim:∀ (vs:List Value) (xA:XA) (gA:Goroutine) (xB:XB) (gB:Goroutine),Cons P c z f I SA Rd Fin vs xA gA→BSt P c I SB Rd vs xB gB→Goal P p c I SA SB Rd Fin xA xB gA gB
 | [],_,_,_,_,hA,hB=>open_step hSA hSB hI (fun v vs' e=>by cases e) hA hB
 | v::vs,_,_,_,_,hA,hB=>open_step hSA hSB hI (fun v' vs' e=>by cases e;exact fun xA gA xB gB h1 h2=>open_claim vs xA gA xB gB h1 h2) hA hB
end
end Go.Proofs.Ytoheddpnnjldgaa.Bi
end
namespace Go.Proofs.Ytoheddpnnjldgaa
open Go.RowKit
end Go.Proofs.Ytoheddpnnjldgaa
section
namespace Go.Proofs.Ytoheddpnnjldgaa.Bi
open Go Go.Conc
open Go.ConcN (sumTo upd sumTo_upd upd_ne upd_same)
set_option maxHeartbeats 1000000
section
variable {P:Program} {c:Nat} {z:Value} {W Rd:Nat→Prop} {gA g1 child:Goroutine} {gs:Array Goroutine} {w w1:World} {t:Trace} {q:Nat→Nat} {sl:Option (Nat×Nat)} {es:Array Event}
theorem conf_fork (h0:gs[0]? = some gA) (hL:Leavers P t gs q) (hP:Past (fun _=>False) w.heap.size t) (hs:stepG P true gA w=.spawn g1 child w1 es) (hw:w1.heap.size=w.heap.size) (hes:∀ e∈es,EvL (fun _=>False) w.heap.size e) :
  ∃ gs' ops,runT P (crowd gs w sl) 0=(.next (crowd gs' w1 sl),ops)∧Conf P gs.size W Rd g1 child gs' w1 (t++ops) q:=by
 have hlt:0 < gs.size:=(Array.getElem?_eq_some_iff.1 h0).1
 have hrun:=runT_crowd_spawn (P:=P) (sl:=sl) (i:=0) h0 (show stepG P (0 == 0) gA w=_ from hs)
 have hP1:Past (fun _=>False) w.heap.size (t++MemOp.ofEvents 0 gA.frame.fn gA.frame.place es):=hP.own hes
 have hop:∀ op∈MemOp.ofEvents 0 gA.frame.fn gA.frame.place es,op.g=0:=fun op hop=>by obtain ⟨e,_,rfl⟩:=Conc.mem_ofEvents hop;rfl
 generalize hT:t++MemOp.ofEvents 0 gA.frame.fn gA.frame.place es=T at hP1
 have hd:∀ j,j≠0→Deaf T j=Deaf t j:=fun j hj=>by rw [← hT];exact Deaf_other t (Ne.symm hj) _ hop
 have hk:Deaf T gs.size=0:=by rw [hd _ (by omega)];exact hL.above _ (Nat.le_refl _)
 have e:t++((MemOp.ofEvents 0 gA.frame.fn gA.frame.place es).push { g:=0,fn:=gA.frame.fn,pos:=gA.frame.place,act:=.go gs.size } |>.push { g:=gs.size,fn:=child.frame.fn,pos:=gA.frame.place,act:=.start }) =
   T++[({ g:=0,fn:=gA.frame.fn,pos:=gA.frame.place,act:=.go gs.size }:MemOp),{ g:=gs.size,fn:=child.frame.fn,pos:=gA.frame.place,act:=.start }].toArray:=by
  rw [← hT];apply Array.ext';simp
 have hsil:∀ op∈[({ g:=0,fn:=gA.frame.fn,pos:=gA.frame.place,act:=.go gs.size }:MemOp),{ g:=gs.size,fn:=child.frame.fn,pos:=gA.frame.place,act:=.start }].toArray,∀ m,op.act≠.mark m:=by
  intro op ho m
  simp only [List.mem_toArray,List.mem_cons,List.not_mem_nil,or_false] at ho
  rcases ho with rfl | rfl <;> (intro e;cases e)
 refine ⟨_,_,hrun,?_⟩
 rw [e]
 refine ⟨by rw [Array.getElem?_push,if_neg (by simp;omega),Array.getElem?_setIfInBounds_self_of_lt hlt],by rw [Array.getElem?_push,if_pos (by simp)],by omega,fun i g hi hip hg=>?_,fun j hj=>?_,by rw [hw];exact two_fork hP1 ⟨rfl,rfl⟩ ⟨rfl,rfl⟩ hk,by rw [deaf_silent hsil];exact hk⟩
 ·rw [deaf_silent hsil,hd i (by omega)]
  have hg':gs[i]? = some g:=by
   rw [Array.getElem?_push] at hg
   split at hg
   ·rename_i e;simp at e;exact absurd e hip
   ·rw [Array.getElem?_setIfInBounds_ne (by omega)] at hg;exact hg
  exact hL.old i g hi hg'
 ·have hj':gs.size+1≤j:=by simpa using hj
  rw [deaf_silent hsil,hd j (by omega)]
  exact hL.above j (by omega)
end
theorem fork_claim {XA XB:Type} {P:Program} {c:Nat} {z:Value} {f:Bool} {I:World→Prop} {SA:Side XA} {SB:Side XB} {Rd:Nat→Prop} {Fin:XA→Goroutine→Prop} (hSA:Stable I SA Rd) (hSB:Stable I SB Rd) (hI:Bears I c)
  {gA g1 child:Goroutine} {gs:Array Goroutine} {w w1:World} {t:Trace} {q:Nat→Nat} {sl:Option (Nat×Nat)} {es:Array Event} {vs:List Value} {xA:XA} {xB:XB} {s r:Nat} {tm:Bool}
  (h0:gs[0]? = some gA) (hL:Leavers P t gs q) (hP:Past (fun _=>False) w.heap.size t) (hs:stepG P true gA w=.spawn g1 child w1 es) (hw:w1.heap.size=w.heap.size) (hes:∀ e∈es,EvL (fun _=>False) w.heap.size e)
  (hA:Cons P c z f I SA Rd Fin vs xA g1) (hB:Prod P c I SB Rd vs xB child) (hm:Meet I SA SB Rd c xA xB w1) (hc:w1.heap[c]? = some (.chan 0 #[] false s r tm)) :
  ∃ m' ops,runT P (crowd gs w sl) 0=(.next m',ops)∧Done P I SA Fin m' (t++ops):=by
 obtain ⟨gs',ops,hrun,hC⟩:=conf_fork (W:=SB.W xB) (Rd:=Rdc Rd c) (sl:=sl) h0 hL hP hs hw hes
 exact ⟨_,ops,hrun,open_claim hSA hSB hI vs xA g1 xB child hA (.inl hB) gs' w1 sl _ q s r tm hC hm hc⟩
end Go.Proofs.Ytoheddpnnjldgaa.Bi
end
namespace Go.Proofs.Ytoheddpnnjldgaa
open Go.RowKit
end Go.Proofs.Ytoheddpnnjldgaa
section
namespace Go.Proofs.Ytoheddpnnjldgaa.Bi
open Go Go.Conc
set_option maxHeartbeats 1000000
section
variable {P:Program} {main:Bool} {X Y:Type} {I:World→Prop} {S:Side X} {Rd:Nat→Prop} {fn:FuncId} {St:Y→X→Goroutine→Prop} {Q:Exit→Y→X→Act→Prop} {s:Y} {x:X} {a:Act}
def EvS (S:Side X) (Rd:Nat→Prop) (x:X) (B:Nat) (e:Event):Prop :=
 (∀ y,(MemAct.ofEvent e).touch? = some y→inB (S.W x) y.loc∨(inB Rd y.loc∧y.write=false))∧e.loc≠.mark .disable∧e.loc≠.mark .enable∧(MemAct.ofEvent e).low B
theorem gd_still {w:World} {es:Array Event} (h:S.Sit x w) (he:∀ e∈es,EvS S Rd x w.heap.size e):Gd I S Rd x x w w es :=
 ⟨id,h,⟨w.heap,w.drawn,rfl⟩,Nat.le_refl _,fun _ _ _=>rfl,fun _ h=>h,fun _ h=>.inl h,he⟩
theorem evS_read {B:Nat} {ad:Addr} (h:S.W x ad.block∨Rd ad.block) (hB:ad.block < B):EvS S Rd x B ⟨.cell ad,false,false⟩:=by
 refine ⟨fun y hy=>?_,by simp,by simp,by rw [ofEvent_cell0];exact hB⟩
 simp only [ofEvent_cell0,MemAct.touch?,Option.some.injEq] at hy
 subst hy
 exact h.imp id fun h=>⟨h,rfl⟩
theorem opsI_pure {ops:Array Oper} {i:Nat} {rest:List Nat} {o:Oper} {v:Value} (ho:ops[i]? = some o) (hw:Region.wanted o (yielded ops a.tmps)=true)
  (h:∀ w,(execOp a.eval o).run P w=.ok (.value v) w∧(execOp a.eval o).events P w #[] = #[]) (hn:opsI P main S.Sit (Gd I S Rd) St fn ops rest Q s x (a.put o.dst v)):opsI P main S.Sit (Gd I S Rd) St fn ops (i::rest) Q s x a :=
 opsI_value ho hw (fun _=>v) (fun _=>x) id (fun w hs=>⟨(h w).1,by rw [listed_nil (h w).2];exact gd_still hs fun e he=>by simp at he⟩) fun _ _=>hn
theorem opsI_read {ops:Array Oper} {i:Nat} {rest:List Nat} {o:Oper} {v:Value} (ho:ops[i]? = some o) (hw:Region.wanted o (yielded ops a.tmps)=true)
  (h:∀ w,S.Sit x w→(execOp a.eval o).run P w=.ok (.value v) w∧∀ e∈(execOp a.eval o).events P w #[],EvS S Rd x w.heap.size e) (hn:opsI P main S.Sit (Gd I S Rd) St fn ops rest Q s x (a.put o.dst v)):opsI P main S.Sit (Gd I S Rd) St fn ops (i::rest) Q s x a :=
 opsI_value ho hw (fun _=>v) (fun _=>x) id (fun w hs=>⟨(h w hs).1,gd_still hs fun e he=>(h w hs).2 e (mem_listed he)⟩) fun _ _=>hn
end
end Go.Proofs.Ytoheddpnnjldgaa.Bi
end
namespace Go.Proofs.Ytoheddpnnjldgaa
open Go.RowKit
end Go.Proofs.Ytoheddpnnjldgaa
section
namespace Go.Proofs.Ytoheddpnnjldgaa.Bi
open Go Go.Conc
set_option maxHeartbeats 1000000
section
variable {P:Program} {c:Nat} {z:Value} {f:Bool} {X:Type} {I:World→Prop} {S:Side X} {Rd:Nat→Prop} {Fin:X→Goroutine→Prop} {fn:FuncId} {Q:Exit→List Value→X→Act→Prop} {vs:List Value} {v:Value} {x:X} {a:Act}
abbrev StB (P:Program) (c:Nat) (I:World→Prop) (S:Side X) (Rd:Nat→Prop):List Value→X→Goroutine→Prop:=StopB P c I S Rd
abbrev StA (P:Program) (c:Nat) (z:Value) (f:Bool) (I:World→Prop) (S:Side X) (Rd:Nat→Prop) (Fin:X→Goroutine→Prop):List Value→X→Goroutine→Prop :=
 fun vs x g=>AtRecv P c z f g∧NextA P c z f I S Rd Fin vs x g
theorem served_at {b:Frame} {k:List Item} {cs:List Frame} {ops:Array Oper} {i:Nat} {rest:List Nat} {o:Oper} (ho:ops[i]? = some o) (v:Value) :
  Conc.served (core (G (b.at a (.inRegion ops (i::rest)::k)) cs)) v=G (b.at (a.put o.dst v) (.inRegion ops rest::k)) cs:=by
 have hfin:(b.at a (.inRegion ops (i::rest)::k)).finish v=b.at (a.put o.dst v) (.inRegion ops rest::k):=by rw [Frame.finish_at,ho];rfl
 simp [Conc.served,core,G,hfin]
theorem opsI_send {ops:Array Oper} {i:Nat} {rest:List Nat} {o:Oper} {z':Value} (ho:ops[i]? = some o) (hw:Region.wanted o (yielded ops a.tmps)=true)
  (hr:∀ w,(execOp a.eval o).run P w=.ok (.comm #[scase c v z'] true .send) w∧(execOp a.eval o).events P w #[] = #[])
  (h:opsI P false S.Sit (Gd I S Rd) (StB P c I S Rd) fn ops rest Q vs x (a.put o.dst undef)):opsI P false S.Sit (Gd I S Rd) (StB P c I S Rd) fn ops (i::rest) Q (v::vs) x a:=by
 intro b k cs hb hk hc
 refine .stop ⟨⟨rfl,z',fun w=>?_⟩,?_⟩
 ·rw [stepG_comm ho hw hk (hr w).1,listed_nil (hr w).2];rfl
 ·rw [served_at ho]
  exact (prod_iff ..).2 (h b k cs hb hk hc)
theorem opsI_recv {ops:Array Oper} {i:Nat} {rest:List Nat} {o:Oper} (ho:ops[i]? = some o) (hw:Region.wanted o (yielded ops a.tmps)=true)
  (hr:∀ w,(execOp a.eval o).run P w=.ok (.comm #[rcase c z] true (.recv f)) w∧(execOp a.eval o).events P w #[] = #[])
  (h:opsI P true S.Sit (Gd I S Rd) (StA P c z f I S Rd Fin) fn ops rest Q vs x (a.put o.dst (recvd f v true))):opsI P true S.Sit (Gd I S Rd) (StA P c z f I S Rd Fin) fn ops (i::rest) Q (v::vs) x a:=by
 intro b k cs hb hk hc
 refine .stop ⟨⟨rfl,fun w=>?_⟩,?_⟩
 ·rw [stepG_comm ho hw hk (hr w).1,listed_nil (hr w).2];rfl
 ·show Cons P c z f I S Rd Fin vs x _
  rw [served_at ho]
  exact (cons_iff ..).2 (h b k cs hb hk hc)
theorem opsI_recvEnd {ops:Array Oper} {i:Nat} {rest:List Nat} {o:Oper} (ho:ops[i]? = some o) (hw:Region.wanted o (yielded ops a.tmps)=true)
  (hr:∀ w,(execOp a.eval o).run P w=.ok (.comm #[rcase c z] true (.recv f)) w∧(execOp a.eval o).events P w #[] = #[])
  {b:Frame} {k:List Item} {cs:List Frame} (hk:b.kind≠.early) (h:Fin x (G (b.at (a.put o.dst (recvd f z false)) (.inRegion ops rest::k)) cs)) :
  TreeI P true S.Sit (Gd I S Rd) (StA P c z f I S Rd Fin []) x (G (b.at a (.inRegion ops (i::rest)::k)) cs):=by
 refine .stop ⟨⟨rfl,fun w=>?_⟩,?_⟩
 ·rw [stepG_comm ho hw hk (hr w).1,listed_nil (hr w).2];rfl
 ·show Fin x _
  rw [served_at ho]
  exact h
end
end Go.Proofs.Ytoheddpnnjldgaa.Bi
end
namespace Go.Proofs.Ytoheddpnnjldgaa
open Go.RowKit
end Go.Proofs.Ytoheddpnnjldgaa
section
namespace Go.Proofs.Ytoheddpnnjldgaa.Bi
open Go Go.Conc
set_option maxHeartbeats 1000000
section
variable {P:Program} {main:Bool} {X Y:Type} {Sit:X→World→Prop} {Gd:X→X→World→World→Array Event→Prop} {St:Y→X→Goroutine→Prop} {fn:FuncId} {Q:Exit→Y→X→Act→Prop} {s:Y} {x:X} {a:Act}
theorem get_set_ne {α:Type} {l:Array α} {i j:Nat} {v d:α} (h:i≠j):(l.setIfInBounds i v).getD j d=l.getD j d:=by
 simp [Array.getD_eq_getD_getElem?,Array.getElem?_setIfInBounds_ne h]
theorem ready_mem {md:Region.Mode} {ops:Array Oper} {l:Array Bool} {i:Nat}:i∈Region.ready md ops l↔i < ops.size∧l.getD i true=false∧∃ o,ops[i]? = some o∧∀ e∈o.after,Region.binds md e=true→l.getD e.on false=true:=by
 unfold Region.ready
 simp only [List.mem_filter,List.mem_range,Bool.and_eq_true,Bool.not_eq_true']
 refine and_congr Iff.rfl (and_congr Iff.rfl ?_)
 cases h:ops[i]? with
 | none=>simp
 | some o =>
  simp only [Option.map_some,Option.getD_some,Array.all_eq_true_iff_forall_mem,Bool.or_eq_true,Bool.not_eq_true',Option.some.injEq,exists_eq_left']
  refine forall_congr' fun e=>forall_congr' fun _=>?_
  cases Region.binds md e <;> simp
theorem least_false {l:Array Bool} {n:Nat} (h:∃ i,i < n∧l.getD i true=false):∃ i,i < n∧l.getD i true=false∧∀ j,j < i→l.getD j true=true:=by
 obtain ⟨i,h1,h2⟩:=h
 induction i using Nat.strongRecOn with
 | _ i ih =>
  by_cases hj:∃ j,j < i∧l.getD j true=false
  ·obtain ⟨j,h3,h4⟩:=hj
   exact ih j h3 (by omega) h4
  ·exact ⟨i,h1,h2,fun j h3=>by
    cases h5:l.getD j true with
    | true=>rfl
    | false=>exact absurd ⟨j,h3,h5⟩ hj⟩
def fwd (ops:Array Oper):Bool:=(List.range ops.size).all fun i=>match ops[i]? with
 | some o=>o.after.all fun e=>Nat.blt e.on i
 | none=>true
theorem fwd_spec {ops:Array Oper} (h:fwd ops=true) {i:Nat} {o:Oper} (ho:ops[i]? = some o) {e:Edge} (he:e∈o.after):e.on < i:=by
 unfold fwd at h
 have:=List.all_eq_true.1 h i (List.mem_range.2 (Array.getElem?_eq_some_iff.1 ho).1)
 simp only [ho] at this
 exact Nat.le_of_ble_eq_true (Array.all_eq_true_iff_forall_mem.1 this e he)
theorem getD_tf {l:Array Bool} {i:Nat} (hi:i < l.size) (b b':Bool):l.getD i b=l.getD i b':=by
 simp [Array.getD_eq_getD_getElem?,hi]
theorem count_set {l:Array Bool} {i:Nat} (hi:i < l.size) (h:l.getD i true=false):(l.setIfInBounds i true).toList.count false+1=l.toList.count false:=by
 have h1:l.toList[i]? = some false:=by
  have:l[i]? = some false:=by
   rw [Array.getElem?_eq_getElem hi]
   simp [Array.getD_eq_getD_getElem?,hi] at h
   simp [h]
  simpa using this
 rw [Array.toList_setIfInBounds]
 have hi':i < l.toList.length:=by simpa using hi
 have h2:l.toList[i]=false:=by
  have:=List.getElem?_eq_some_iff.1 h1
  exact this.2
 rw [List.count_set (h:=hi')]
 simp only [h2]
 have h3:0 < l.toList.count false:=List.count_pos_iff.2 (h2 ▸ List.getElem_mem hi')
 have h5:(if (false == false)=true then 1 else 0)=1:=rfl
 have h6:(if (true == false)=true then 1 else 0)=0:=rfl
 rw [h5,h6]
 omega
theorem wpI_det (T:Terms Sit Gd) (hm:P.follows .mixedOrders=true) {id:Nat} {ops:Array Oper} (d:Nat→Tmp) (vals:Nat→Value) (J:X→Act→Prop)
  (hd:∀ x w,Sit x w→Gd x x w { w with drawn:=w.drawn+1 } #[]) (hdst:∀ i o,ops[i]? = some o→o.dst=some (d i)) (hdd:∀ i j,i < ops.size→j < ops.size→d i=d j→i=j) (hfw:fwd ops=true)
  (hsz:∀ x a,J x a→∀ i,i < ops.size→d i < a.tmps.size) (hput:∀ x a i v,J x a→i < ops.size→J x (a.put (some (d i)) v)) (h0:J x a)
  (hop:∀ i o x a,ops[i]? = some o→J x a→(∀ e∈o.after,Region.binds .any e=true→a.eval (.tmp (d e.on))=vals e.on)→∀ (rest:List Nat) (Q':Exit→Y→X→Act→Prop),
   (∀ x',J x' a→opsI P main Sit Gd St fn ops rest Q' s x' (a.put o.dst (vals i)))→opsI P main Sit Gd St fn ops (i::rest) Q' s x a)
  (hfin:∀ x a,J x a→(∀ i,i < ops.size→a.eval (.tmp (d i))=vals i)→Q .normal s x a):wpI P main Sit Gd St fn (.region id ops true) Q s x a:=by
 have key:∀ (fuel:Nat) (l:Array Bool) (x:X) (a:Act),l.size=ops.size→l.toList.count false≤fuel→J x a→(∀ i,i < ops.size→l.getD i true=true→a.eval (.tmp (d i))=vals i)→anyI P main Sit Gd St fn .any ops Q fuel l s x a:=by
  intro fuel
  induction fuel with
  | zero =>
   intro l x a hl hc hJ hv
   refine hfin x a hJ fun i hi=>hv i hi ?_
   cases h:l.getD i true with
   | true=>rfl
   | false =>
    have h3:false∈l.toList:=by
     have hi':i < l.size:=by omega
     have h4:l[i]=false:=by simpa [Array.getD_eq_getD_getElem?,hi'] using h
     rw [← h4]
     exact Array.getElem_mem_toList hi'
    have:=List.count_pos_iff.2 h3
    omega
  | succ fuel ih =>
   intro l x a hl hc hJ hv
   refine ⟨fun h=>hfin x a hJ fun i hi=>hv i hi ?_,fun i hi rest Q' hQ=>?_⟩
   ·cases h1:l.getD i true with
    | true=>rfl
    | false =>
     obtain ⟨j,h2,h3,h4⟩:=least_false ⟨i,hi,h1⟩
     have h5:j∈Region.ready .any ops l:=ready_mem.2 ⟨h2,h3,ops[j],Array.getElem?_eq_getElem h2,fun e he _=>by
      have h6:=fwd_spec hfw (Array.getElem?_eq_getElem h2) he
      rw [getD_tf (by omega) false true]
      exact h4 _ h6⟩
     rw [h] at h5
     cases h5
   ·obtain ⟨h1,h2,o,h3,h4⟩:=ready_mem.1 hi
    refine hop i o x a h3 hJ (fun e he hb=>?_) rest Q' fun x' hJ'=>hQ _ _ _ ?_
    ·have h6:=fwd_spec hfw h3 he
     refine hv _ (by omega) ?_
     rw [getD_tf (by omega) true false]
     exact h4 e he hb
    ·rw [hdst i o h3]
     refine ih _ x' _ (by simpa using hl) ?_ (hput x' a i _ hJ' h1) fun j hj hlj=>?_
     ·have:=count_set (l:=l) (i:=i) (by omega) h2
      omega
     ·by_cases e:j=i
      ·subst e
       have:=hsz x' a hJ' j hj
       simp [Act.put,Act.eval,Array.getD,this]
      ·rw [get_set_ne (Ne.symm e)] at hlj
       rw [Act.eval_put (fun dd h e2=>e (hdd j i hj h1 (by injection h with h;injection e2 with e2;rw [h,e2])))]
       exact hv j hj hlj
 refine wpI_draw (hd x) fun t=>?_
 unfold Region.schedule
 rw [if_pos (by simp [hm])]
 refine anyI_sound T _ _ _ _ _ _ (key _ _ x a (by simp) (by simp [List.count_replicate]) h0 fun i hi h=>?_)
 simp [Array.getD_eq_getD_getElem?,hi] at h
end
end Go.Proofs.Ytoheddpnnjldgaa.Bi
end
namespace Go.Proofs.Ytoheddpnnjldgaa
open Go.RowKit
end Go.Proofs.Ytoheddpnnjldgaa
section
namespace Go.Proofs.Ytoheddpnnjldgaa.Bq
open Go Go.Conc Go.Proofs.Ytoheddpnnjldgaa.Bi
set_option maxHeartbeats 4000000
variable {P:Program} {J:Nat→Option Obj}
def InvJ (J:Nat→Option Obj) (T:Nat→Question→Nat) (n:Nat) (W:World):Prop:=∃ w c,W=rt J w T c∧HeapOk w∧n≤w.heap.size
theorem heapOk_put {w:World} (h:HeapOk w) (c:Nat) {o:Obj} (ho:okC o):HeapOk { w with heap:=w.heap.setIfInBounds c o }:=by
 intro b x hx
 rw [Array.getElem?_setIfInBounds] at hx
 split at hx
 ·split at hx
  ·cases hx;exact .inl ho
  ·cases hx
 ·exact h b x hx
theorem bears_J (hJ:∀ b o,J b=some o→junk o=true) (T:Nat→Question→Nat) (n c:Nat):Bears (InvJ J T n) c:=by
 refine ⟨fun W d ⟨w,c1,e,h1,h2⟩=>⟨w,d,by rw [e];rfl,h1,h2⟩,fun W s r s' r' tm b b' hc ⟨w,c1,e,h1,h2⟩=>⟨{ w with heap:=w.heap.setIfInBounds c (.chan 0 #[] b' s' r' tm) },c1,?_,heapOk_put h1 c trivial,by simpa using h2⟩⟩
 subst e
 show { rt J w T c1 with heap:=(un J w.heap).setIfInBounds c (.chan 0 #[] b' s' r' tm) } = rt J { w with heap:=w.heap.setIfInBounds c (.chan 0 #[] b' s' r' tm) } T c1
 rw [← un_set J w.heap c (o:=.chan 0 #[] b' s' r' tm) rfl]
 rfl
theorem comp_fork {XA XB:Type} {z:Value} {f:Bool} {gA:Goroutine} {w:World} {Post:Goroutine→World→Prop}
  (h:JOk J w→Live gA w→∀ T d,∃ (c:Nat) (SA:Side XA) (SB:Side XB) (Rd:Nat→Prop) (Fin:XA→Goroutine→Prop) (vs:List Value) (xA:XA) (xB:XB) (g1 child:Goroutine) (es:Array Event) (s r:Nat) (tm:Bool),
   stepG P true gA (rt J w T d)=.spawn g1 child (rt J w T d) es∧(∀ e∈es,EvL NoShun w.heap.size e)∧Stable (InvJ J T w.heap.size) SA Rd∧Stable (InvJ J T w.heap.size) SB Rd ∧
   Cons P c z f (InvJ J T w.heap.size) SA Rd Fin vs xA g1∧Prod P c (InvJ J T w.heap.size) SB Rd vs xB child∧Meet (InvJ J T w.heap.size) SA SB Rd c xA xB (rt J w T d)∧(rt J w T d).heap[c]? = some (.chan 0 #[] false s r tm) ∧
   ∀ x g' w' d',Fin x g'→SA.Sit x (rt J w' T d')→HeapOk w'→w.heap.size≤w'.heap.size→Post g' w'∧Live g' w'):Comp P J gA w Post:=by
 intro hJ hl T d0 gs sl t q h0 hL hPa
 obtain ⟨N,gs1,sl1,t1,q1,d1,d2,sl2,hr,hst,h01,hL1,hP1⟩:=until_own (P:=P) hl.st (W:=rt J w T d0) _ gs d0 sl t q (Nat.le_refl _) h0 hL hPa
 obtain ⟨c,SA,SB,Rd,Fin,vs,xA,xB,g1,child,es,s,r,tm,hs,hes,hSA,hSB,hA,hB,hm,hc,hfin⟩:=h hJ hl T d2
 have hsz:(rt J w T d2).heap.size=w.heap.size:=un_size J w.heap
 obtain ⟨m',ops,hrun,N2,gs',g',W',sl',t',q',x,hr2,h02,hF,hI,hSit,hL2,hP2⟩:=fork_claim (sl:=sl2) hSA hSB (bears_J (fun b o e=>(hJ b o e).1) T w.heap.size c) h01 hL1 (by rw [hsz];exact hP1) hs rfl (by rw [hsz];exact hes) hA hB hm hc
 obtain ⟨w',d',rfl,hH,hn⟩:=hI
 obtain ⟨hPost,hLive⟩:=hfin x g' w' d' hF hSit hH hn
 have hone:runNT P 1 (crowd gs1 ((rt J w T d0).at d1) sl1) t1=(.next m',t1++ops):=by
  simp only [runNT,hst]
  have e:(rt J w T d0).at d2=rt J w T d2:=rfl
  rw [e,hrun]
 exact ⟨N+(1+N2),gs',g',w',d',sl',t',q',Bq.runNT_then hr (Bq.runNT_then hone hr2),h02,hPost,hLive,hn,hL2,by rw [← un_size J w'.heap];exact hP2⟩
end Go.Proofs.Ytoheddpnnjldgaa.Bq
end
namespace Go.Proofs.Ytoheddpnnjldgaa
open Go.RowKit
end Go.Proofs.Ytoheddpnnjldgaa
section
namespace Go.Proofs.Ytoheddpnnjldgaa.Bq
open Go
set_option maxHeartbeats 2000000
section
variable {P:Program} {ok:Obj→Prop} [OkO ok]
open Extern.RuntimeError
instance i_rte_str (v:Value):TameC P ok (asString v):=⟨by unfold asString;all_goals exact tame_h⟩
instance i_rte_text (s:String):TameC P ok (text s):=⟨by unfold text;all_goals exact tame_h⟩
theorem t_bounds (args:Array Value):Tame P ok (boundsError args):=by
 obtain ⟨l⟩:=args
 rcases l with _ | ⟨v,_ | ⟨v2,r⟩⟩
 ·exact (Eq.refl true)
 ·cases v with
  | agg arr =>
   obtain ⟨m⟩:=arr
   rcases m with _ | ⟨a,_ | ⟨b,_ | ⟨c,_ | ⟨d,_ | ⟨e,r⟩⟩⟩⟩⟩
   iterate 4 (first | exact (Eq.refl true) | (cases a <;> exact (Eq.refl true)) | (cases a <;> first | exact (Eq.refl true) | (cases b <;> first | exact (Eq.refl true) | (cases c <;> exact (Eq.refl true)))))
   ·cases a with
    | int k x=>cases b with
     | int k1 y=>cases c with
      | bool s=>cases d with
       | int k2 z =>
        show Tame P ok (match (if s && x < 0 then boundsNegErrorFmts else boundsErrorFmts)[z.toNat]? with | some fmt => text ("runtime error: " ++ (fmt.replace "%x" (toString (if s then x else IntKind.u64.wrap x))).replace "%y" (toString y)) | none => stuck "boundsError: no such code")
        split <;> all_goals exact tame_h
       | _=>exact (Eq.refl true)
      | _=>exact (Eq.refl true)
     | _=>exact (Eq.refl true)
    | _=>exact (Eq.refl true)
   ·first | exact (Eq.refl true) | (cases a <;> first | exact (Eq.refl true) | (cases b <;> first | exact (Eq.refl true) | (cases c <;> first | exact (Eq.refl true) | (cases d <;> exact (Eq.refl true)))))
  | _=>exact (Eq.refl true)
 ·first | exact (Eq.refl true) | (cases v <;> first | exact (Eq.refl true) | (rename_i arr;obtain ⟨m⟩:=arr;rcases m with _ | ⟨a,m⟩ <;> exact (Eq.refl true)))
instance i_rte_desc (v:Value):TameC P ok (described v):=⟨by unfold described;all_goals exact tame_h⟩
instance i_rte_pkg (i:TypeInfo):TameC P ok (pkgpathOf i):=⟨by unfold pkgpathOf;all_goals exact tame_h⟩
theorem t_tae (args:Array Value):Tame P ok (typeAssertionError args):=by unfold typeAssertionError;all_goals exact tame_h
theorem t_unhash (args:Array Value):Tame P ok (unhashableTypeError args):=by
 obtain ⟨l⟩:=args
 rcases l with _ | ⟨v,_ | ⟨v2,r⟩⟩
 ·exact (Eq.refl true)
 ·cases v with
  | agg arr =>
   obtain ⟨m⟩:=arr
   rcases m with _ | ⟨a,_ | ⟨b,r⟩⟩
   ·exact (Eq.refl true)
   ·show Tame P ok (described a >>= fun x => match x with | some t => text ("hash of unhashable type: " ++ t.str) | _ => runtimePanic .nilDeref)
    all_goals exact tame_h
   ·exact (Eq.refl true)
  | _=>exact (Eq.refl true)
 ·first | exact (Eq.refl true) | (cases v <;> first | exact (Eq.refl true) | (rename_i arr;obtain ⟨m⟩:=arr;rcases m with _ | ⟨a,_ | ⟨b,r⟩⟩ <;> exact (Eq.refl true)))
theorem t_nothing (args:Array Value):Tame P ok (nothing args):=by unfold nothing;all_goals exact tame_h
theorem t_estr (args : Array Value) : Tame P ok (do pure (.string ("runtime error: ".toUTF8 ++ (← asString (args.getD 0 (.tuple #[]))))) : Sem Value) := by all_goals exact tame_h
theorem t_plain (args:Array Value):Tame P ok (do pure (.string (← asString (args.getD 0 (.tuple #[])))):Sem Value):=by all_goals exact tame_h
theorem t_eas (args : Array Value) : Tame P ok (do pure (.string ("runtime error: ".toUTF8 ++ (← asString ((← asAgg (args.getD 0 (.tuple #[]))).getD 0 (.tuple #[]))))) : Sem Value) := by all_goals exact tame_h
theorem t_kind (f:Nat→String) (args:Array Value):Tame P ok (do pure (strVal (f (← asInt (args.getD 0 (.tuple #[]))).toNat)):Sem Value):=by all_goals exact tame_h
theorem t_nilp : Tame P ok (text "runtime error: panic called with nil argument") := by all_goals exact tame_h
end
end Go.Proofs.Ytoheddpnnjldgaa.Bq
end
namespace Go.Proofs.Ytoheddpnnjldgaa
open Go.RowKit
def Rd (w:World) (B size:Nat) (A:Option Addr) (n:Nat) (xs:List Value):Prop :=
 xs.length=n * size∧(0 < n→∃ b o,A=some ⟨b,o,none⟩∧b < B∧∀ j u,xs[j]? = some u→w.cell? ⟨b,o+j,none⟩=some u)
section
variable {w w':World} {B B' size n:Nat} {A:Option Addr} {xs:List Value}
theorem Rd.empty:Rd w B size A 0 []:=⟨by simp,fun h=>absurd h (by omega)⟩
theorem Rd.keep (h:Rd w B size A n xs) (hk:∀ b o,b < B→w'.cell? ⟨b,o,none⟩=w.cell? ⟨b,o,none⟩):Rd w' B size A n xs :=
 ⟨h.1,fun hn=>by
  obtain ⟨b,o,e,hb,hc⟩:=h.2 hn
  exact ⟨b,o,e,hb,fun j u hu=>(hk _ _ hb).trans (hc j u hu)⟩⟩
theorem Rd.more (h:Rd w B size A n xs) (hB:B≤B'):Rd w B' size A n xs :=
 ⟨h.1,fun hn=>by
  obtain ⟨b,o,e,hb,hc⟩:=h.2 hn
  exact ⟨b,o,e,by omega,hc⟩⟩
theorem Rd.below (h:Rd w B size A n xs) (hb:Below B w w'):Rd w' B size A n xs:=h.keep fun _ _ hp=>hb.cell hp
theorem Rd.cells (h:Rd w B size A n xs) (hn:0 < n):∃ b o,A=some ⟨b,o,none⟩∧b < B∧∀ j u,xs[j]? = some u→w.cell? ⟨b,o+j,none⟩=some u:=h.2 hn
end
def rc (l:List (Int×Int)):List Value:=l.flatMap fun p=>[.int .i64 p.1,.int .i64 p.2]
def ic (l:List Int):List Value:=l.map fun n=>.int .i64 n
theorem rc_cons (p:Int×Int) (l:List (Int×Int)):rc (p::l)=.int .i64 p.1 :: .int .i64 p.2::rc l:=rfl
theorem rc_append (l r:List (Int×Int)):rc (l++r)=rc l++rc r:=by simp [rc]
theorem rc_length (l:List (Int×Int)):(rc l).length=l.length * 2:=by
 induction l with
 | nil=>rfl
 | cons p l ih=>rw [rc_cons];simp only [List.length_cons,ih];omega
theorem rc_get (l:List (Int×Int)) (k:Nat) (p:Int×Int) (h:l[k]? = some p):(rc l)[k * 2]? = some (.int .i64 p.1)∧(rc l)[k * 2+1]? = some (.int .i64 p.2):=by
 induction l generalizing k with
 | nil=>simp at h
 | cons q l ih =>
  rw [rc_cons]
  cases k with
  | zero =>
   simp only [List.getElem?_cons_zero,Option.some.injEq] at h
   subst h
   exact ⟨rfl,rfl⟩
  | succ k =>
   simp only [List.getElem?_cons_succ] at h
   obtain ⟨h0,h1⟩:=ih k h
   have e:(k+1) * 2=k * 2+1+1:=by omega
   rw [e]
   simp only [List.getElem?_cons_succ]
   exact ⟨h0,h1⟩
theorem ic_length (l:List Int):(ic l).length=l.length:=by simp [ic]
theorem ic_get (l:List Int) (k:Nat) (n:Int) (h:l[k]? = some n):(ic l)[k]? = some (.int .i64 n):=by simp [ic,h]
theorem Rd.at1 {w:World} {B:Nat} {A:Option Addr} {n:Nat} {l:List Int} (h:Rd w B 1 A n (ic l)) {k:Nat} (hk:k < n) :
  ∃ b o x,A=some ⟨b,o,none⟩∧b < B∧l.drop k=x::l.drop (k+1)∧w.cell? ⟨b,o+k,none⟩=some (.int .i64 x):=by
 have hl:l.length=n:=by have:=h.1;rw [ic_length] at this;omega
 obtain ⟨b,o,e,hb,hc⟩:=h.2 (by omega)
 have hg:l[k]? = some l[k]:=List.getElem?_eq_getElem (by omega)
 exact ⟨b,o,l[k],e,hb,List.drop_eq_getElem_cons (by omega),hc _ _ (ic_get l k _ hg)⟩
theorem Rd.len2 {w:World} {B:Nat} {A:Option Addr} {n:Nat} {l:List (Int×Int)} (h:Rd w B 2 A n (rc l)):l.length=n:=by have:=h.1;rw [rc_length] at this;omega
theorem Rd.len1 {w:World} {B:Nat} {A:Option Addr} {n:Nat} {l:List Int} (h:Rd w B 1 A n (ic l)):l.length=n:=by have:=h.1;rw [ic_length] at this;omega
structure Bk (w:World) (g:Nat) (cs:Array Value):Prop where
 lt:g < w.heap.size
 cell:∀ o,w.cell? ⟨g,o,none⟩=cs[o]?
 frozen:∀ o,w.frozen? ⟨g,o,none⟩=false
variable {w w':World} {g:Nat} {cs:Array Value}
theorem Bk.new (w:World) (t:TypeId) (cs:Array Value):Bk (w.alloc (.cells cs t)) w.heap.size cs:=by
 have e:(w.alloc (.cells cs t)).heap[w.heap.size]? = some (.cells cs t):=heap_alloc_new w _
 refine ⟨by simp,fun o=>by simp only [World.cell?,e];rfl,fun o=>by simp only [World.frozen?,e];simp⟩
theorem Bk.kept {B:Nat} (h:Bk w g cs) (hb:Below B w w') (hg:g < B):Bk w' g cs :=
 ⟨Nat.lt_of_lt_of_le h.lt hb.size,fun o=>(hb.cell (p:=⟨g,o,none⟩) hg).trans (h.cell o),fun o=>(hb.frozen (p:=⟨g,o,none⟩) hg).trans (h.frozen o)⟩
theorem Bk.below (h:Bk w g cs) (hb:Below w.heap.size w w'):Bk w' g cs:=h.kept hb h.lt
theorem Bk.put (h:Bk w g cs) (o:Nat) (u:Value) (ho:o < cs.size):Bk (w.setCell ⟨g,o,none⟩ u) g (cs.setIfInBounds o u):=by
 refine ⟨by simpa using h.lt,fun o'=>?_,fun o'=>(World.frozen?_setCell _ _ _ _).trans (h.frozen o')⟩
 have hc:=h.cell o
 have hs:w.cell? ⟨g,o,none⟩=some cs[o]:=by rw [hc,Array.getElem?_eq_getElem ho]
 by_cases e:o=o'
 ·subst e
  rw [World.cell?_setCell_same _ _ _ (by rw [hs])]
  simp [ho]
 ·rw [World.cell?_setCell_other _ _ _ _ (fun h=>by injection h;contradiction),h.cell o',Array.getElem?_setIfInBounds_ne e]
theorem Bk.range (h:Bk w g cs):w.rangeAt g 0 cs.toList:=fun j v hv=>by rw [h.cell,Nat.zero_add];simpa using hv
theorem size_setCells (b:Nat):∀ (vs:List Value) (o:Nat) (w:World),(w.setCells b o vs).heap.size=w.heap.size
 | [],_,_=>rfl
 | v::r,o,w=>by rw [World.setCells,size_setCells b r];simp
structure Oth (w w':World) (g:Nat):Prop where
 os:w'.os=w.os
 tape:w'.tape=w.tape
 output:w'.output=w.output
 size:w'.heap.size=w.heap.size
 block:∀ k,k≠g→w'.heap[k]? = w.heap[k]?
theorem Oth.refl (w:World) (g:Nat):Oth w w g:=⟨rfl,rfl,rfl,rfl,fun _ _=>rfl⟩
theorem Oth.trans {a b c:World} {g:Nat} (h:Oth a b g) (k:Oth b c g):Oth a c g :=
 ⟨k.os.trans h.os,k.tape.trans h.tape,k.output.trans h.output,k.size.trans h.size,fun x hx=>(k.block x hx).trans (h.block x hx)⟩
theorem Oth.setCell (w:World) (p:Addr) (u:Value):Oth w (w.setCell p u) p.block:=⟨rfl,rfl,rfl,by simp,fun k hk=>Below.heap_setCell w p u k hk⟩
theorem Oth.setCells (b:Nat):∀ (vs:List Value) (o:Nat) (w:World),Oth w (w.setCells b o vs) b
 | [],_,w=>Oth.refl w b
 | v::r,o,w=>(Oth.setCell w ⟨b,o,none⟩ v).trans (Oth.setCells b r (o+1) _)
theorem ret_blk {P : Program} {fn : Func} {R : Ending → World → Prop} {a : Act} {w : World} (t : Tmp) (ty : TypeId) (hr : fn.results = #[.cell t ty]) (hd : a.defers = [])
   (g:Nat) (hx:a.tmps.getD t undef=.pointer (some ⟨g,0,none⟩)) (cs:Array Value) (hB:Bk w g cs) (d:TypeDesc) (hu:P.underlying ty=some d) (hw:d.isRow=true) (hi:(P.info? ty).map (·.size)=some cs.size)
   (h:R (.returned (.agg cs)) w):bodyPost P fn R .ret a w:=by
 refine ⟨hd,.agg cs,?_,h⟩
 have hl:=run_loadVar_mid w g 0 ty cs.toList d hB.range hu hw (by simpa using hi)
 simp only [Array.toArray_toList] at hl
 have hx':a.tmps[t]?.getD undef=.pointer (some ⟨g,0,none⟩):=by simpa using hx
 simp [results,hr,hx',asAddr,hl,Sem.run_bind]
theorem ret_blk1 {P : Program} {fn : Func} {R : Ending → World → Prop} {a : Act} {w : World} (t t' : Tmp) (ty : TypeId) (hr : fn.results = #[.cell t ty, .tmp t']) (hd : a.defers = [])
   (g:Nat) (v:Value) (hx:a.tmps.getD t undef=.pointer (some ⟨g,0,none⟩)) (hx':a.tmps.getD t' undef=v) (cs:Array Value) (hB:Bk w g cs) (d:TypeDesc)
   (hu:P.underlying ty=some d) (hw:d.isRow=true) (hi:(P.info? ty).map (·.size)=some cs.size)
   (h:R (.returned (.tuple #[.agg cs,v])) w):bodyPost P fn R .ret a w:=by
 refine ⟨hd,.tuple #[.agg cs,v],?_,h⟩
 have hl:=run_loadVar_mid w g 0 ty cs.toList d hB.range hu hw (by simpa using hi)
 simp only [Array.toArray_toList] at hl
 have e:a.tmps[t]?.getD undef=.pointer (some ⟨g,0,none⟩):=by simpa using hx
 have e':a.tmps[t']?.getD undef=v:=by simpa using hx'
 simp [results,hr,e,e',asAddr,hl,Sem.run_bind]
theorem own_form {base e size n:Nat} {v:Value} {xs:List Value} (h:w.ownsRow base e size v n xs) (hn:0 < n) :
  ∃ g cap,v=.slice (some ⟨g,0,none⟩) n cap∧n≤cap∧cap≤maxLen∧base≤g∧g < w.heap.size∧w.rangeAt g 0 xs:=by
 have hc:=h
 rcases h.2 with ⟨_,h0⟩ | ⟨g,cap,cur,rfl,hb,hg,hc1,hc2,_⟩
 ·omega
 ·refine ⟨g,cap,rfl,hc1,hc2,hb,(Array.getElem?_eq_some_iff.1 hg).1,fun j u hu=>?_⟩
  have:=hc.cells (g:=g) rfl j u hu
  rwa [Addr.add_mid] at this
theorem ret_int {k:IntKind} {a b:Int} (h:a=b):Ending.returned (.int k a)=.returned (.int k b):=by rw [h]
theorem ret_bool {a b:Bool} (h:a=b):Ending.returned (.bool a)=.returned (.bool b):=by rw [h]
section
variable {P:Program} {ops:Array Oper} {Q:Exit→Act→World→Prop} {S:Array Bool→World→Prop}
def DC (ops:Array Oper) (L:Array Bool):Prop :=
 L.size=ops.size∧∀ (j:Nat) (o:Oper),ops[j]? = some o→L.getD j true=true→∀ e∈o.after,Region.binds .any e=true→L.getD e.on false=true
theorem DC.start:DC ops (Array.replicate ops.size false):=by
 refine ⟨by simp,fun j o hj hl=>?_⟩
 have hlt:j < ops.size:=(Array.getElem?_eq_some_iff.1 hj).1
 simp [hlt] at hl
theorem DC.step {L:Array Bool} {i:Nat} (h:DC ops L) (hi:i∈Region.ready .any ops L):DC ops (L.setIfInBounds i true):=by
 obtain ⟨h0,oi,hoi,hall⟩:=mem_ready.1 hi
 refine ⟨by simpa using h.1,fun j o hj hl e he hb=>?_⟩
 by_cases hji:i=j
 ·subst hji
  rw [hoi] at hj
  injection hj with hj
  subst hj
  exact getD_set_true (hall e he hb)
 ·rw [getD_set_ne true hji] at hl
  exact getD_set_true (h.2 j o hj hl e he hb)
def waitsFor (ops:Array Oper) (m i:Nat):Bool:=match ops[m]? with | some om=>om.after.any fun e=>Region.binds .any e && e.on == i | none=>false
theorem DC.wait {L:Array Bool} {i m:Nat} (h:DC ops L) (hw:waitsFor ops m i=true) (hi:L.getD i true=false):L.getD m true=false:=by
 cases hm:L.getD m true with
 | false=>rfl
 | true =>
  unfold waitsFor at hw
  cases ho:ops[m]? with
  | none=>rw [ho] at hw;cases hw
  | some om =>
   rw [ho] at hw
   obtain ⟨e,he,hb⟩:=Array.any_eq_true'.1 hw
   simp only [Bool.and_eq_true,beq_iff_eq] at hb
   have h1:=h.2 m om ho hm e he hb.1
   rw [hb.2] at h1
   rcases Nat.lt_or_ge i L.size with h' | h'
   ·simp [h'] at hi h1;rw [hi] at h1;cases h1
   ·simp [Array.getElem?_eq_none h'] at h1
def wpAnyS (P:Program) (ops:Array Oper) (Q:Exit→Act→World→Prop) (S:Array Bool→World→Prop):Nat→Array Bool→Act→World→Prop
 | 0,listed,a,w=>Region.ready .any ops listed=[]∧Q .normal a w
 | fuel+1,listed,a,w =>
  (Region.ready .any ops listed=[]→Q .normal a w) ∧
  ∀ i∈Region.ready .any ops listed,wpOp P ops Q i (fun a' w'=>S (listed.setIfInBounds i true) w'∧wpAnyS P ops Q S fuel (listed.setIfInBounds i true) a' w') a w
theorem wpAny_of_S:∀ (fuel:Nat) (listed:Array Bool) (a:Act) (w:World),wpAnyS P ops Q S fuel listed a w→wpAny P .any ops Q fuel listed a w
 | 0,_,_,_,h=>h
 | fuel+1,_,_,_,h=>⟨h.1,fun i hi=>wpOp_mono (fun a' w' h'=>wpAny_of_S fuel _ a' w' h'.2) (h.2 i hi)⟩
theorem wpAnyS_first {i:Nat} {oi:Oper} {v:Value} (hi:ops[i]? = some oi)
  (hsel:∀ (j:Nat) (o:Oper) cs b,ops[j]? = some o→o.op≠.select cs b)
  (hQ:∀ c a w,Q (.panic c) (a.put oi.dst v) w→Q (.panic c) a w) (hSi:∀ L w,S (L.setIfInBounds i true) w↔S L w) :
  ∀ (fuel:Nat) (listed:Array Bool) (a:Act) (w:World),
   (∀ j oj,ops[j]? = some oj→j≠i→listed.getD j true=false→(∀ e∈oj.after,Region.binds .any e=true→e.on≠i)→oi.apart ops oj=true) →
   i∈Region.ready .any ops listed→YieldsIf P ops (fun w'=>∃ L,DC ops L∧L.getD i true=false∧S L w') oi v a→DC ops listed→S listed w →
   wpAnyS P ops Q S fuel (listed.setIfInBounds i true) (a.put oi.dst v) w→wpAnyS P ops Q S (fuel+1) listed a w:=by
 intro fuel
 induction fuel with
 | zero =>
  intro listed a w _ hr hy hD hS H
  refine ⟨fun h=>(by rw [h] at hr;cases hr),fun j hj=>?_⟩
  by_cases hji:j=i
  ·subst hji;exact hy.wpOp hi ⟨listed,hD,(mem_ready.1 hr).1,hS⟩ ⟨(hSi _ _).2 hS,H⟩
  ·have:=ready_mono hj hji
   rw [H.1] at this
   cases this
 | succ fuel ih =>
  intro listed a w hfree hr hy hD hS H
  refine ⟨fun h=>(by rw [h] at hr;cases hr),fun j hj=>?_⟩
  by_cases hji:j=i
  ·subst hji;exact hy.wpOp hi ⟨listed,hD,(mem_ready.1 hr).1,hS⟩ ⟨(hSi _ _).2 hS,H⟩
  ·have h1:=H.2 j (ready_mono hj hji)
   obtain ⟨hjun,oj,hoj,hall⟩:=mem_ready.1 hj
   have hnot:∀ e∈oj.after,Region.binds .any e=true→e.on≠i:=fun e he hb heq=>by
    have h1:=hall e he hb
    have h0:=(mem_ready.1 hr).1
    rw [heq] at h1
    rcases Nat.lt_or_ge i listed.size with h' | h'
    ·simp [h'] at h0 h1;rw [h0] at h1;cases h1
    ·simp [Array.getElem?_eq_none h'] at h1
   have h2:=wpOp_putIf hoj (hfree j oj hoj hji hjun hnot) (fun cs b=>hsel i oi cs b hi) (fun cs b=>hsel j oj cs b hoj) hQ hy h1
   have hfree':∀ k ok,ops[k]? = some ok→k≠i→(listed.setIfInBounds j true).getD k true=false →
     (∀ e∈ok.after,Region.binds .any e=true→e.on≠i)→oi.apart ops ok=true:=fun k ok hk hki hun hno=>by
    refine hfree k ok hk hki ?_ hno
    by_cases hjk:j=k
    ·subst hjk;exact hjun
    ·rw [getD_set_ne true hjk] at hun;exact hun
   refine wpOp_mono (fun a' w' h3=>?_) h2
   have hS':S (listed.setIfInBounds j true) w':=by
    have:=h3.2.1
    rw [Array.setIfInBounds_comm _ _ (Ne.symm hji)] at this
    exact (hSi _ _).1 this
   refine ⟨hS',ih (listed.setIfInBounds j true) a' w' hfree' (ready_mono hr (Ne.symm hji)) h3.1 (hD.step hj) hS' ?_⟩
   rw [Array.setIfInBounds_comm _ _ hji]
   exact h3.2.2
def wpG (P:Program) (ops:Array Oper) (Q:Exit→Act→World→Prop) (S:Array Bool→World→Prop) (fuel:Nat) (listed:Array Bool) (a:Act) (w:World):Prop :=
 DC ops listed→S listed w→wpAnyS P ops Q S fuel listed a w
theorem wpG_take {i:Nat} {oi:Oper} {v:Value} {fuel:Nat} {listed:Array Bool} {a:Act} {w:World} (hi:ops[i]? = some oi)
  (hs:(Region.noSelect ops && Region.free .any ops listed i && (Region.ready .any ops listed).contains i)=true)
  (hSi:∀ L w,S (L.setIfInBounds i true) w↔S L w)
  (hQ:∀ c a w,Q (.panic c) (a.put oi.dst v) w→Q (.panic c) a w) (hy:YieldsIf P ops (fun w'=>∃ L,DC ops L∧L.getD i true=false∧S L w') oi v a)
  (h:wpG P ops Q S fuel (listed.setIfInBounds i true) (a.put oi.dst v) w):wpG P ops Q S (fuel+1) listed a w:=by
 intro hD hS
 simp only [Bool.and_eq_true] at hs
 obtain ⟨⟨h1,h2⟩,h3⟩:=hs
 have hr:i∈Region.ready .any ops listed:=by simpa using h3
 exact wpAnyS_first hi (Region.noSelect_spec h1) hQ hSi fuel listed a w (Region.free_spec hi h2) hr hy hD hS (h (hD.step hr) ((hSi _ _).2 hS))
theorem wpG_one {i:Nat} {o:Oper} {fuel:Nat} {listed:Array Bool} {a:Act} {w:World} (hr:Region.ready .any ops listed=[i]) (ho:ops[i]? = some o)
  (hw:Region.wanted o (yielded ops a.tmps)=true)
  (h:S listed w→∀ K':Act→World→Prop,Shut (∀ a w,S (listed.setIfInBounds i true) w→wpG P ops Q S fuel (listed.setIfInBounds i true) a w→K' a w)→Oper.wp P o a w K' Q):wpG P ops Q S (fuel+1) listed a w:=by
 intro hD hS
 refine ⟨fun h0=>(by rw [hr] at h0;cases h0),fun j hj=>?_⟩
 have hD':=hD.step hj
 rw [hr] at hj
 obtain rfl:j=i:=by simpa using hj
 refine wpOp_step ho (fun K' hK=>?_)
 rw [if_pos hw]
 exact h hS K' (fun a w hS' hW=>hK a w ⟨hS',hW hD' hS'⟩)
theorem wpG_step {i:Nat} {o:Oper} {fuel:Nat} {listed:Array Bool} {a:Act} {w:World} (hr:Region.ready .any ops listed=[i]) (ho:ops[i]? = some o)
  (hw:Region.wanted o (yielded ops a.tmps)=true)
  (h:S listed w→∀ K':Act→World→Prop,Shut (∀ a w,S (listed.setIfInBounds i true) w→(∀ W,wpG P ops Q S fuel (listed.setIfInBounds i true) a W)→K' a w)→Oper.wp P o a w K' Q):wpG P ops Q S (fuel+1) listed a w :=
 wpG_one hr ho hw fun hS K' hK=>h hS K' fun a w hS' hW=>hK a w hS' (hW w)
theorem wpG_done {listed:Array Bool} {a:Act} {w:World} {fuel:Nat} (hr:Region.ready .any ops listed=[]) (h:S listed w→Q .normal a w):wpG P ops Q S fuel listed a w:=by
 intro _ hS
 cases fuel with
 | zero=>exact ⟨hr,h hS⟩
 | succ fuel=>exact ⟨fun _=>h hS,by rw [hr];simp⟩
theorem wpG_end {listed:Array Bool} {a:Act} {w:World} {fuel:Nat} (hr:Region.ready .any ops listed=[]) (h:∀ W,S listed W→Q .normal a W):wpG P ops Q S fuel listed a w:=wpG_done hr (h w)
theorem wp_region_G (S:Array Bool→World→Prop) (n:Nat) {id:Nat} {a:Act} {w:World} (hm:P.follows .mixedOrders=true) (hn:ops.size=n) (hS:S (Array.replicate n false) w.drew)
  (h:∀ W,wpG P ops Q S n (Array.replicate n false) a W):(Code.region id ops true).wp P Q a w:=by
 subst hn
 exact wp_region_any hm (wpAny_of_S _ _ _ _ (h _ DC.start hS))
theorem no_of {b:Bool} (h:b=true) (h':b=false):False:=by rw [h] at h';cases h'
end
section
variable {w W W':World} {p:Nat→Prop} {g:Nat} {cs:Array Value}
end
section
open Go.ChangeShapes Go.WideShapes Go.ChangeAt Go.RowKit
theorem Try.own:ownKnob Try.prog.godebug=none:=by kernel_rfl
theorem Try.laid:laidOutB Try.prog=true:=by kernel_rfl
section
variable {H:Type} {enc:TypeId×Value→H} {P:Program} {W W':World}
theorem all_stay (hl:laidOutB P=true) (hb:Below W.heap.size W W') (sp:Nat→Bool):∀ {ts:List TypeId} {vs:List Value} {ds:List (DataW H)} {ps:List MemPlace},
  (∀ t∈ts,P.readableRec t=true∧t < P.types.size)→DataW.TrodAll enc P W 0 (fun _=>true) true ts vs ds ps→(∀ x∈ps,x.block < W.heap.size)→(∀ x∈ps,sp x.block=true)→DataW.TrodAll enc P W' 0 sp true ts vs ds ps
 | [],vs,ds,ps,_,h,_,_=>by
  obtain ⟨rfl,rfl,rfl⟩:=trodAll_nil h
  exact trodAll_mk0
 | t::ts,vs,ds,ps,hr,h,hlt,hsp=>by
  obtain ⟨v,vs',d,ds',p,q,rfl,rfl,rfl,h1,h2⟩:=trodAll_cons h
  exact trodAll_cons_mk (WideElems.Trod_stays hl (hr t (by simp)).1 (hr t (by simp)).2 h1 (fun x hx=>hb.same (hlt x (List.mem_append_left _ hx))) (fun x hx=>hsp x (List.mem_append_left _ hx)))
   (all_stay hl hb sp (fun t' ht'=>hr t' (List.mem_cons_of_mem _ ht')) h2 (fun x hx=>hlt x (List.mem_append_right _ hx)) (fun x hx=>hsp x (List.mem_append_right _ hx)))
theorem law_post {f : Func} {s : ChangeSpec} {args : Array Value} {ds : List (DataW H)} {before : List MemPlace} {tb : TypeId} (hl : laidOutB P = true) (hr : ∀ t ∈ f.params.toList, P.readableRec t = true ∧ t < P.types.size)
   (hres:f.resultTypes = #[tb]) (htb:P.underlying tb=some .bool) (hvars:s.vars=[]) (hW:DataW.Whole enc P f.params.toList s.vars false W args.toList ds [] before)
   (hfr:(s.fn H (ds++[])).results=[.lit (.bool true)]) (hfa:(s.fn H (ds++[])).args=ds) (hfv:(s.fn H (ds++[])).vars=[]) (hb:Below W.heap.size W W') :
   s.post enc P f false true false false W args (.bool true) W':=by
 have hlt:∀ x∈before,x.block < W.heap.size:=fun x hx=>hW.lt x hx
 have hin:∀ x∈before,(fun b=>decide (b < W.heap.size)) x.block=true:=fun x hx=>by simpa using hlt x hx
 have hW2:=hW
 obtain ⟨p,q,hA,hV,hpq,hz,-⟩:=hW
 rw [hvars] at hV
 obtain ⟨-,rfl⟩:=trodVars_none hV
 rw [List.append_nil] at hpq
 subst hpq
 have hargs:∀ sp:Nat→Bool,(∀ x∈before,sp x.block=true)→DataW.TrodAll enc P W' 0 sp true f.params.toList args.toList (s.fn H (ds++[])).args before:=fun sp hsp=>by
   rw [hfa]
   exact all_stay hl hb sp hr hA hlt hsp
 have hr1:∀ (b:Nat) (sp:Nat→Bool) (hd:Bool),DataW.TrodAll enc P W' b sp hd f.resultTypes.toList ((Value.bool true).resultList f.resultTypes.size) (s.fn H (ds++[])).results []:=fun b sp hd=>by
   rw [hfr,hres]
   exact trodAll_cons_mk (shut_bool htb _) trodAll_mk0
 have hv1:∀ sp:Nat→Bool,DataW.TrodVars enc P W' sp s.vars (s.fn H (ds++[])).vars []:=fun sp=>by
   rw [hfv,hvars]
   rfl
 refine ⟨ds,[],before,[],before,[],hW2,hr1 _ _ _,hargs _ hin,hv1 _,World.keptBut_mono (fun x hx=>⟨hx,.inr (by simpa using hx)⟩) (hb.frame (·∈before)),fun _=>⟨?_,_,_,([]++before)++[],⟨[]++before,[],trodAll_append (hargs _ (fun _ _=>rfl)) (hr1 _ _ _),hv1 _,rfl,?_,?_⟩,?_⟩⟩
 · exact ok_one hres rfl (okWide_bool_mk htb _)
 · intro b off hx
   have hx':MemPlace.cell b off∈before:=by simpa using hx
   rw [hb.frozen (hlt _ hx')]
   exact hz b off hx'
 · intro h;cases h
 · intro x hx _
   simpa using hx
theorem read_ints {t e:TypeId} {v:Value} {d:DataW H} {ps:List MemPlace} {base:Nat} (ht:P.underlying t=some (.slice e)) (he:P.underlying e=some (.int .i64)) (hc:P.cellsOf e=1) (hv:Value.okWide P W .any base t v)
  (h:DataW.Trod enc P W 0 (fun _=>true) true t v d ps) (hlt:∀ x∈ps,x.block < W.heap.size):∃ A n c l,v=.slice A n c∧Rd W W.heap.size 1 A n (ic l)∧n≤9223372036854775807:=by
 obtain ⟨a0,len,cap,rfl⟩:=okWide_slice ht hv
 obtain ⟨fuel,hf⟩:=h
 rcases open_ints ht he hc hf with ⟨hcs,hx⟩ | ⟨a,len',cap',zs,hcs,_,hl,hm,hz,hx,hcell,hwz⟩
 ·simp [Value.cells] at hcs
  obtain ⟨rfl,rfl,rfl⟩:=hcs
  exact ⟨none,0,0,[],rfl,Rd.empty,by omega⟩
 ·simp [Value.cells] at hcs
  obtain ⟨rfl,rfl,rfl⟩:=hcs
  simp only [if_true] at hz
  simp only [Prod.mk.injEq] at hx
  obtain ⟨-,rfl⟩:=hx
  refine ⟨some a,len,cap,zs.take len,rfl,⟨by rw [ic_length,List.length_take];omega,fun hn=>?_⟩,by unfold maxLen at hm;omega⟩
  obtain ⟨b,off,spot⟩:=a
  have hspot:spot=none:=by simpa [Addr.add] using World.cell?_spot (hcell 0 (by omega))
  subst hspot
  refine ⟨b,off,rfl,hlt (.cell b off) (MemPlace.mem_row.2 ⟨0,by omega,by simp⟩),fun k u hu=>?_⟩
  have hk:k < len:=by
   have:=(List.getElem?_eq_some_iff.1 hu).1
   rw [ic_length,List.length_take] at this
   omega
  have h2:=hcell k (by omega)
  rw [Addr.add_mid] at h2
  rw [h2,← hu]
  simp [ic,hk,List.getD,List.getElem?_take]
  rw [List.getElem?_eq_getElem (by omega)]
  rfl
end
end
inductive BA where
 | cells (l:List Value)
 | row (e size n:Nat) (xs:List Value) (cap:Nat)
 | any (Q:Obj→Prop)
def BA.holds (w:World) (g:Nat):BA→Prop
 | .cells l=>Bk w g l.toArray
 | .row e size n xs cap=>w.ownsRow g e size (.slice (some ⟨g,0,none⟩) n cap) n xs∧0 < n
 | .any Q=>∃ o,w.heap[g]? = some o∧Q o
theorem BA.lt {w:World} {g:Nat} {p:BA} (h:p.holds w g):g < w.heap.size:=by
 cases p with
 | cells l=>exact Bk.lt h
 | row e size n xs cap=>exact (h.1.lt g rfl).2
 | any Q=>obtain ⟨o,ho,_⟩:=h;exact (Array.getElem?_eq_some_iff.1 ho).1
theorem BA.same {w w':World} {g:Nat} {p:BA} (h:p.holds w g) (hs:w.heap.size≤w'.heap.size) (hb:w'.heap[g]? = w.heap[g]?):p.holds w' g:=by
 cases p with
 | cells l =>
  have h:Bk w g l.toArray:=h
  exact ⟨Nat.lt_of_lt_of_le h.lt hs,fun o=>(World.cell?_of_block (w:=w) (a:=⟨g,o,none⟩) hb).trans (h.cell o),fun o=>(World.frozen?_of_block (w:=w) (a:=⟨g,o,none⟩) hb).trans (h.frozen o)⟩
 | row e size n xs cap =>
  obtain ⟨⟨h1,h2⟩,h3⟩:=h
  refine ⟨⟨h1,?_⟩,h3⟩
  rcases h2 with ⟨h2,h4⟩ | ⟨g',c',cur,h2,hb',hg,hr⟩
  ·exact .inl ⟨h2,h4⟩
  ·injection h2 with h2 _ hcap
   injection h2 with h2
   injection h2 with h2 _ _
   subst h2
   exact .inr ⟨g,c',cur,by rw [hcap],hb',hb.trans hg,hr⟩
 | any Q=>obtain ⟨o,ho,hq⟩:=h;exact ⟨o,hb.trans ho,hq⟩
structure Mem (w0:World) (ex:Nat→Prop) (w:World) (L:List (Nat×BA)):Prop where
 os:w.os=w0.os
 tape:w.tape=w0.tape
 output:w.output=w0.output
 size:w0.heap.size≤w.heap.size
 block:∀ b,b < w0.heap.size→¬ ex b→w.heap[b]? = w0.heap[b]?
 blk:∀ p∈L,(w0.heap.size≤p.1∨ex p.1)∧p.2.holds w p.1
 nd:(L.map (·.1)).Nodup
abbrev noEx:Nat→Prop:=fun _=>False
inductive Upd:List (Nat×BA)→Nat→BA→BA→List (Nat×BA)→Prop
 | head {g p p' L}:Upd ((g,p)::L) g p p' ((g,p')::L)
 | tail {q g p p' L L'}:Upd L g p p' L'→Upd (q::L) g p p' (q::L')
theorem Upd.keys {L L':List (Nat×BA)} {g:Nat} {p p':BA} (h:Upd L g p p' L'):L'.map (·.1)=L.map (·.1):=by
 induction h with
 | head=>rfl
 | tail _ ih=>simp [ih]
theorem Upd.mem {L L':List (Nat×BA)} {g:Nat} {p p':BA} (h:Upd L g p p' L'):(g,p)∈L:=by
 induction h with
 | head=>simp
 | tail _ ih=>exact List.mem_cons_of_mem _ ih
theorem Upd.all {L L':List (Nat×BA)} {g:Nat} {p p':BA} (h:Upd L g p p' L') (hn:(L.map (·.1)).Nodup):∀ q∈L',q=(g,p')∨(q∈L∧q.1≠g):=by
 induction h with
 | head =>
   intro q hq
   rcases List.mem_cons.1 hq with rfl | hq
   · exact .inl rfl
   · refine .inr ⟨List.mem_cons_of_mem _ hq,fun e=>?_⟩
     have:=(List.nodup_cons.1 hn).1
     exact this (List.mem_map.2 ⟨q,hq,e⟩)
 | @tail q0 g p p' L L' h ih =>
   intro q hq
   have hn':=List.nodup_cons.1 hn
   rcases List.mem_cons.1 hq with rfl | hq
   · refine .inr ⟨List.mem_cons_self,fun e=>hn'.1 (List.mem_map.2 ⟨_,h.mem,e.symm⟩)⟩
   · rcases ih hn'.2 q hq with h1 | h1
     · exact .inl h1
     · exact .inr ⟨List.mem_cons_of_mem _ h1.1,h1.2⟩
section
variable {w0 w w':World} {ex:Nat→Prop} {L L':List (Nat×BA)} {g:Nat}
theorem Mem.init (w:World) (ex:Nat→Prop):Mem w ex w []:=⟨rfl,rfl,rfl,Nat.le_refl _,fun _ _ _=>rfl,fun p hp=>(by cases hp),by simp⟩
theorem Mem.below (M:Mem w0 noEx w L):Below w0.heap.size w0 w:=⟨M.os,M.tape,M.output,M.size,fun b hb=>M.block b hb (fun h=>h)⟩
theorem Mem.old {b:Nat} {cs:Array Value} (M:Mem w0 ex w L) (h:Bk w0 b cs) (hb : ¬ ex b):Bk w b cs :=
 ⟨Nat.lt_of_lt_of_le h.lt M.size,fun o=>(World.cell?_of_block (w:=w0) (a:=⟨b,o,none⟩) (M.block b h.lt hb)).trans (h.cell o),fun o=>(World.frozen?_of_block (w:=w0) (a:=⟨b,o,none⟩) (M.block b h.lt hb)).trans (h.frozen o)⟩
theorem Mem.rd {B size n:Nat} {A:Option Addr} {xs:List Value} (M:Mem w0 noEx w L) (h:Rd w0 B size A n xs) (hB:B≤w0.heap.size):Rd w w.heap.size size A n xs:=(h.below (M.below.mono hB)).more (Nat.le_trans hB M.size)
theorem Mem.get {l:List Value} (M:Mem w0 ex w L) (h:(g,BA.cells l)∈L):Bk w g l.toArray:=(M.blk _ h).2
theorem Mem.rdOwn {l xs:List Value} {n size:Nat} (M:Mem w0 ex w L) (h:(g,BA.cells l)∈L) (hx:l=xs) (hs:xs.length=n * size):Rd w w.heap.size size (some ⟨g,0,none⟩) n xs:=by
 have hb:=M.get h
 subst hx
 refine ⟨hs,fun _=>⟨g,0,rfl,hb.lt,fun j u hu=>?_⟩⟩
 rw [hb.cell,Nat.zero_add]
 simpa using hu
theorem Mem.rdRow {e size n cap:Nat} {xs:List Value} (M:Mem w0 ex w L) (h:(g,BA.row e size n xs cap)∈L):Rd w w.heap.size size (some ⟨g,0,none⟩) n xs:=by
 obtain ⟨hb,hn⟩:=(M.blk _ h).2
 obtain ⟨g',cap',e1,_,_,_,hl,hr⟩:=own_form hb hn
 injection e1 with e1 _ _
 injection e1 with e1
 injection e1 with e1 _ _
 subst e1
 refine ⟨hb.1,fun _=>⟨g,0,rfl,hl,fun j u hu=>?_⟩⟩
 exact hr j u hu
theorem Mem.drew (M:Mem w0 ex w L):Mem w0 ex w.drew L:=⟨M.os,M.tape,M.output,M.size,M.block,fun p hp=>⟨(M.blk p hp).1,BA.same (M.blk p hp).2 (Nat.le_refl _) rfl⟩,M.nd⟩
theorem Mem.call (M:Mem w0 ex w L) (h:Below w.heap.size w w'):Mem w0 ex w' L :=
 ⟨h.os.trans M.os,h.tape.trans M.tape,h.output.trans M.output,Nat.le_trans M.size h.size,fun b hb hx=>(h.block b (Nat.lt_of_lt_of_le hb M.size)).trans (M.block b hb hx),
  fun p hp=>⟨(M.blk p hp).1,BA.same (M.blk p hp).2 h.size (h.block _ (BA.lt (M.blk p hp).2))⟩,M.nd⟩
theorem Mem.alloc (M:Mem w0 ex w L) (o:Obj):Mem w0 ex (w.alloc o) L:=M.call ((Below.refl _ _).alloc (Nat.le_refl _) o)
theorem Mem.add {p:BA} (M:Mem w0 ex w L) (hg:w0.heap.size≤g) (hp:p.holds w g) (hn:∀ q∈L,q.1≠g):Mem w0 ex w ((g,p)::L) :=
 ⟨M.os,M.tape,M.output,M.size,M.block,fun q hq=>by
  rcases List.mem_cons.1 hq with rfl | hq
  ·exact ⟨.inl hg,hp⟩
  ·exact M.blk q hq,List.nodup_cons.2 ⟨fun h=>by obtain ⟨q,hq,e⟩:=List.mem_map.1 h;exact hn q hq e,M.nd⟩⟩
theorem Mem.new (M:Mem w0 ex w L) (l:List Value) (t:TypeId):Mem w0 ex (w.alloc (.cells l.toArray t)) ((w.heap.size,.cells l)::L) :=
 (M.alloc _).add M.size (Bk.new w t _) (fun q hq e=>by have:=(BA.lt (M.blk q hq).2);omega)
theorem Mem.newAny (M:Mem w0 ex w L) (o:Obj) (Q:Obj→Prop) (hQ:Q o):Mem w0 ex (w.alloc o) ((w.heap.size,.any Q)::L) :=
 (M.alloc _).add M.size ⟨o,(MapKept.heap_alloc w _).1,hQ⟩ (fun q hq e=>by have:=(BA.lt (M.blk q hq).2);omega)
theorem Mem.write {p p':BA} (M:Mem w0 ex w L) (hu:Upd L g p p' L') (ho:Oth w w' g) (hp:p'.holds w' g):Mem w0 ex w' L':=by
 have hg:=(M.blk _ hu.mem).1
 refine ⟨ho.os.trans M.os,ho.tape.trans M.tape,ho.output.trans M.output,by rw [ho.size];exact M.size,fun b hb hx=>?_,fun q hq=>?_,by rw [hu.keys];exact M.nd⟩
 ·refine (ho.block b fun e=>?_).trans (M.block b hb hx)
  subst e
  rcases hg with h | h
  ·have h:w0.heap.size≤b:=h
   omega
  ·exact hx h
 ·rcases hu.all M.nd q hq with rfl | ⟨h1,h2⟩
  ·exact ⟨hg,hp⟩
  ·exact ⟨(M.blk q h1).1,BA.same (M.blk q h1).2 (by rw [ho.size];exact Nat.le_refl _) (ho.block _ h2)⟩
theorem Mem.callW {p p':BA} (M:Mem w0 ex w L) (hu:Upd L g p p' L') (h:w.grownBy w' (some g)) (hp:p'.holds w' g):Mem w0 ex w' L':=by
 have hg:=(M.blk _ hu.mem).1
 refine ⟨h.os.trans M.os,h.tape.trans M.tape,h.output.trans M.output,Nat.le_trans M.size h.size,fun b hb hx=>?_,fun q hq=>?_,by rw [hu.keys];exact M.nd⟩
 ·refine (h.block b (Nat.lt_of_lt_of_le hb M.size) fun e=>?_).trans (M.block b hb hx)
  injection e with e
  subst e
  rcases hg with h | h
  ·have h:w0.heap.size≤b:=h
   omega
  ·exact hx h
 ·rcases hu.all M.nd q hq with rfl | ⟨h1,h2⟩
  ·exact ⟨hg,hp⟩
  ·exact ⟨(M.blk q h1).1,BA.same (M.blk q h1).2 h.size (h.block _ (BA.lt (M.blk q h1).2) (fun e=>h2 (by injection e)))⟩
theorem Mem.grown (M:Mem w0 (fun b=>b=g) w L):w0.grownBy w (some g):=⟨M.os,M.tape,M.output,M.size,fun b hb hx=>M.block b hb (fun e=>hx (by rw [e]))⟩
theorem Mem.forget {q:Nat×BA} (M:Mem w0 ex w (q::L)):Mem w0 ex w L:=⟨M.os,M.tape,M.output,M.size,M.block,fun p hp=>M.blk p (List.mem_cons_of_mem _ hp),(List.nodup_cons.1 M.nd).2⟩
theorem Mem.sub (M:Mem w0 ex w L) (h:L'.Sublist L):Mem w0 ex w L':=⟨M.os,M.tape,M.output,M.size,M.block,fun p hp=>M.blk p (h.subset hp),M.nd.sublist (h.map _)⟩
theorem Mem.join (M:Mem w0 ex w L) (h:Mem w noEx w' L'):Mem w0 ex w' (L'++L):=by
 have M2:=M.call h.below
 refine ⟨M2.os,M2.tape,M2.output,M2.size,M2.block,fun p hp=>?_,?_⟩
 ·rcases List.mem_append.1 hp with hp | hp
  ·refine ⟨.inl ?_,(h.blk p hp).2⟩
   rcases (h.blk p hp).1 with h1 | h1
   ·exact Nat.le_trans M.size h1
   ·exact h1.elim
  ·exact M2.blk p hp
 ·rw [List.map_append]
  refine List.nodup_append.2 ⟨h.nd,M.nd,fun a ha b hb e=>?_⟩
  obtain ⟨p,hp,rfl⟩:=List.mem_map.1 ha
  obtain ⟨q,hq,rfl⟩:=List.mem_map.1 hb
  have h2:=BA.lt (M.blk q hq).2
  rcases (h.blk p hp).1 with h1 | h1
  ·rw [e] at h1;omega
  ·exact h1
theorem Mem.initEx {p:BA} (hp:p.holds w g):Mem w (fun b=>b=g) w [(g,p)] :=
 ⟨rfl,rfl,rfl,Nat.le_refl _,fun _ _ _=>rfl,fun q hq=>(by obtain rfl:=List.mem_singleton.1 hq;exact ⟨.inr rfl,hp⟩),by simp⟩
theorem Mem.at {q:Nat×BA} (M:Mem w0 ex w L) (h:q∈L):q.2.holds w q.1:=(M.blk q h).2
theorem Bk.storeAt {cs:Array Value} (h:Bk w g cs) (o:Nat) (ds cs':List Value) (hs:o+ds.length≤cs.size) (hc:cs'=cs.toList.take o++ds++cs.toList.drop (o+ds.length)):Bk (w.setCells g o ds) g cs'.toArray:=by
 have ht:w.there g o ds.length:=fun j hj=>⟨by rw [h.cell,Array.getElem?_eq_getElem (by omega)];rfl,h.frozen _⟩
 refine ⟨by rw [size_setCells];exact h.lt,fun x=>?_,fun x=>(World.frozen?_setCells _ _ _ _ _).trans (h.frozen x)⟩
 subst hc
 simp only [List.getElem?_toArray]
 by_cases h1:x < o
 ·rw [World.cell?_setCells_out g _ _ _ _ (fun _ _=>.inl h1),h.cell,List.append_assoc,List.getElem?_append_left (by simp;omega),List.getElem?_take_of_lt h1]
  simp
 ·by_cases h2:x < o+ds.length
  ·have h3:=World.rangeAt_setCells_same w g o ds ht (x - o) ds[x - o] (List.getElem?_eq_getElem (by omega))
   have e:o+(x - o)=x:=by omega
   rw [e] at h3
   rw [h3,List.append_assoc,List.getElem?_append_right (by simp;omega)]
   have e2:x - (cs.toList.take o).length=x - o:=by simp;omega
   rw [e2,List.getElem?_append_left (by omega),List.getElem?_eq_getElem (by omega)]
  ·rw [World.cell?_setCells_out g _ _ _ _ (fun _ _=>.inr (by show o+ds.length≤x;omega)),h.cell,List.getElem?_append_right (by simp;omega)]
   have e2:x - (cs.toList.take o++ds).length=x - (o+ds.length):=by simp;omega
   rw [e2,List.getElem?_drop]
   have e3:o+ds.length+(x - (o+ds.length))=x:=by omega
   rw [e3]
   simp
end
class RowTy (P:Program) (t:TypeId) (n:outParam Nat):Prop where
 row:∃ d,P.underlying t=some d∧d.isRow=true
 size:(P.info? t).map (·.size)=some n
class OneTy (P:Program) (t:TypeId):Prop where
 one:∃ d,P.underlying t=some d∧d.isRow=false
 size:(P.info? t).map (·.size)=some 1
class ZeroTy (P:Program) (t:TypeId) (l:outParam (List Value)):Prop where
 zero:∀ w,∃ z,(zeroValue t).run P w=.ok z w∧z.cells=l.toArray
section
variable {P:Program} {ops:Array Oper} {rest:List Oper} {op:Oper} {a:Act} {Q:Exit→Act→World→Prop} {w0 w:World} {ex:Nat→Prop} {L:List (Nat×BA)} {K:Act→World→Prop}
theorem run_load_row {ty:TypeId} {n g o:Nat} [h:RowTy P ty n] {cs ds:List Value} (hB:Bk w g cs.toArray) (hd:(cs.drop o).take n=ds) (hn:Nat.ble (o+n) cs.length=true):(loadVar ty ⟨g,o,none⟩).run P w=.ok (.agg ds.toArray) w:=by
 obtain ⟨d,hu,hr⟩:=h.row
 replace hn:ds.length=n:=by have:=Nat.le_of_ble_eq_true hn;subst hd;simp;omega
 refine run_loadVar_mid w g o ty ds d (fun j v hv=>?_) hu hr (by rw [hn];exact h.size)
 rw [hB.cell]
 subst hd
 have hj:j < n:=by
  have:=(List.getElem?_eq_some_iff.1 hv).1
  rw [hn] at this
  exact this
 rw [List.getElem?_take_of_lt hj,List.getElem?_drop] at hv
 simpa using hv
theorem run_load_one {ty:TypeId} {g o:Nat} [h:OneTy P ty] {cs:List Value} {v:Value} (hB:Bk w g cs.toArray) (hv:cs[o]? = some v):(loadVar ty ⟨g,o,none⟩).run P w=.ok v w:=by
 obtain ⟨d,hu,hr⟩:=h.one
 have hc:w.cell? ⟨g,o,none⟩=some v:=by rw [hB.cell];simpa using hv
 have ha:(isAgg ty).run P w=.ok false w:=by
  unfold isAgg
  simp only [Sem.run_bind,run_underlying hu,Result.andThen_ok]
  cases d <;> first | rfl | (simp [TypeDesc.isRow] at hr)
 unfold loadVar
 simp only [Sem.run_bind,ha,Result.andThen_ok]
 simp [load,Sem.run,hc]
theorem run_store_any {ty:TypeId} {g o:Nat} {v:Value} {cs ds:List Value} (hi:(P.info? ty).map (·.size)=some ds.length) (hB:Bk w g cs.toArray) (hv:v.cells=ds.toArray) (h1:ds.all (·.oneCell')=true) (hs:o+ds.length≤cs.length) :
   (storeVar ty ⟨g,o,none⟩ v).run P w=.ok () (w.setCells g o ds):=by
 have ht:w.there g o ds.length:=fun j hj=>⟨by rw [hB.cell,Array.getElem?_eq_getElem (by simp;omega)];rfl,hB.frozen _⟩
 have h2:=run_storeVar_mid (P:=P) w g o ty ds.toArray (by simpa using ht) (by simpa using hi) (by simpa using h1)
 unfold storeVar at h2 ⊢
 rw [hv]
 have e:(Value.agg ds.toArray).cells=ds.toArray:=rfl
 rw [e] at h2
 exact h2
theorem run_alloc_any {ty:TypeId} {l:List Value} [h:ZeroTy P ty l] (w:World):(Instr.alloc ty true (.tuple #[])).run P w=.ok (.pointer (some ⟨w.heap.size,0,none⟩)) (w.alloc (.cells l.toArray ty)):=by
 obtain ⟨z,hz,hc⟩:=h.zero w
 unfold Instr.alloc
 simp only [Sem.run_bind,hz,Result.andThen_ok,newVar,newRow,run_newObj_alloc,Sem.run_pure,hc]
theorem wpList_wanted (hw:Region.wanted op (yielded ops a.tmps)=true) (h:∀ K:Act→World→Prop,(∀ a w,wpList P ops Q rest a w→K a w)→op.wp P a w K Q):wpList P ops Q (op::rest) a w :=
 wpList_step fun K hK=>by rw [if_pos hw];exact h K hK
theorem m_ldr {ty:TypeId} {n:Nat} [RowTy P ty n] {x:Operand} {g o:Nat} {cs ds:List Value} (M:Mem w0 ex w L) (hw:Region.wanted op (yielded ops a.tmps)=true) (ho:op.op=.load ty x) (hx:a.eval x=.pointer (some ⟨g,o,none⟩)) (hm:(g,BA.cells cs)∈L)
  (hd:(cs.drop o).take n=ds) (hn:Nat.ble (o+n) cs.length=true) (h:wpList P ops Q rest (a.put op.dst (.agg ds.toArray)) w):wpList P ops Q (op::rest) a w :=
 wpList_wanted hw fun _ hK=>by
  unfold Oper.wp execOp
  simp only [ho,hx,Instr.loadAt,Instr.sureAddr,Sem.run_bind,Sem.run_pure,Result.andThen_ok,run_load_row (M.get hm) hd hn]
  exact hK _ _ h
theorem m_ld1 {ty:TypeId} [OneTy P ty] {x:Operand} {g o:Nat} {cs:List Value} {v:Value} (M:Mem w0 ex w L) (hw:Region.wanted op (yielded ops a.tmps)=true) (ho:op.op=.load ty x) (hx:a.eval x=.pointer (some ⟨g,o,none⟩)) (hm:(g,BA.cells cs)∈L)
  (hv:cs[o]? = some v) (h:wpList P ops Q rest (a.put op.dst v) w):wpList P ops Q (op::rest) a w :=
 wpList_wanted hw fun _ hK=>by
  unfold Oper.wp execOp
  simp only [ho,hx,Instr.loadAt,Instr.sureAddr,Sem.run_bind,Sem.run_pure,Result.andThen_ok,run_load_one (M.get hm) hv]
  exact hK _ _ h
theorem lo_one {ty:TypeId} [OneTy P ty] {x:Operand} {g o:Nat} {cs:List Value} {v:Value} (hB:Bk w g cs.toArray) (hw:Region.wanted op (yielded ops a.tmps)=true) (ho:op.op=.load ty x) (hx:a.eval x=.pointer (some ⟨g,o,none⟩))
  (hv:cs[o]? = some v) (h:wpList P ops Q rest (a.put op.dst v) w):wpList P ops Q (op::rest) a w :=
 wpList_wanted hw fun _ hK=>by
  unfold Oper.wp execOp
  simp only [ho,hx,Instr.loadAt,Instr.sureAddr,Sem.run_bind,Sem.run_pure,Result.andThen_ok,run_load_one hB hv]
  exact hK _ _ h
theorem rn_row {ty:TypeId} {n:Nat} [RowTy P ty n] {x:Operand} {g o:Nat} {cs ds:List Value} (hB:Bk w g cs.toArray) (ho:op.op=.load ty x) (hx:a.eval x=.pointer (some ⟨g,o,none⟩))
  (hd:(cs.drop o).take n=ds) (hn:Nat.ble (o+n) cs.length=true):(execOp a.eval op).run P w=.ok (.value (.agg ds.toArray)) w:=by
 unfold execOp
 simp only [ho,hx,Instr.loadAt,Instr.sureAddr,Sem.run_bind,Sem.run_pure,Result.andThen_ok,run_load_row hB hd hn]
theorem Zro {ty:TypeId} [OneTy P ty] {x:Operand} {g o:Nat} {cs:List Value} {v:Value} (hB:Bk w g cs.toArray) (ho:op.op=.load ty x) (hx:a.eval x=.pointer (some ⟨g,o,none⟩))
  (hv:cs[o]? = some v):(execOp a.eval op).run P w=.ok (.value v) w:=by
 unfold execOp
 simp only [ho,hx,Instr.loadAt,Instr.sureAddr,Sem.run_bind,Sem.run_pure,Result.andThen_ok,run_load_one hB hv]
theorem m_stw {ty : TypeId} {x y : Operand} {g o : Nat} {v : Value} {cs ds cs' : List Value} {L' : List (Nat × BA)} (M : Mem w0 ex w L) (ho : op.op = .store ty x y) (hx : a.eval x = .pointer (some ⟨g, o, none⟩)) (hy : a.eval y = v) (hv : v.cells = ds.toArray)
   (hu:Upd L g (.cells cs) (.cells cs') L') (hc:cs.take o++ds++cs.drop (o+ds.length)=cs') (hs:o+ds.length≤cs.length) (h1:ds.all (·.oneCell')=true) (hi:(P.info? ty).map (·.size)=some ds.length)
   (h:∀ w',Mem w0 ex w' L'→K (a.put op.dst undef) w'):op.wp P a w K Q:=by
 have hB:=M.get hu.mem
 unfold Oper.wp execOp
 simp only [ho,hx,hy,Instr.storeAt,Instr.sureAddr,Sem.run_bind,Sem.run_pure,Result.andThen_ok,run_store_any hi hB hv h1 hs]
 exact h _ (M.write hu (Oth.setCells g _ _ _) (hB.storeAt o ds cs' (by simpa using hs) (by simpa using hc.symm)))
theorem m_st {ty : TypeId} {x y : Operand} {g o : Nat} {v : Value} {cs ds cs' : List Value} {L' : List (Nat × BA)} (M : Mem w0 ex w L) (hw : Region.wanted op (yielded ops a.tmps) = true) (ho : op.op = .store ty x y) (hx : a.eval x = .pointer (some ⟨g, o, none⟩)) (hy : a.eval y = v) (hv : v.cells = ds.toArray)
   (hu:Upd L g (.cells cs) (.cells cs') L') (hc:cs.take o++ds++cs.drop (o+ds.length)=cs') (hs:o+ds.length≤cs.length) (h1:ds.all (·.oneCell')=true) (hi:(P.info? ty).map (·.size)=some ds.length)
   (h:∀ w',Mem w0 ex w' L'→wpList P ops Q rest (a.put op.dst undef) w'):wpList P ops Q (op::rest) a w :=
 wpList_wanted hw fun _ hK=>m_stw M ho hx hy hv hu hc hs h1 hi fun w' M'=>hK _ _ (h w' M')
theorem m_alw {ty:TypeId} {l:List Value} [ZeroTy P ty l] (M:Mem w0 ex w L) (ho:op.op=.alloc ty)
  (h:∀ g w',Mem w0 ex w' ((g,.cells l)::L)→K (a.put op.dst (.pointer (some ⟨g,0,none⟩))) w'):op.wp P a w K Q:=by
 unfold Oper.wp execOp
 simp only [ho,Sem.run_bind,Sem.run_pure,Result.andThen_ok,run_alloc_any (P:=P) (ty:=ty)]
 exact h _ _ (M.new l ty)
theorem m_al {ty:TypeId} {l:List Value} [ZeroTy P ty l] (M:Mem w0 ex w L) (hw:Region.wanted op (yielded ops a.tmps)=true) (ho:op.op=.alloc ty)
  (h:∀ g w',Mem w0 ex w' ((g,.cells l)::L)→wpList P ops Q rest (a.put op.dst (.pointer (some ⟨g,0,none⟩))) w'):wpList P ops Q (op::rest) a w :=
 wpList_wanted hw fun _ hK=>m_alw M ho fun g w' M'=>hK _ _ (h g w' M')
theorem m_bx {ty:TypeId} {x:Operand} {v:Value} {l:List Value} (M:Mem w0 ex w L) (hw:Region.wanted op (yielded ops a.tmps)=true) (ho:op.op=.box ty x) (hx:a.eval x=v) (hv:v.cells=l.toArray)
  (h:∀ g w',Mem w0 ex w' ((g,.cells l)::L)→wpList P ops Q rest (a.put op.dst (.pointer (some ⟨g,0,none⟩))) w'):wpList P ops Q (op::rest) a w :=
 wpList_wanted hw fun _ hK=>by
  unfold Oper.wp execOp
  simp only [ho,hx,Instr.box,Sem.run_bind,Sem.run_pure,Result.andThen_ok,newVar,newRow,run_newObj_alloc,hv]
  exact hK _ _ (h _ _ (M.new l ty))
theorem start {c:Code} (ex:Nat→Prop) (h:∀ w',Mem w ex w' []→c.wp P Q a w'):c.wp P Q a w:=h w (Mem.init w ex)
theorem m_start {c:Code} (M:Mem w0 ex w L) (h:∀ w',Mem w0 ex w' L→c.wp P Q a w'):c.wp P Q a w:=h w M
theorem absorb {l:List Value} {t:TypeId} (M:Mem w0 ex w L) (h:Mem w0 ex (w.alloc (.cells l.toArray t)) ((w.heap.size,.cells l)::L)→wpList P ops Q rest a (w.alloc (.cells l.toArray t))):wpList P ops Q rest a (w.alloc (.cells l.toArray t)):=h (M.new l t)
theorem ret_M {fn:Func} {R:Ending→World→Prop} {t:Tmp} {ty:TypeId} {n g:Nat} [hT:RowTy P ty n] {cs:List Value} (M:Mem w0 ex w L) (hr:fn.results = #[.cell t ty]) (hd:a.defers=[])
  (hx:a.tmps.getD t undef=.pointer (some ⟨g,0,none⟩)) (hm:(g,BA.cells cs)∈L) (hn:cs.length=n) (h:R (.returned (.agg cs.toArray)) w):bodyPost P fn R .ret a w:=by
 obtain ⟨d,hu,hw⟩:=hT.row
 exact ret_blk t ty hr hd g hx cs.toArray (M.get hm) d hu hw (by rw [List.size_toArray,hn];exact hT.size) h
theorem ret_M1 {fn:Func} {R:Ending→World→Prop} {t t':Tmp} {ty:TypeId} {n g:Nat} [hT:RowTy P ty n] {v:Value} {cs:List Value} (M:Mem w0 ex w L) (hr:fn.results = #[.cell t ty,.tmp t']) (hd:a.defers=[])
  (hx:a.tmps.getD t undef=.pointer (some ⟨g,0,none⟩)) (hx':a.tmps.getD t' undef=v) (hm:(g,BA.cells cs)∈L) (hn:cs.length=n) (h:R (.returned (.tuple #[.agg cs.toArray,v])) w):bodyPost P fn R .ret a w:=by
 obtain ⟨d,hu,hw⟩:=hT.row
 exact ret_blk1 t t' ty hr hd g v hx hx' cs.toArray (M.get hm) d hu hw (by rw [List.size_toArray,hn];exact hT.size) h
end
section
open Go.RowKit Go.Proofs.Ytoheddpnnjldgaa.Bi
def mSide (wb:World) (ex:Nat→Prop):Side (List (Nat×BA)×(Nat→Prop)) where
 W:=fun x=>x.2
 Sit:=fun x w=>Mem wb ex w x.1∧(∀ b,x.2 b→b < w.heap.size)∧∀ p∈x.1,x.2 p.1
theorem Mem.turn {wb w w':World} {ex:Nat→Prop} {L:List (Nat×BA)} (h:Mem wb ex w L) (ht:Turn w w') (hs:w.heap.size≤w'.heap.size) (ho:∀ b,b < wb.heap.size→¬ ex b→w'.heap[b]? = w.heap[b]?) (hL:∀ p∈L,w'.heap[p.1]? = w.heap[p.1]?):Mem wb ex w' L:=by
 obtain ⟨hp,d,rfl⟩:=ht
 exact ⟨h.os,h.tape,h.output,Nat.le_trans h.size hs,fun b hb hx=>(ho b hb hx).trans (h.block b hb hx),fun p hp'=>⟨(h.blk p hp').1,BA.same (h.blk p hp').2 hs (hL p hp')⟩,h.nd⟩
theorem mSide_stable {wb:World} {ex:Nat→Prop} {I:World→Prop} {Rd:Nat→Prop} (hR:∀ b,b < wb.heap.size→¬ ex b→Rd b):Stable I (mSide wb ex) Rd:=by
 refine ⟨fun x w w' ⟨hM,hb,hL⟩ _ ht hs hk=>⟨hM.turn ht hs (fun b h1 h2=>hk b (Nat.lt_of_lt_of_le h1 hM.size) (.inr (hR b h1 h2))) fun p hp=>hk p.1 (hb _ (hL p hp)) (.inl (hL p hp)),fun b h1=>Nat.lt_of_lt_of_le (hb b h1) hs,hL⟩,fun x w h=>h.2.1⟩
end
instance:OneTy Try.prog 3:=⟨⟨_,Try.underlying3,rfl⟩,by kernel_rfl⟩
instance:ZeroTy Try.prog 3 [.int .i64 0]:=⟨fun _=>⟨.int .i64 0,by kernel_rfl,rfl⟩⟩
instance:OneTy Try.prog 4:=⟨⟨_,Try.underlying4,rfl⟩,by kernel_rfl⟩
instance:ZeroTy Try.prog 4 [.bool false]:=⟨fun _=>⟨.bool false,by kernel_rfl,rfl⟩⟩
instance:RowTy Try.prog 23 2:=⟨⟨_,Try.underlying23,rfl⟩,by kernel_rfl⟩
instance:ZeroTy Try.prog 23 [.int .i64 0,.int .i64 0]:=⟨fun _=>⟨.agg #[.int .i64 0,.int .i64 0],by kernel_rfl,rfl⟩⟩
instance:OneTy Try.prog 24:=⟨⟨_,Try.underlying24,rfl⟩,by kernel_rfl⟩
instance:ZeroTy Try.prog 24 [.slice none 0 0]:=⟨fun _=>⟨.slice none 0 0,by kernel_rfl,rfl⟩⟩
instance:OneTy Try.prog 25:=⟨⟨_,Try.underlying25,rfl⟩,by kernel_rfl⟩
instance:ZeroTy Try.prog 25 [.slice none 0 0]:=⟨fun _=>⟨.slice none 0 0,by kernel_rfl,rfl⟩⟩
instance:RowTy Try.prog 27 5:=⟨⟨_,Try.underlying27,rfl⟩,by kernel_rfl⟩
instance:ZeroTy Try.prog 27 [.int .i64 0,.int .i64 0,.int .i64 0,.slice none 0 0,.slice none 0 0]:=⟨fun _=>⟨.agg #[.int .i64 0,.int .i64 0,.int .i64 0,.slice none 0 0,.slice none 0 0],by kernel_rfl,rfl⟩⟩
instance:OneTy Try.prog 28:=⟨⟨_,Try.underlying28,rfl⟩,by kernel_rfl⟩
instance:ZeroTy Try.prog 28 [.slice none 0 0]:=⟨fun _=>⟨.slice none 0 0,by kernel_rfl,rfl⟩⟩
instance:OneTy Try.prog 39:=⟨⟨_,Try.underlying39,rfl⟩,by kernel_rfl⟩
instance:ZeroTy Try.prog 39 [.int .i64 0]:=⟨fun _=>⟨.int .i64 0,by kernel_rfl,rfl⟩⟩
instance:OneTy Try.prog 44:=⟨⟨_,Try.underlying44,rfl⟩,by kernel_rfl⟩
instance:ZeroTy Try.prog 44 [.slice none 0 0]:=⟨fun _=>⟨.slice none 0 0,by kernel_rfl,rfl⟩⟩
instance:OneTy Try.prog 51:=⟨⟨_,Try.underlying51,rfl⟩,by kernel_rfl⟩
instance:ZeroTy Try.prog 51 [.nilFunc]:=⟨fun _=>⟨.nilFunc,by kernel_rfl,rfl⟩⟩
instance:RowTy Try.prog 70 4:=⟨⟨_,Try.underlying70,rfl⟩,by kernel_rfl⟩
instance:ZeroTy Try.prog 70 [.int .i64 0,.int .i64 0,.int .i64 0,.bool false]:=⟨fun _=>⟨.agg #[.int .i64 0,.int .i64 0,.int .i64 0,.bool false],by kernel_rfl,rfl⟩⟩
instance:RowTy Try.prog 75 4:=⟨⟨_,Try.underlying75,rfl⟩,by kernel_rfl⟩
instance:ZeroTy Try.prog 75 [.slice none 0 0,.int .i64 0,.int .i64 0,.int .i64 0]:=⟨fun _=>⟨.agg #[.slice none 0 0,.int .i64 0,.int .i64 0,.int .i64 0],by kernel_rfl,rfl⟩⟩
instance:OneTy Try.prog 96:=⟨⟨_,Try.underlying96,rfl⟩,by kernel_rfl⟩
instance:ZeroTy Try.prog 96 [.int .u64 0]:=⟨fun _=>⟨.int .u64 0,by kernel_rfl,rfl⟩⟩
instance:RowTy Try.prog 98 1:=⟨⟨_,Try.underlying98,rfl⟩,by kernel_rfl⟩
instance:ZeroTy Try.prog 98 [.int .u64 0]:=⟨fun _=>⟨.agg #[.int .u64 0],by kernel_rfl,rfl⟩⟩
instance:OneTy Try.prog 104:=⟨⟨_,Try.underlying104,rfl⟩,by kernel_rfl⟩
instance:ZeroTy Try.prog 104 [.slice none 0 0]:=⟨fun _=>⟨.slice none 0 0,by kernel_rfl,rfl⟩⟩
instance:RowTy Try.prog 109 4:=⟨⟨_,Try.underlying109,rfl⟩,by kernel_rfl⟩
instance:ZeroTy Try.prog 109 [.int .i64 0,.int .i64 0,.int .i64 0,.int .i64 0]:=⟨fun _=>⟨.agg #[.int .i64 0,.int .i64 0,.int .i64 0,.int .i64 0],by kernel_rfl,rfl⟩⟩
instance:RowTy Try.prog 111 2:=⟨⟨_,Try.underlying111,rfl⟩,by kernel_rfl⟩
instance:ZeroTy Try.prog 111 [.nilFunc,.nilFunc]:=⟨fun _=>⟨.agg #[.nilFunc,.nilFunc],by kernel_rfl,rfl⟩⟩
instance:OneTy Try.prog 115:=⟨⟨_,Try.underlying115,rfl⟩,by kernel_rfl⟩
instance:ZeroTy Try.prog 115 [.slice none 0 0]:=⟨fun _=>⟨.slice none 0 0,by kernel_rfl,rfl⟩⟩
instance:OneTy Try.prog 118:=⟨⟨_,Try.underlying118,rfl⟩,by kernel_rfl⟩
instance:ZeroTy Try.prog 118 [.nilFunc]:=⟨fun _=>⟨.nilFunc,by kernel_rfl,rfl⟩⟩
instance:RowTy Try.prog 122 7:=⟨⟨_,Try.underlying122,rfl⟩,by kernel_rfl⟩
instance:ZeroTy Try.prog 122 [.int .i64 0,.int .i64 0,.int .i64 0,.slice none 0 0,.slice none 0 0,.slice none 0 0,.int .i64 0]:=⟨fun _=>⟨.agg #[.int .i64 0,.int .i64 0,.int .i64 0,.slice none 0 0,.slice none 0 0,.slice none 0 0,.int .i64 0],by kernel_rfl,rfl⟩⟩
instance:OneTy Try.prog 138:=⟨⟨_,Try.underlying138,rfl⟩,by kernel_rfl⟩
instance:ZeroTy Try.prog 138 [.chan none]:=⟨fun _=>⟨.chan none,by kernel_rfl,rfl⟩⟩
instance:OneTy Try.prog 140:=⟨⟨_,Try.underlying140,rfl⟩,by kernel_rfl⟩
instance:ZeroTy Try.prog 140 [.nilFunc]:=⟨fun _=>⟨.nilFunc,by kernel_rfl,rfl⟩⟩
instance:OneTy Try.prog 151:=⟨⟨_,Try.underlying151,rfl⟩,by kernel_rfl⟩
instance:ZeroTy Try.prog 151 [.nilFunc]:=⟨fun _=>⟨.nilFunc,by kernel_rfl,rfl⟩⟩
instance:OneTy Try.prog 154:=⟨⟨_,Try.underlying154,rfl⟩,by kernel_rfl⟩
instance:ZeroTy Try.prog 154 [.nilFunc]:=⟨fun _=>⟨.nilFunc,by kernel_rfl,rfl⟩⟩
instance:RowTy Try.prog 156 4:=⟨⟨_,Try.underlying156,rfl⟩,by kernel_rfl⟩
instance:ZeroTy Try.prog 156 [.int .u64 0,.int .u64 0,.int .u64 0,.int .u64 0]:=⟨fun _=>⟨.agg #[.int .u64 0,.int .u64 0,.int .u64 0,.int .u64 0],by kernel_rfl,rfl⟩⟩
structure TmD (df:List Deferred) (a:Act) (n:Nat) (E:List (Nat×Value)):Prop where
 defers:a.defers=df
 size:a.tmps.size=n
 get:∀ p∈E,a.eval (.tmp p.1)=p.2
abbrev Tm (a:Act) (n:Nat) (E:List (Nat×Value)):Prop:=TmD [] a n E
theorem subL {α:Type} {I L T:List α} (h:I.Sublist L):I.Sublist (L++T):=h.trans (List.sublist_append_left _ _)
def nthE {α:Type}:List α→Nat→Option α
 | [],_=>none
 | x::_,0=>some x
 | _::l,i+1=>nthE l i
theorem Zne {α:Type}:∀ {l:List α} {i:Nat} {x:α},nthE l i=some x→x∈l
 | [],_,_,h=>by simp [nthE] at h
 | y::l,0,x,h=>by simp [nthE] at h;simp [h]
 | y::l,i+1,x,h=>List.mem_cons_of_mem _ (Zne (l:=l) (i:=i) (by simpa [nthE] using h))
theorem nthE_get {α:Type}:∀ {l:List α} {i:Nat} {x:α},nthE l i=some x→l[i]? = some x
 | [],_,_,h=>by simp [nthE] at h
 | y::l,0,x,h=>by simpa [nthE] using h
 | y::l,i+1,x,h=>by
  have:=nthE_get (l:=l) (i:=i) (x:=x) (by simpa [nthE] using h)
  simpa using this
def freshE:List (Nat×Value)→Nat→Bool
 | [],_=>true
 | p::l,t=>match Nat.beq p.1 t with | true=>false | false=>freshE l t
theorem freshE_ne:∀ {l:List (Nat×Value)} {t:Nat},freshE l t=true→∀ p∈l,p.1≠t
 | [],_,_,p,hp=>by cases hp
 | q::l,t,h,p,hp=>by
  unfold freshE at h
  cases hq:Nat.beq q.1 t with
  | true=>rw [hq] at h;simp at h
  | false =>
   rw [hq] at h
   rcases List.mem_cons.1 hp with rfl | hp
   ·intro e;rw [e] at hq;simp at hq
   ·exact freshE_ne (by simpa using h) p hp
def pickE {α:Type} (E:List α):List Nat→Option (List α)
 | []=>some []
 | i::r=>match nthE E i with
  | none=>none
  | some x=>match pickE E r with
   | none=>none
   | some l=>some (x::l)
theorem pickE_mem {α:Type} {E:List α}:∀ {is:List Nat} {l:List α},pickE E is=some l→∀ x∈l,x∈E
 | [],l,h,x,hx=>by simp [pickE] at h;subst h;cases hx
 | i::r,l,h,x,hx=>by
  unfold pickE at h
  cases h1:nthE E i with
  | none=>rw [h1] at h;cases h
  | some y =>
   rw [h1] at h
   cases h2:pickE E r with
   | none=>rw [h2] at h;cases h
   | some l' =>
    rw [h2] at h
    simp only [Option.some.injEq] at h
    subst h
    rcases List.mem_cons.1 hx with rfl | hx
    ·exact Zne h1
    ·exact pickE_mem h2 x hx
def maskE {α:Type}:List α→List Bool→List α
 | x::l,true::m=>x::maskE l m
 | _::l,false::m=>maskE l m
 | l,_=>l
theorem maskE_sub {α:Type}:∀ (l:List α) (m:List Bool),(maskE l m).Sublist l
 | [],[]=>by simp [maskE]
 | [],_::_=>by simp [maskE]
 | _::_,[]=>by simp [maskE]
 | x::l,true::m=>(maskE_sub l m).cons_cons x
 | x::l,false::m=>(maskE_sub l m).cons x
section
variable {df:List Deferred} {a:Act} {n t:Nat} {E E':List (Nat×Value)} {v:Value}
theorem TmD.ev (T:TmD df a n E) (i:Nat) {t:Nat} {v:Value} (h:nthE E i=some (t,v)):a.eval (.tmp t)=v:=T.get _ (Zne h)
theorem TmD.pick (T:TmD df a n E) (is:List Nat) (h:pickE E is=some E'):TmD df a n E':=⟨T.defers,T.size,fun p hp=>T.get p (pickE_mem h p hp)⟩
theorem TmD.as (T:TmD df a n E) (h:E=E'):TmD df a n E':=h ▸ T
theorem TmD.put (T:TmD df a n E) (hn:Nat.blt t n=true) (hf:freshE E t=true) (v:Value):TmD df (a.put (some t) v) n ((t,v)::E):=by
 have hn:t < n:=Nat.le_of_ble_eq_true hn
 refine ⟨T.defers,by simpa [Act.put] using T.size,fun p hp=>?_⟩
 rcases List.mem_cons.1 hp with rfl | hp
 ·have:=T.size
  simp [Act.put,Act.eval,Array.getD,this,hn]
 ·have h1:=freshE_ne hf p hp
  have h2:=T.get p hp
  rw [Act.eval_put (fun d hd e=>h1 (by injection hd with hd;injection e with e;rw [hd,e]))]
  exact h2
theorem TmD.put0 (T:TmD df a n E) (v:Value):TmD df (a.put none v) n E:=T
def maskR {α:Type}:List Bool→List α→Option (List α)
 | [],l=>some l
 | b::m,l=>match l with
  | []=>some []
  | x::r=>match maskR m r with
   | none=>none
   | some q=>match b with
    | true=>some (x::q)
    | false=>some q
def maskO {α:Type} (l:List α) (m:List Bool):Option (List α):=maskR m l
theorem maskO_eq {α:Type}:∀ (l:List α) (m:List Bool),maskO l m=some (maskE l m)
 | [],[]=>rfl
 | _::_,[]=>rfl
 | [],_::_=>rfl
 | x::l,b::m=>by
  have ih:maskR m l=some (maskE l m):=maskO_eq l m
  unfold maskO maskR
  simp only [ih]
  cases b <;> rfl
theorem Mem.mask {w0 w:World} {ex:Nat→Prop} {L L':List (Nat×BA)} (M:Mem w0 ex w L) (m:List Bool) (h:maskO L m=some L'):Mem w0 ex w L':=by
 rw [maskO_eq] at h
 injection h with h
 exact h ▸ M.sub (maskE_sub L m)
def nodupB:List Nat→Bool
 | []=>true
 | i::r=>!(r.any fun j=>Nat.beq i j) && nodupB r
theorem nthE_of {α:Type}:∀ {l:List α} {i:Nat} {x:α},l[i]? = some x→nthE l i=some x
 | [],_,_,h=>by simp at h
 | y::l,0,x,h=>by simpa [nthE] using h
 | y::l,i+1,x,h=>nthE_of (l:=l) (i:=i) (by simpa using h)
theorem pickE_nd {L:List (Nat×BA)} (hn:(L.map (·.1)).Nodup):∀ {is:List Nat} {L':List (Nat×BA)},pickE L is=some L'→nodupB is=true→(L'.map (·.1)).Nodup∧∀ x∈L',∃ i∈is,nthE L i=some x
 | [],L',h,_=>by simp [pickE] at h;subst h;simp
 | i::r,L',h,hd=>by
   unfold pickE at h
   cases h1:nthE L i with
   | none=>rw [h1] at h;cases h
   | some y =>
     rw [h1] at h
     cases h2:pickE L r with
     | none=>rw [h2] at h;cases h
     | some l' =>
       rw [h2] at h
       simp only [Option.some.injEq] at h
       subst h
       simp only [nodupB,Bool.and_eq_true] at hd
       obtain ⟨h3,h4⟩:=pickE_nd hn h2 hd.2
       refine ⟨List.nodup_cons.2 ⟨fun hm=>?_,h3⟩,fun x hx=>?_⟩
       · obtain ⟨z,hz,e⟩:=List.mem_map.1 hm
         obtain ⟨j,hj,hjz⟩:=h4 z hz
         have a1:=nthE_get h1
         have a2:=nthE_get hjz
         have b1:(L.map (·.1))[i]? = some y.1:=by rw [List.getElem?_map,a1];rfl
         have b2:(L.map (·.1))[j]? = some y.1:=by rw [List.getElem?_map,a2];show some z.1=some y.1;rw [e]
         have:i=j:=by
           have hi:=(List.getElem?_eq_some_iff.1 b1).1
           exact (List.getElem?_inj hi hn).1 (b1.trans b2.symm)
         subst this
         have h5:=hd.1
         simp at h5
         exact absurd rfl (h5 i hj)
       · rcases List.mem_cons.1 hx with rfl | hx
         · exact ⟨i,List.mem_cons_self,h1⟩
         · obtain ⟨j,hj,h6⟩:=h4 x hx
           exact ⟨j,List.mem_cons_of_mem _ hj,h6⟩
theorem Mem.perm {w0 w:World} {ex:Nat→Prop} {L L':List (Nat×BA)} (M:Mem w0 ex w L) (is:List Nat) (h:pickE L is=some L') (hd:nodupB is=true):Mem w0 ex w L' :=
 ⟨M.os,M.tape,M.output,M.size,M.block,fun p hp=>M.blk p (pickE_mem h p hp),(pickE_nd M.nd h hd).1⟩
def permO {α:Type} (K:List α):Nat→List α→Option (List α)
 | 0,l=>some (K++l)
 | k+1,l=>match l with
  | []=>none
  | _::r=>permO K k r
theorem permO_eq {α:Type} {K:List α}:∀ {k:Nat} {l L':List α},permO K k l=some L'→L'=K++l.drop k
 | 0,l,L',h=>by simp [permO] at h;simp [h]
 | k+1,[],L',h=>by simp [permO] at h
 | k+1,_::r,L',h=>by
  have:=permO_eq (k:=k) (l:=r) (by simpa [permO] using h)
  simpa using this
def allLt (k:Nat):List Nat→Bool
 | []=>true
 | i::r=>Nat.blt i k && allLt k r
theorem allLt_mem {k:Nat}:∀ {is:List Nat},allLt k is=true→∀ i∈is,i < k
 | [],_,i,h=>by cases h
 | j::r,h,i,hi=>by
  simp only [allLt,Bool.and_eq_true] at h
  rcases List.mem_cons.1 hi with rfl | hi
  ·exact Nat.le_of_ble_eq_true h.1
  ·exact allLt_mem h.2 i hi
theorem Mem.permT {w0 w:World} {ex:Nat→Prop} {L L' K:List (Nat×BA)} (M:Mem w0 ex w L) (is:List Nat) (k:Nat) (h:pickE L is=some K) (hd:nodupB is=true) (hk:allLt k is=true) (h':permO K k L=some L'):Mem w0 ex w L':=by
 have e:=permO_eq h'
 subst e
 obtain ⟨n1,n2⟩:=pickE_nd M.nd h hd
 refine ⟨M.os,M.tape,M.output,M.size,M.block,fun p hp=>M.blk p ?_,?_⟩
 · rcases List.mem_append.1 hp with hp | hp
   · exact pickE_mem h p hp
   · exact List.mem_of_mem_drop hp
 · rw [List.map_append]
   refine List.nodup_append.2 ⟨n1,(M.nd.sublist ((List.drop_sublist k L).map _)),fun a ha b hb e=>?_⟩
   obtain ⟨x,hx,rfl⟩:=List.mem_map.1 ha
   obtain ⟨y,hy,rfl⟩:=List.mem_map.1 hb
   obtain ⟨i,hi,hix⟩:=n2 x hx
   have hik:=allLt_mem hk i hi
   obtain ⟨j,hj⟩:=List.getElem?_of_mem hy
   rw [List.getElem?_drop] at hj
   have b1:(L.map (·.1))[i]? = some x.1:=by rw [List.getElem?_map,nthE_get hix];rfl
   have b2:(L.map (·.1))[k+j]? = some x.1:=by rw [List.getElem?_map,hj];show some y.1=some x.1;rw [e]
   have:=(List.getElem?_inj (List.getElem?_eq_some_iff.1 b1).1 M.nd).1 (b1.trans b2.symm)
   omega
theorem Mem.nth {w0 w:World} {ex:Nat→Prop} {L:List (Nat×BA)} {g:Nat} {l:List Value} (M:Mem w0 ex w L) (i:Nat) (h:nthE L i=some (g,.cells l)):Bk w g l.toArray:=M.get (Zne h)
end
theorem evc {a:Act} {v:Value}:a.eval (.const v)=v:=rfl
theorem evf {a:Act} {f:FuncId}:a.eval (.func f)=.func (.func f) #[] #[]:=rfl
inductive EvL (a:Act):List Operand→List Value→Prop
 | nil:EvL a [] []
 | cons {x v xs vs}:a.eval x=v→EvL a xs vs→EvL a (x::xs) (v::vs)
theorem EvL.map {a:Act} {xs:List Operand} {vs:List Value} (h:EvL a xs vs):xs.map a.eval=vs:=by
 induction h with
 | nil=>rfl
 | cons h _ ih=>simp [h,ih]
inductive EvP (a:Act):List (Nat×Operand)→List (Nat×Value)→Prop
 | nil:EvP a [] []
 | cons {i x v xs vs}:a.eval x=v→EvP a xs vs→EvP a ((i,x)::xs) ((i,v)::vs)
theorem EvP.map {a:Act} {xs:List (Nat×Operand)} {vs:List (Nat×Value)} (h:EvP a xs vs):xs.map (fun p=>(p.1,a.eval p.2))=vs:=by
 induction h with
 | nil=>rfl
 | cons h _ ih=>simp [h,ih]
section
variable {df:List Deferred} {P:Program} {ops:Array Oper} {rest:List Oper} {op:Oper} {a:Act} {Q:Exit→Act→World→Prop} {w0 w:World} {ex:Nat→Prop} {L:List (Nat×BA)} {K:Act→World→Prop} {n t:Nat} {E:List (Nat×Value)} {v:Value}
abbrev Runs (P:Program) (op:Oper) (a:Act) (v:Value) (w:World):Prop:=(execOp a.eval op).run P w=.ok (.value v) w
theorem Zrm {x:Operand} (ho:op.op=.move x) (hx:a.eval x=v):Runs P op a v w:=by unfold Runs execOp;simp only [ho,hx,Sem.run_pure]
theorem Zra {x:Operand} (ho:op.op=.assign x) (hx:a.eval x=v):Runs P op a v w:=by unfold Runs execOp;simp only [ho,hx,Sem.run_pure]
theorem Zr1 {c x y:Operand} {b:Bool} (ho:op.op=.pick c x y) (hc:a.eval c=.bool b) (hb:b=true) (hx:a.eval x=v):Runs P op a v w:=by
 subst hb;unfold Runs execOp;simp [ho,hc,hx,asBool]
theorem Zr0 {c x y:Operand} {b:Bool} (ho:op.op=.pick c x y) (hc:a.eval c=.bool b) (hb:b=false) (hx:a.eval y=v):Runs P op a v w:=by
 subst hb;unfold Runs execOp;simp [ho,hc,hx,asBool]
theorem rn_bin {o:BinOp} {t t':TypeId} {x y:Operand} {u u':Value} (ho:op.op=.binOp o t x y t') (hx:a.eval x=u) (hy:a.eval y=u') (hr:(do eqGuard o t x y u u';binOp o t u u':Sem Value).run P w=.ok v w):Runs P op a v w:=by
 unfold Runs execOp
 simp only [ho,hx,hy]
 rw [Sem.run_bind,hr]
 rfl
theorem rn_add {t t':TypeId} {x y:Operand} {p q:Int} (ho:op.op=.binOp .add t x y t') (hx:a.eval x=.int .i64 p) (hy:a.eval y=.int .i64 q) (hb : -9223372036854775808≤p+q∧p+q≤9223372036854775807):Runs P op a (.int .i64 (p+q)) w :=
 rn_bin ho hx hy (by show Result.ok (Value.int .i64 (IntKind.i64.wrap (p+q))) w=_;rw [IntWalk.i64_in _ hb])
theorem rn_sub {t t':TypeId} {x y:Operand} {p q:Int} (ho:op.op=.binOp .sub t x y t') (hx:a.eval x=.int .i64 p) (hy:a.eval y=.int .i64 q) (hb : -9223372036854775808≤p - q∧p - q≤9223372036854775807):Runs P op a (.int .i64 (p - q)) w :=
 rn_bin ho hx hy (by show Result.ok (Value.int .i64 (IntKind.i64.wrap (p - q))) w=_;rw [IntWalk.i64_in _ hb])
theorem rn_mul {t t':TypeId} {x y:Operand} {p q:Int} (ho:op.op=.binOp .mul t x y t') (hx:a.eval x=.int .i64 p) (hy:a.eval y=.int .i64 q) (hb : -9223372036854775808≤p * q∧p * q≤9223372036854775807):Runs P op a (.int .i64 (p * q)) w :=
 rn_bin ho hx hy (by show Result.ok (Value.int .i64 (IntKind.i64.wrap (p * q))) w=_;rw [IntWalk.i64_in _ hb])
theorem rn_lss {k:IntKind} {t t':TypeId} {x y:Operand} {p q:Int} (ho:op.op=.binOp .lss t x y t') (hx:a.eval x=.int k p) (hy:a.eval y=.int k q):Runs P op a (.bool (decide (p < q))) w :=
 rn_bin ho hx hy (by cases k <;> rfl)
theorem rn_leq {k:IntKind} {t t':TypeId} {x y:Operand} {p q:Int} (ho:op.op=.binOp .leq t x y t') (hx:a.eval x=.int k p) (hy:a.eval y=.int k q):Runs P op a (.bool (decide (p≤q))) w :=
 rn_bin ho hx hy (by cases k <;> rfl)
theorem rn_gtr {k:IntKind} {t t':TypeId} {x y:Operand} {p q:Int} (ho:op.op=.binOp .gtr t x y t') (hx:a.eval x=.int k p) (hy:a.eval y=.int k q):Runs P op a (.bool (decide (q < p))) w :=
 rn_bin ho hx hy (by cases k <;> rfl)
theorem rn_geq {k:IntKind} {t t':TypeId} {x y:Operand} {p q:Int} (ho:op.op=.binOp .geq t x y t') (hx:a.eval x=.int k p) (hy:a.eval y=.int k q):Runs P op a (.bool (decide (q≤p))) w :=
 rn_bin ho hx hy (by cases k <;> rfl)
theorem rn_eql {k:IntKind} {t t':TypeId} {x y:Operand} {p q:Int} (ho:op.op=.binOp .eql t x y t') (hx:a.eval x=.int k p) (hy:a.eval y=.int k q):Runs P op a (.bool (decide (p=q))) w :=
 rn_bin ho hx hy (by cases k <;> rfl)
theorem neq_dec (p q:Int):(p != q) = !decide (p=q):=by by_cases h:p=q <;> simp [h]
theorem rn_neq {k:IntKind} {t t':TypeId} {x y:Operand} {p q:Int} (ho:op.op=.binOp .neq t x y t') (hx:a.eval x=.int k p) (hy:a.eval y=.int k q):Runs P op a (.bool (!decide (p=q))) w :=
 rn_bin ho hx hy (by rw [← neq_dec];cases k <;> rfl)
theorem rn_not {t:TypeId} {x:Operand} {p:Bool} (ho:op.op=.unOp .not t x) (hx:a.eval x=.bool p):Runs P op a (.bool (!p)) w:=by
 unfold Runs execOp;simp only [ho,hx];rfl
theorem Zrf {s:TypeId} {x:Operand} {f g o off:Nat} (ho:op.op=.fieldAddr s x f) (hx:a.eval x=.pointer (some ⟨g,o,none⟩))
  (hr:∀ (g o:Nat) (w:World),(Instr.fieldAt s (.pointer (some ⟨g,o,none⟩)) f).run P w=.ok (.pointer (some ⟨g,o+off,none⟩)) w):Runs P op a (.pointer (some ⟨g,o+off,none⟩)) w:=by
 unfold Runs execOp
 simp only [ho,hx]
 rw [Sem.run_bind,hr]
 rfl
theorem rn_field {s:TypeId} {x:Operand} {f:Nat} {u:Value} (ho:op.op=.field s x f) (hx:a.eval x=u) (hr:(Instr.field s u f).run P w=.ok v w):Runs P op a v w:=by
 unfold Runs execOp
 simp only [ho,hx]
 rw [Sem.run_bind,hr]
 rfl
theorem Zri {s : TypeId} {x y : Operand} {g o size m c : Nat} {i : Int} {A : Option Addr} (k : Nat) (ho : op.op = .indexAddr s x y) (hx : a.eval x = .slice A m c) (hy : a.eval y = .int .i64 i)
   (hu:∃ e,P.underlying s=some (.slice e)∧(P.info? e).map (·.size)=some size) (hk:i=(k:Int)) (hm:k < m) (hA:A=some ⟨g,o,none⟩):Runs P op a (.pointer (some ⟨g,o+k * size,none⟩)) w:=by
 subst hA
 obtain ⟨e,hu,he⟩:=hu
 subst hk
 unfold Runs execOp
 simp only [ho,hx,hy]
 cases hi:P.info? e with
 | none=>rw [hi] at he;simp at he
 | some inf =>
   rw [hi] at he
   simp at he
   have hm':(k:Int) < (m:Int):=by omega
   simp [Instr.indexAt,asIntOf,Sem.run_bind,run_underlying,hu,sizeOf,typeInfo,hi,he,Addr.add,hm]
theorem Zre {x:Operand} {i:Nat} {vs:List Value} (ho:op.op=.extract x i) (hx:a.eval x=.tuple vs.toArray) (hv:nthE vs i=some v):Runs P op a v w:=by
 unfold Runs execOp
 simp only [ho,hx]
 have:vs.toArray[i]? = some v:=by rw [List.getElem?_toArray];exact nthE_get hv
 simp [Instr.extract,this]
theorem rn_build {ty:TypeId} {parts:List (Nat×Operand)} {vs:List (Nat×Value)} (ho:op.op=.build ty parts.toArray) (hv:EvP a parts vs) (hr:∀ w:World,(Instr.build ty vs.toArray).run P w=.ok v w):Runs P op a v w:=by
 unfold Runs execOp
 simp only [ho]
 have e:(parts.toArray.map fun x=>(x.1,a.eval x.2))=vs.toArray:=by simp [← hv.map]
 have e2:(parts.toArray.map fun (i,x)=>(i,a.eval x))=vs.toArray:=e
 rw [Sem.run_bind,e2,hr]
 rfl
theorem Zrl {x:Operand} {A:Option Addr} {m c:Nat} {ty e:TypeId} (ho:op.op=.call { callee:=.builtin .len,args:=#[x],argTypes:=#[ty] }) (hu:P.underlying ty=some (.slice e)) (hx:a.eval x=.slice A m c):Runs P op a (.int .i64 (m:Int)) w:=by
 unfold Runs execOp
 simp [ho,resolve,invoke,builtin,hx,Builtin.len_,Sem.run_bind,run_underlying,hu,goInt]
theorem maxI (p q:Int):(if p < q then q else p)=max p q:=by rw [Int.max_def];split <;> split <;> omega
theorem minI (p q:Int):(if q < p then q else p)=min p q:=by rw [Int.min_def];split <;> split <;> omega
theorem rn_max2 {ts:Array TypeId} {x y:Operand} {p q:Int} (ho:op.op=.call { callee:=.builtin .max,args:=#[x,y],argTypes:=ts }) (hx:a.eval x=.int .i64 p) (hy:a.eval y=.int .i64 q):Runs P op a (.int .i64 (max p q)) w:=by
 unfold Runs execOp
 simp [ho,resolve,invoke,builtin,hx,hy,Builtin.max_,Builtin.max2,Sem.run_bind,maxI]
theorem rn_min2 {ts:Array TypeId} {x y:Operand} {p q:Int} (ho:op.op=.call { callee:=.builtin .min,args:=#[x,y],argTypes:=ts }) (hx:a.eval x=.int .i64 p) (hy:a.eval y=.int .i64 q):Runs P op a (.int .i64 (min p q)) w:=by
 unfold Runs execOp
 simp [ho,resolve,invoke,builtin,hx,hy,Builtin.min_,Builtin.min2,Sem.run_bind,minI]
def sliceO {α:Type}:Nat→Nat→List α→Option (List α)
 | _,0,_=>some []
 | _,_+1,[]=>none
 | 0,n+1,x::r=>match sliceO 0 n r with
  | none=>none
  | some q=>some (x::q)
 | o+1,n+1,_::r=>sliceO o (n+1) r
theorem sliceO_eq {α:Type}:∀ {o n:Nat} {l ds:List α},sliceO o n l=some ds→n≠0→(l.drop o).take n=ds∧o+n≤l.length
 | o,0,l,ds,h,hn=>absurd rfl hn
 | o,n+1,[],ds,h,_=>by cases o <;> simp [sliceO] at h
 | 0,1,x::r,ds,h,_=>by simp [sliceO] at h;subst h;simp
 | 0,n+2,x::r,ds,h,_=>by
  unfold sliceO at h
  cases h2:sliceO 0 (n+1) r with
  | none=>rw [h2] at h;cases h
  | some q =>
   rw [h2] at h
   simp only [Option.some.injEq] at h
   obtain ⟨h3,h4⟩:=sliceO_eq h2 (by simp)
   subst h
   subst h3
   simp only [List.drop_zero,List.length_cons] at h4 ⊢
   exact ⟨by simp,by omega⟩
 | o+1,n+1,x::r,ds,h,_=>by
  unfold sliceO at h
  obtain ⟨h3,h4⟩:=sliceO_eq h (by simp)
  simp only [List.length_cons,List.drop_succ_cons]
  exact ⟨h3,by omega⟩
theorem Zrr {ty:TypeId} {m:Nat} [hT:RowTy P ty (m+1)] {x:Operand} {g o:Nat} {cs ds:List Value} (hB:Bk w g cs.toArray) (ho:op.op=.load ty x) (hx:a.eval x=.pointer (some ⟨g,o,none⟩)) (hd:sliceO o (m+1) cs=some ds):Runs P op a (.agg ds.toArray) w:=by
 obtain ⟨h1,h2⟩:=sliceO_eq hd (by simp)
 exact rn_row hB ho hx h1 (by rw [Nat.ble_eq];exact h2)
theorem rn_cell {ty:TypeId} [OneTy P ty] {x:Operand} {p:Addr} (hc:w.cell? p=some v) (ho:op.op=.load ty x) (hx:a.eval x=.pointer (some p)):Runs P op a v w:=by
 obtain ⟨d,hu,hr⟩:=OneTy.one (P:=P) (t:=ty)
 have ha:(isAgg ty).run P w=.ok false w:=by
  unfold isAgg
  simp only [Sem.run_bind,run_underlying hu,Result.andThen_ok]
  cases d <;> first | rfl | (simp [TypeDesc.isRow] at hr)
 unfold Runs execOp
 simp only [ho,hx,Instr.loadAt,Instr.sureAddr,Sem.run_bind,Sem.run_pure,Result.andThen_ok]
 unfold loadVar
 simp only [Sem.run_bind,ha,Result.andThen_ok]
 simp [load,Sem.run,hc]
theorem rn_rowat {ty:TypeId} {m:Nat} [hT:RowTy P ty m] {x:Operand} {g o:Nat} {ds:List Value} (hc:w.rangeAt g o ds) (ho:op.op=.load ty x) (hx:a.eval x=.pointer (some ⟨g,o,none⟩)) (hm:ds.length=m):Runs P op a (.agg ds.toArray) w:=by
 obtain ⟨d,hu,hr⟩:=hT.row
 have:=run_loadVar_mid w g o ty ds d hc hu hr (by rw [hm];exact hT.size)
 unfold Runs execOp
 simp only [ho,hx,Instr.loadAt,Instr.sureAddr,Sem.run_bind,Sem.run_pure,Result.andThen_ok,this]
theorem Zrq {b:Bool} (h:Runs P op a (.bool b) w) {c:Bool} (e:b=c):Runs P op a (.bool c) w:=e ▸ h
theorem Zwy {j:Nat} {c:Bool} {b:Bool} (hg:op.guard=some (j,c)) (hj:(ops[j]?).bind (·.dst)=some t) (he:a.eval (.tmp t)=.bool b) (hb:b=c):Region.wanted op (yielded ops a.tmps)=true:=by
 subst hb
 have:a.tmps[t]? = some (.bool b):=by
   have he:a.tmps.getD t undef=.bool b:=he
   cases h:a.tmps[t]? with
   | none=>simp [h,undef] at he
   | some x=>simp [h] at he;rw [he]
 simp [Region.wanted,hg,yielded,hj,this]
theorem Zwu {j:Nat} {c:Bool} (hg:op.guard=some (j,c)) (hj:(ops[j]?).bind (·.dst)=some t) (he:a.eval (.tmp t)=undef):Region.wanted op (yielded ops a.tmps)=false:=by
 have he:a.tmps.getD t undef=undef:=he
 have:yielded ops a.tmps j=none:=by
   unfold yielded
   rw [hj]
   simp only [Option.bind_some]
   cases h:a.tmps[t]? with
   | none=>rfl
   | some x=>simp [h] at he;rw [he];rfl
 simp only [Region.wanted,hg,this]
 rfl
theorem Zwn {j:Nat} {c:Bool} {b:Bool} (hg:op.guard=some (j,c)) (hj:(ops[j]?).bind (·.dst)=some t) (he:a.eval (.tmp t)=.bool b) (hb:b = !c):Region.wanted op (yielded ops a.tmps)=false:=by
 subst hb
 have:a.tmps[t]? = some (.bool !c):=by
   have he:a.tmps.getD t undef=.bool !c:=he
   cases h:a.tmps[t]? with
   | none=>simp [h,undef] at he
   | some x=>simp [h] at he;rw [he]
 simp only [Region.wanted,hg,yielded,hj,Option.bind_some,this]
 cases c <;> rfl
theorem l_q (T:TmD df a n E) (hw:Region.wanted op (yielded ops a.tmps)=true) (hd:op.dst=some t) (hf:freshE E t=true) (hn:Nat.blt t n=true) (hr:Runs P op a v w)
  (h:∀ a',TmD df a' n ((t,v)::E)→wpList P ops Q rest a' w):wpList P ops Q (op::rest) a w :=
 wpList_wanted hw fun _ hK=>by
  unfold Oper.wp
  unfold Runs at hr
  rw [hr,Oper.upon_value,hd]
  exact hK _ _ (h _ (T.put hn hf v))
theorem lq (T:TmD df a n E) (hr:Runs P op a v w) (h:∀ a',TmD df a' n ((t,v)::E)→wpList P ops Q rest a' w)
  (hw:Region.wanted op (yielded ops a.tmps)=true:=by rfl) (hd:op.dst=some t:=by rfl) (hf:freshE E t=true:=by rfl) (hn:Nat.blt t n=true:=by rfl):wpList P ops Q (op::rest) a w:=l_q T hw hd hf hn hr h
theorem lw (T:TmD df a n E) (hw:Region.wanted op (yielded ops a.tmps)=true) (hr:Runs P op a v w) (h:∀ a',TmD df a' n ((t,v)::E)→wpList P ops Q rest a' w)
  (hd:op.dst=some t:=by rfl) (hf:freshE E t=true:=by rfl) (hn:Nat.blt t n=true:=by rfl):wpList P ops Q (op::rest) a w:=l_q T hw hd hf hn hr h
theorem l_pass (T:TmD df a n E) (hw:Region.wanted op (yielded ops a.tmps)=false) (hd:op.dst=some t) (hf:freshE E t=true) (hn:Nat.blt t n=true) (h:∀ a',TmD df a' n ((t,undef)::E)→wpList P ops Q rest a' w):wpList P ops Q (op::rest) a w :=
 wpList_step fun K hK=>by
  rw [if_neg (by rw [hw];simp),hd]
  exact hK _ _ (h _ (T.put hn hf _))
theorem lp (T:TmD df a n E) (hw:Region.wanted op (yielded ops a.tmps)=false) (h:∀ a',TmD df a' n ((t,undef)::E)→wpList P ops Q rest a' w)
  (hd:op.dst=some t:=by rfl) (hf:freshE E t=true:=by rfl) (hn:Nat.blt t n=true:=by rfl):wpList P ops Q (op::rest) a w:=l_pass T hw hd hf hn h
theorem l_w (hw:Region.wanted op (yielded ops a.tmps)=true) (h:∀ K:Act→World→Prop,Shut (∀ a w,wpList P ops Q rest a w→K a w)→op.wp P a w K Q):wpList P ops Q (op::rest) a w :=
 wpList_wanted hw fun K hK=>h K hK
theorem Zoa {ty:TypeId} {l:List Value} [ZeroTy P ty l] (M:Mem w0 ex w L) (T:TmD df a n E) (ho:op.op=.alloc ty) (hd:op.dst=some t) (hf:freshE E t=true) (hn:Nat.blt t n=true)
  (h:∀ g w' a',Mem w0 ex w' ((g,.cells l)::L)→TmD df a' n ((t,.pointer (some ⟨g,0,none⟩))::E)→K a' w'):op.wp P a w K Q :=
 m_alw M ho fun g w' M'=>h g w' _ M' (by rw [hd];exact T.put hn hf _)
theorem Zob {ty:TypeId} {x:Operand} {l:List Value} (M:Mem w0 ex w L) (T:TmD df a n E) (ho:op.op=.box ty x) (hd:op.dst=some t) (hf:freshE E t=true) (hn:Nat.blt t n=true) (hx:a.eval x=v) (hv:v.cells=l.toArray)
  (h:∀ g w' a',Mem w0 ex w' ((g,.cells l)::L)→TmD df a' n ((t,.pointer (some ⟨g,0,none⟩))::E)→K a' w'):op.wp P a w K Q:=by
 unfold Oper.wp execOp
 simp only [ho,hx,Instr.box,Sem.run_bind,Sem.run_pure,Result.andThen_ok,newVar,newRow,run_newObj_alloc,hv]
 exact h _ _ _ (M.new l ty) (by rw [hd];exact T.put hn hf _)
theorem ow_bs {ty len e:TypeId} {parts:List (Nat×Operand)} {vs:List (Nat×Value)} (l:List Value) (M:Mem w0 ex w L) (T:TmD df a n E) (ho:op.op=.buildSlice ty len parts.toArray) (hd:op.dst=some t) (hf:freshE E t=true) (hn:Nat.blt t n=true) (hv:EvP a parts vs)
  (hr:∀ w:World,(Instr.buildSlice ty len vs.toArray).run P w=.ok (.slice (some ⟨w.heap.size,0,none⟩) len len) (w.alloc (.cells l.toArray e)))
  (h:∀ g w' a',Mem w0 ex w' ((g,.cells l)::L)→TmD df a' n ((t,.slice (some ⟨g,0,none⟩) len len)::E)→K a' w'):op.wp P a w K Q:=by
 unfold Oper.wp execOp
 simp only [ho]
 have e:(parts.toArray.map fun x=>(x.1,a.eval x.2))=vs.toArray:=by simp [← hv.map]
 have e2:(parts.toArray.map fun (i,x)=>(i,a.eval x))=vs.toArray:=e
 rw [Sem.run_bind,e2,hr]
 exact h _ _ _ (M.new l _) (by rw [hd];exact T.put hn hf _)
def storeO {α:Type}:List α→Nat→List α→Option (List α)
 | l,_,[]=>some l
 | [],_,_::_=>none
 | _::r,0,d::ds=>match storeO r 0 ds with
  | none=>none
  | some q=>some (d::q)
 | x::r,o+1,d::ds=>match storeO r o (d::ds) with
  | none=>none
  | some q=>some (x::q)
theorem storeO_eq {α:Type}:∀ {l:List α} {o:Nat} {ds l':List α},storeO l o ds=some l'→ds≠[]→o+ds.length≤l.length∧l'=l.take o++ds++l.drop (o+ds.length)
 | l,o,[],l',h,hn=>absurd rfl hn
 | [],o,d::ds,l',h,_=>by simp [storeO] at h
 | x::r,0,[d],l',h,_=>by
  cases r with
  | nil=>simp [storeO] at h;subst h;simp
  | cons y r=>simp [storeO] at h;subst h;simp
 | x::r,0,d::d2::ds,l',h,_=>by
  unfold storeO at h
  cases h2:storeO r 0 (d2::ds) with
  | none=>rw [h2] at h;cases h
  | some q =>
   rw [h2] at h
   simp only [Option.some.injEq] at h
   obtain ⟨h3,h4⟩:=storeO_eq h2 (by simp)
   subst h
   subst h4
   simp only [List.length_cons] at h3 ⊢
   refine ⟨by omega,?_⟩
   simp only [List.take_zero,List.nil_append,Nat.zero_add,List.cons_append,List.drop_succ_cons,List.length_cons]
 | x::r,o+1,d::ds,l',h,_=>by
  unfold storeO at h
  cases h2:storeO r o (d::ds) with
  | none=>rw [h2] at h;cases h
  | some q =>
   rw [h2] at h
   simp only [Option.some.injEq] at h
   obtain ⟨h3,h4⟩:=storeO_eq h2 (by simp)
   subst h
   subst h4
   simp only [List.length_cons] at h3 ⊢
   refine ⟨by omega,?_⟩
   rw [show o+1+(ds.length+1)=(o+(ds.length+1))+1 by omega]
   simp only [List.take_succ_cons,List.cons_append,List.drop_succ_cons]
theorem Zos {ty : TypeId} {x y : Operand} {g o : Nat} {cs ds cs' : List Value} {L' : List (Nat × BA)} (M : Mem w0 ex w L) (T : TmD df a n E) (ho : op.op = .store ty x y) (hd : op.dst = none) (hx : a.eval x = .pointer (some ⟨g, o, none⟩)) (hy : a.eval y = v) (hv : v.cells = ds.toArray)
   (hu:Upd L g (.cells cs) (.cells cs') L') (hc:storeO cs o ds=some cs') (hne:ds≠[]) (h1:ds.all (·.oneCell')=true) (hi:(P.info? ty).map (·.size)=some ds.length)
   (h:∀ w' a',Mem w0 ex w' L'→TmD df a' n E→K a' w'):op.wp P a w K Q:=by
 obtain ⟨h2,h3⟩:=storeO_eq hc hne
 exact m_stw M ho hx hy hv hu h3.symm h2 h1 hi fun w' M'=>h w' _ M' (by rw [hd];exact T)
def RetK (next:Value→World→Prop):Ending→World→Prop
 | .returned v,w=>next v w
 | _,_=>False
theorem Zoc {x:Operand} {xs:List Operand} {ts:Array TypeId} {f:FuncId} {first cap vs:List Value} {fn:Func} (T:TmD df a n E) (ho:op.op=.call { callee:=.value x,args:=xs.toArray,argTypes:=ts }) (hd:op.dst=some t) (hf:freshE E t=true) (hn:Nat.blt t n=true)
  (hx : a.eval x = .func (.func f) first.toArray cap.toArray) (hv : EvL a xs vs) (hfn : P.funcs[f]? = some fn) (hnm : (fn.name == "runtime.NumGoroutine") = false) (hb : fn.body.isNone = false)
  (h:Calls P f (first++vs++cap).toArray w (RetK fun v w'=>∀ a',TmD df a' n ((t,v)::E)→K a' w')):op.wp P a w K Q:=by
 have e:(xs.toArray.map a.eval)=vs.toArray:=by simp [← hv.map]
 have hrun:(execOp a.eval op).run P w=.ok (.enter f (first++vs++cap).toArray) w:=by
  have hne : fn.name ≠ "runtime.NumGoroutine" := by simpa using hnm
  have hb2:fn.body≠none:=fun h=>by rw [h] at hb;cases hb
  unfold execOp
  simp [ho,resolve,invoke,Deferred.ofValue,hx,hv.map,callFunc,hfn,hb2,hne,Sem.run_bind]
 unfold Oper.wp
 rw [hrun,Oper.upon_enter]
 refine h.mono fun e w' hh=>?_
 cases e with
 | returned v=>exact (hd ▸ hh _ (T.put hn hf v):K (a.put op.dst v) w')
 | panicked c=>exact hh.elim
 | outgrown=>exact hh.elim
def Zpb:Nat→Nat→Array Bool:=fun n m=>((List.range n).map fun i=>m.testBit i).toArray
section
variable {S:Array Bool→World→Prop} {fuel:Nat} {l l':Array Bool} {i:Nat} {oi:Oper}
theorem wpAnyS_more {S':Array Bool→World→Prop} (hm:∀ L w,S' L w→S L w):∀ (fuel:Nat) (listed:Array Bool) (a:Act) (w:World),wpAnyS P ops Q S' fuel listed a w→wpAnyS P ops Q S fuel listed a w
 | 0,_,_,_,h=>h
 | fuel+1,_,_,_,h=>⟨h.1,fun i hi=>wpOp_mono (fun a' w' h'=>⟨hm _ _ h'.1,wpAnyS_more hm fuel _ a' w' h'.2⟩) (h.2 i hi)⟩
theorem g_start (S:Array Bool→World→Prop) (m:Nat) {id:Nat} (hm:P.follows .mixedOrders=true) (hn:ops.size=m) (hz:Array.replicate m false=Zpb m 0) (hS:S (Zpb m 0) w.drew)
  (h:wpG P ops Q S m (Zpb m 0) a w.drew):(Code.region id ops true).wp P Q a w:=by
 subst hn
 rw [← hz] at hS h
 exact wp_region_any hm (wpAny_of_S _ _ _ _ (h DC.start hS))
theorem g_add (p:Array Bool→World→Prop) (h0:p l w) (h:wpG P ops Q (fun L W=>p L W∧S L W) fuel l a w):wpG P ops Q S fuel l a w :=
 fun hD hS=>wpAnyS_more (fun _ _ h=>h.2) _ _ _ _ (h hD ⟨h0,hS⟩)
def MU (w0:World) (ex:Nat→Prop) (L:List (Nat×BA)):Array Bool→World→Prop:=fun _ W=>Mem w0 ex W L
def MG (s:Nat) (w0:World) (ex:Nat→Prop) (L:List (Nat×BA)):Array Bool→World→Prop:=fun B W=>B.getD s true=false→Mem w0 ex W L
theorem Zgs {Lc:List (Nat×BA)} (M:Mem w0 ex w L) (Mc:Mem w0 ex w Lc) (m:Nat) {id:Nat} (hm:P.follows .mixedOrders=true) (hn:ops.size=m) (hz:Array.replicate m false=Zpb m 0)
  (h:∀ w',Mem w0 ex w' L→wpG P ops Q (MU w0 ex Lc) m (Zpb m 0) a w'):(Code.region id ops true).wp P Q a w:=g_start _ m hm hn hz Mc.drew (h _ M.drew)
def MA (p q:Array Bool→World→Prop):Array Bool→World→Prop:=fun B W=>p B W∧q B W
theorem MA.lft {p q:Array Bool→World→Prop} {B:Array Bool} {W:World} (h:MA p q B W):p B W:=h.1
theorem MA.mk {p q:Array Bool→World→Prop} {B:Array Bool} {W:World} (h:p B W) (h':q B W):MA p q B W:=⟨h,h'⟩
theorem g_addG (s:Nat) (M:Mem w0 ex w L) (h:wpG P ops Q (MA (MG s w0 ex L) S) fuel l a w):wpG P ops Q S fuel l a w:=g_add (MG s w0 ex L) (fun _=>M) h
theorem si_U:∀ (B:Array Bool) W,MU w0 ex L (B.setIfInBounds i true) W↔MU w0 ex L B W:=fun _ _=>Iff.rfl
theorem si_G {s:Nat} (h:Nat.beq i s=false):∀ (B:Array Bool) W,MG s w0 ex L (B.setIfInBounds i true) W↔MG s w0 ex L B W:=fun B W=>by
 unfold MG
 rw [getD_set_ne true (fun e=>by subst e;simp at h)]
theorem si_and {p q:Array Bool→World→Prop} (hp:∀ B W,p (B.setIfInBounds i true) W↔p B W) (hq:∀ B W,q (B.setIfInBounds i true) W↔q B W) :
  ∀ (B:Array Bool) W,MA p q (B.setIfInBounds i true) W↔MA p q B W:=fun B W=>and_congr (hp B W) (hq B W)
theorem g_q (T:TmD df a n E) (hi:ops[i]? = some oi) (hs:(Region.noSelect ops && Region.free .any ops l i && (Region.ready .any ops l).contains i)=true) (hl:l.setIfInBounds i true=l')
  (hSi:∀ L w,S (L.setIfInBounds i true) w↔S L w) (hQ:∀ c a w,Q (.panic c) (a.put oi.dst v) w→Q (.panic c) a w)
  (hw:Region.wanted oi (yielded ops a.tmps)=true) (hd:oi.dst=some t) (hf:freshE E t=true) (hn:Nat.blt t n=true)
  (hr:∀ L w',DC ops L→L.getD i true=false→S L w'→Runs P oi a v w') (h:∀ a',TmD df a' n ((t,v)::E)→wpG P ops Q S fuel l' a' w):wpG P ops Q S (fuel+1) l a w :=
 wpG_take hi hs hSi hQ (.inl ⟨hw,fun w' hy=>by obtain ⟨L,h1,h2,h3⟩:=hy;exact hr L w' h1 h2 h3⟩) (by rw [hl,hd];exact h _ (T.put hn hf v))
theorem g_w (hr:Region.ready .any ops l=[i]) (ho:ops[i]? = some oi) (hl:l.setIfInBounds i true=l') (hw:Region.wanted oi (yielded ops a.tmps)=true)
  (h:∀ K':Act→World→Prop,Shut (∀ a w,S l' w→wpG P ops Q S fuel l' a w→K' a w)→oi.wp P a w K' Q):wpG P ops Q S (fuel+1) l a w :=
 wpG_one hr ho hw fun _ K' hK=>by subst hl;exact h K' hK
def wpGi (P:Program) (ops:Array Oper) (Q:Exit→Act→World→Prop) (S:Array Bool→World→Prop) (fuel:Nat) (l:Array Bool) (i:Nat) (a:Act) (w:World):Prop :=
 DC ops (l.setIfInBounds i true)→wpOp P ops Q i (fun a' w'=>S (l.setIfInBounds i true) w'∧wpAnyS P ops Q S fuel (l.setIfInBounds i true) a' w') a w
theorem g_m2 {j:Nat} (hr:Region.ready .any ops l=[i,j]) (h:wpGi P ops Q S fuel l i a w) (h':wpGi P ops Q S fuel l j a w):wpG P ops Q S (fuel+1) l a w:=fun hD _ =>
 ⟨fun h0=>(by rw [hr] at h0;cases h0),fun k hk=>by
  have hk':=hk
  rw [hr] at hk'
  simp only [List.mem_cons,List.not_mem_nil,or_false] at hk'
  rcases hk' with rfl | rfl
  ·exact h (hD.step hk)
  ·exact h' (hD.step hk)⟩
theorem g_i (ho:ops[i]? = some oi) (hl:l.setIfInBounds i true=l') (hw:Region.wanted oi (yielded ops a.tmps)=true)
  (h:∀ K':Act→World→Prop,Shut (∀ a w,S l' w→wpG P ops Q S fuel l' a w→K' a w)→oi.wp P a w K' Q):wpGi P ops Q S fuel l i a w:=fun hD=>by
 subst hl
 refine wpOp_step ho (fun K' hK=>?_)
 rw [if_pos hw]
 exact h K' (fun a w hS' hW=>hK a w ⟨hS',hW hD hS'⟩)
theorem gq (T:TmD df a n E) (i b':Nat) {m b:Nat} (hi:ops[i]? = some oi) (hr:∀ L w',DC ops L→L.getD i true=false→S L w'→Runs P oi a v w') (h:∀ a',TmD df a' n ((t,v)::E)→wpG P ops Q S fuel (Zpb m b') a' w)
  (hs:(Region.noSelect ops && Region.free .any ops (Zpb m b) i && (Region.ready .any ops (Zpb m b)).contains i)=true:=by kernel_rfl) (hl:(Zpb m b).setIfInBounds i true=Zpb m b':=by kernel_rfl)
  (hSi:∀ L w,S (L.setIfInBounds i true) w↔S L w:=by repeat' (first | exact si_U | exact si_G rfl | refine si_and ?_ ?_)) (hQ:∀ c a w,Q (.panic c) (a.put oi.dst v) w→Q (.panic c) a w:=by exact fun _ _ _ h=>h)
  (hw:Region.wanted oi (yielded ops a.tmps)=true:=by rfl) (hd:oi.dst=some t:=by rfl) (hf:freshE E t=true:=by rfl) (hn:Nat.blt t n=true:=by rfl):wpG P ops Q S (fuel+1) (Zpb m b) a w :=
 g_q T hi hs hl hSi hQ hw hd hf hn hr h
theorem gw (i b':Nat) {m b:Nat} (h:∀ K':Act→World→Prop,Shut (∀ a w,S (Zpb m b') w→wpG P ops Q S fuel (Zpb m b') a w→K' a w)→oi.wp P a w K' Q)
  (hr:Region.ready .any ops (Zpb m b)=[i]:=by kernel_rfl) (ho:ops[i]? = some oi:=by rfl) (hl:(Zpb m b).setIfInBounds i true=Zpb m b':=by kernel_rfl) (hw:Region.wanted oi (yielded ops a.tmps)=true:=by rfl):wpG P ops Q S (fuel+1) (Zpb m b) a w:=g_w hr ho hl hw h
theorem gi (b':Nat) {m b:Nat} (h:∀ K':Act→World→Prop,Shut (∀ a w,S (Zpb m b') w→wpG P ops Q S fuel (Zpb m b') a w→K' a w)→oi.wp P a w K' Q)
  (ho:ops[i]? = some oi:=by rfl) (hl:(Zpb m b).setIfInBounds i true=Zpb m b':=by kernel_rfl) (hw:Region.wanted oi (yielded ops a.tmps)=true:=by rfl):wpGi P ops Q S fuel (Zpb m b) i a w:=g_i ho hl hw h
theorem Zgd (hr:Region.ready .any ops l=[]) (h:Q .normal a w):wpG P ops Q S fuel l a w:=wpG_done hr fun _=>h
end
theorem g_have {P:Program} {ops:Array Oper} {Q:Exit→Act→World→Prop} {S:Array Bool→World→Prop} {fuel:Nat} {l:Array Bool} {a:Act} {w:World} (I:Act→World→Prop) (l':Array Bool) (fuel':Nat)
  (h2:∀ a w,I a w→wpG P ops Q S fuel' l' a w) (h1:(∀ a w,I a w→wpG P ops Q S fuel' l' a w)→wpG P ops Q S fuel l a w):wpG P ops Q S fuel l a w:=h1 h2
theorem wp_if {c:Operand} {x y:Code} {p:Prop} [Decidable p] (hc:a.eval c=.bool (decide p)) (ht:p→x.wp P Q a w) (hf : ¬ p→y.wp P Q a w):(Code.cond c x y).wp P Q a w :=
 wp_cond_split hc (fun h=>ht (of_decide_eq_true h)) (fun h=>hf (of_decide_eq_false h))
theorem wp_ifn {c:Operand} {x y:Code} {p:Prop} [Decidable p] (hc:a.eval c=.bool (!decide p)) (ht : ¬ p→x.wp P Q a w) (hf:p→y.wp P Q a w):(Code.cond c x y).wp P Q a w :=
 wp_cond_split hc (fun h=>ht (by simpa using h)) (fun h=>hf (by simpa using h))
theorem rt_ct {fn:Func} {R:Ending→World→Prop} {t t':Tmp} {ty:TypeId} {m g:Nat} [hT:RowTy P ty m] {cs:List Value} (M:Mem w0 ex w L) (T:Tm a n E) (hr:fn.results = #[.cell t ty,.tmp t'])
  (hx:a.eval (.tmp t)=.pointer (some ⟨g,0,none⟩)) (hx':a.eval (.tmp t')=v) (hm:(g,BA.cells cs)∈L) (hn:cs.length=m) (h:R (.returned (.tuple #[.agg cs.toArray,v])) w):bodyPost P fn R .ret a w :=
 ret_M1 M hr T.defers hx hx' hm hn h
theorem nm_then {K:Act→World→Prop} (h:K a w):Exit.then K Q .normal a w:=h
theorem Zrt {K:Act→World→Prop} (h:Q .ret a w):Exit.then K Q .ret a w:=h
theorem Zrb {id:Nat} (h:Q .ret a w):Exit.inBlock id Q .ret a w:=h
theorem Znb {id:Nat} (h:Q .normal a w):Exit.inBlock id Q .normal a w:=h
theorem Zso {p:Prop} (h:Shut p):p:=h
def numE:Nat→List Value→List (Nat×Value)
 | _,[]=>[]
 | k,v::r=>(k,v)::numE (k+1) r
theorem numE_get:∀ (l:List Value) (k:Nat) (p:Nat×Value),p∈numE k l→∃ i,p.1=k+i∧l[i]? = some p.2
 | [],_,p,h=>by cases h
 | v::r,k,p,h=>by
  rcases List.mem_cons.1 h with rfl | h
  ·exact ⟨0,rfl,rfl⟩
  ·obtain ⟨i,h1,h2⟩:=numE_get r (k+1) p h
   exact ⟨i+1,by omega,by simpa using h2⟩
theorem Zpx {f:FuncId} {fn:Func} {c:Code} {args:Array Value} {R:Ending→World→Prop} (ex:Nat→Prop) (hf:P.funcs[f]? = some fn) (hb:fn.body=some c) (n:Nat) (hn:fn.ntmps=n) (vs:List Value) (ha:args=vs.toArray) (hle:Nat.ble vs.length n=true)
  {L:List (Nat×BA)} (M:Mem w ex w L)
  (h:∀ a w',Tm a n (numE 0 vs)→Mem w ex w' L→c.wp P (bodyPost P fn R) a w'):Calls P f args w R:=by
 subst ha
 have hle:=Nat.le_of_ble_eq_true hle
 refine calls_of_wp hf hb (h _ _ ⟨rfl,?_,fun p hp=>?_⟩ M)
 ·simp [hn];omega
 ·obtain ⟨i,h1,h2⟩:=numE_get vs 0 p hp
  have hi:i < vs.length:=(List.getElem?_eq_some_iff.1 h2).1
  have e:p.1=i:=by omega
  rw [e]
  have h3:(vs.toArray++Array.replicate (fn.ntmps - vs.toArray.size) undef)[i]? = some p.2:=by
   rw [Array.getElem?_append_left (by simpa using hi)]
   simpa using h2
  show (vs.toArray++Array.replicate (fn.ntmps - vs.toArray.size) undef).getD i undef=p.2
  simp only [Array.getD_eq_getD_getElem?,h3,Option.getD_some]
structure Sp (w:World) (ex:Nat→Prop) (I:List (Nat×BA)) (A:Option Addr) (n size b o:Nat) (xs:List Value):Prop where
 at0:0 < n→A=some ⟨b,o,none⟩
 len:xs.length=n * size
 lt:∀ w' L,Mem w ex w' L→I.Sublist L→0 < n→b < w'.heap.size
 cell:∀ w' L,Mem w ex w' L→I.Sublist L→∀ j u,xs[j]? = some u→w'.cell? ⟨b,o+j,none⟩=some u
theorem Sp.old {w:World} {size n:Nat} {A:Option Addr} {xs:List Value} (h:Rd w w.heap.size size A n xs):∃ b o,Sp w noEx [] A n size b o xs:=by
 rcases Nat.eq_zero_or_pos n with rfl | hn
 ·refine ⟨0,0,by omega,h.1,fun _ _ _ _ h=>absurd h (by omega),fun _ _ _ _ j u hu=>?_⟩
  have:xs=[]:=List.eq_nil_of_length_eq_zero (by have:=h.1;omega)
  simp [this] at hu
 ·obtain ⟨b,o,h1,h2,h3⟩:=h.2 hn
  exact ⟨b,o,fun _=>h1,h.1,fun w' L M _ _=>Nat.lt_of_lt_of_le h2 M.size,fun w' L M _ j u hu=>(M.below.cell (p:=⟨b,o+j,none⟩) h2).trans (h3 j u hu)⟩
theorem Sp.row {w:World} {ex:Nat→Prop} {e size n g cap:Nat} {xs:List Value} (hl:xs.length=n * size):Sp w ex [(g,.row e size n xs cap)] (some ⟨g,0,none⟩) n size g 0 xs :=
 ⟨fun _=>rfl,hl,fun w' L M hI _=>BA.lt (M.blk _ (hI.subset List.mem_cons_self)).2,fun w' L M hI j u hu=>by
  have hr:=M.rdRow (hI.subset List.mem_cons_self)
  have hn:0 < n:=by
   rcases Nat.eq_zero_or_pos n with h | h
   ·have:xs=[]:=List.eq_nil_of_length_eq_zero (by rw [hl,h,Nat.zero_mul])
    simp [this] at hu
   ·exact h
  obtain ⟨b,o,e1,_,h3⟩:=hr.2 hn
  injection e1 with e1
  injection e1 with e1 e2 _
  subst e1
  subst e2
  exact h3 j u hu⟩
theorem Sp.cells {w:World} {ex:Nat→Prop} {size n g:Nat} {xs:List Value} (hl:xs.length=n * size):Sp w ex [(g,.cells xs)] (some ⟨g,0,none⟩) n size g 0 xs :=
 ⟨fun _=>rfl,hl,fun w' L M hI _=>BA.lt (M.blk _ (hI.subset List.mem_cons_self)).2,fun w' L M hI j u hu=>by
  have hb:=M.get (hI.subset List.mem_cons_self)
  rw [hb.cell,Nat.zero_add]
  simpa using hu⟩
theorem Sp.nil {w:World} {ex:Nat→Prop} {size b o:Nat} {A:Option Addr}:Sp w ex [] A 0 size b o [] :=
 ⟨fun h=>absurd h (by omega),by simp,fun _ _ _ _ h=>absurd h (by omega),fun _ _ _ _ j u hu=>by simp at hu⟩
theorem Sp.rd {w w':World} {ex:Nat→Prop} {I L:List (Nat×BA)} {size n b o:Nat} {A:Option Addr} {xs:List Value} (S:Sp w ex I A n size b o xs) (M:Mem w ex w' L) (hI:I.Sublist L):Rd w' w'.heap.size size A n xs :=
 ⟨S.len,fun h=>⟨b,o,S.at0 h,S.lt w' L M hI h,S.cell w' L M hI⟩⟩
theorem Mem.swapI {w0 w:World} {ex:Nat→Prop} {I L:List (Nat×BA)} (M:Mem w0 ex w (I++L)):Mem w0 ex w (L++I) :=
 ⟨M.os,M.tape,M.output,M.size,M.block,fun p hp=>M.blk p (by rcases List.mem_append.1 hp with h | h;exact List.mem_append_right _ h;exact List.mem_append_left _ h),by
  have h:=M.nd
  rw [List.map_append] at h ⊢
  obtain ⟨h1,h2,h3⟩:=List.nodup_append.1 h
  exact List.nodup_append.2 ⟨h2,h1,fun a ha b hb e=>h3 b hb a ha e.symm⟩⟩
section
variable {w w':World} {ex:Nat→Prop} {I L:List (Nat×BA)} {n b o k:Nat} {A:Option Addr} {l:List (Int×Int)} {r:List Int} {x y:Int}
theorem Sp.rc0 (S:Sp w ex I A n 2 b o (rc l)) (M:Mem w ex w' L) (hI:I.Sublist L) (h:l[k]? = some (x,y)):w'.cell? ⟨b,o+k * 2+0,none⟩=some (.int .i64 x):=S.cell w' L M hI _ _ (rc_get l k _ h).1
theorem Sp.rc1 (S:Sp w ex I A n 2 b o (rc l)) (M:Mem w ex w' L) (hI:I.Sublist L) (h:l[k]? = some (x,y)):w'.cell? ⟨b,o+k * 2+1,none⟩=some (.int .i64 y):=by
 have:=S.cell w' L M hI _ _ (rc_get l k _ h).2
 rwa [← Nat.add_assoc] at this
theorem Sp.rcR (S:Sp w ex I A n 2 b o (rc l)) (M:Mem w ex w' L) (hI:I.Sublist L) (h:l[k]? = some (x,y)):w'.rangeAt b (o+k * 2) [.int .i64 x,.int .i64 y]:=fun j v hv=>by
 match j with
 | 0=>simp at hv;rw [← hv];exact S.rc0 M hI h
 | 1=>simp at hv;rw [← hv];exact S.rc1 M hI h
 | j+2=>simp at hv
theorem Sp.ic0 (S:Sp w ex I A n 1 b o (ic r)) (M:Mem w ex w' L) (hI:I.Sublist L) (h:r[k]? = some x):w'.cell? ⟨b,o+k * 1,none⟩=some (.int .i64 x):=by
 rw [Nat.mul_one];exact S.cell w' L M hI _ _ (ic_get r k _ h)
end
theorem rc_next {l:List (Int×Int)} {k:Nat} (h:k < l.length):∃ x y,l[k]? = some (x,y)∧l.drop k=(x,y)::l.drop (k+1):=⟨l[k].1,l[k].2,List.getElem?_eq_getElem h,List.drop_eq_getElem_cons h⟩
theorem ic_next {l:List Int} {k:Nat} (h:k < l.length):∃ x,l[k]? = some x∧l.drop k=x::l.drop (k+1):=⟨l[k],List.getElem?_eq_getElem h,List.drop_eq_getElem_cons h⟩
theorem Rd.spot {w:World} {B size n:Nat} {A:Option Addr} {xs:List Value} (h:Rd w B size A n xs):∃ b o,(0 < n→A=some ⟨b,o,none⟩)∧(0 < n→b < B)∧∀ j u,xs[j]? = some u→w.cell? ⟨b,o+j,none⟩=some u:=by
 rcases Nat.eq_zero_or_pos n with rfl | hn
 ·refine ⟨0,0,by omega,by omega,fun j u hu=>?_⟩
  have:xs=[]:=List.eq_nil_of_length_eq_zero (by have:=h.1;omega)
  simp [this] at hu
 ·obtain ⟨b,o,h1,h2,h3⟩:=h.2 hn
  exact ⟨b,o,fun _=>h1,fun _=>h2,h3⟩
theorem cut_seq {x y:Code} (I:Act→World→Prop) (h1:x.wp P (Exit.then I Q) a w) (h2:∀ a w,I a w→y.wp P Q a w):(Code.seq x y).wp P Q a w :=
 wp_seq (wp_mono h1 fun e a w q=>by cases e <;> first | exact q | exact h2 _ _ q)
theorem Zet {K:Act→World→Prop} {id:Nat} (h:Q (.exit id) a w):Exit.then K Q (.exit id) a w:=h
theorem ex_hit {id:Nat} (h:Q .normal a w):Exit.inBlock id Q (.exit id) a w:=by simp only [Exit.inBlock,if_true];exact h
open Classical in
theorem wp_loop_n {c:Code} (I:Nat→Act→World→Prop) (h₀':∃ m,I m a w)
  (round:∀ m a w,I m a w→c.wp P (Exit.then (fun a' w'=>∃ m',m' < m∧I m' a' w') Q) a w):(Code.loop c).wp P Q a w:=by
 obtain ⟨m,h₀⟩:=h₀'
 have least:∀ a w,(∃ m,I m a w)→∃ m,I m a w∧∀ k,I k a w→m≤k:=fun a w ⟨m,hm⟩=>by
  induction m using Nat.strongRecOn with
  | _ m ih =>
   by_cases h:∃ k,k < m∧I k a w
   ·obtain ⟨k,hk,hi⟩:=h;exact ih k hk hi
   ·exact ⟨m,hm,fun k hk=>Nat.le_of_not_lt fun hl=>h ⟨k,hl,hk⟩⟩
 refine wp_loop (fun a w=>∃ m,I m a w) (fun a w=>if h:∃ m,I m a w then Classical.choose (least a w h) else 0) ⟨m,h₀⟩ fun a w h=>?_
 obtain ⟨h1,h2⟩:=Classical.choose_spec (least a w h)
 refine wp_mono (round _ a w h1) fun e a' w' q=>?_
 cases e with
 | normal =>
  obtain ⟨m',hlt,hm'⟩:=q
  refine ⟨⟨m',hm'⟩,?_⟩
  simp only [dif_pos (show ∃ m,I m a w from h),dif_pos (show ∃ m,I m a' w' from ⟨m',hm'⟩)]
  exact Nat.lt_of_le_of_lt ((Classical.choose_spec (least a' w' ⟨m',hm'⟩)).2 m' hm') hlt
 | _=>exact q
theorem rt_1 {fn:Func} {R:Ending→World→Prop} {t:Tmp} (T:Tm a n E) (hr:fn.results = #[.tmp t]) (hv:a.eval (.tmp t)=v) (h:R (.returned v) w):bodyPost P fn R .ret a w :=
 ⟨T.defers,v,by rw [results_tmp hr];exact congrArg (Result.ok · w) hv,h⟩
theorem rt_2 {fn:Func} {R:Ending→World→Prop} {t t':Tmp} {v':Value} (T:Tm a n E) (hr:fn.results = #[.tmp t,.tmp t']) (hv:a.eval (.tmp t)=v) (hv':a.eval (.tmp t')=v') (h:R (.returned (.tuple #[v,v'])) w):bodyPost P fn R .ret a w :=
 ⟨T.defers,_,by rw [results_tmp2 hr,show a.tmps.getD t undef=v from hv,show a.tmps.getD t' undef=v' from hv'],h⟩
theorem rt_3 {fn:Func} {R:Ending→World→Prop} {t t' t'':Tmp} {v' v'':Value} (T:Tm a n E) (hr:fn.results = #[.tmp t,.tmp t',.tmp t'']) (hv:a.eval (.tmp t)=v) (hv':a.eval (.tmp t')=v') (hv'':a.eval (.tmp t'')=v'') (h:R (.returned (.tuple #[v,v',v''])) w):bodyPost P fn R .ret a w :=
 ⟨T.defers,_,by
  have e:a.tmps.getD t undef=v:=hv
  have e':a.tmps.getD t' undef=v':=hv'
  have e'':a.tmps.getD t'' undef=v'':=hv''
  unfold results
  simp only [hr]
  simp [Sem.run_bind,← e,← e',← e''],h⟩
theorem rt_c {fn:Func} {R:Ending→World→Prop} {t:Tmp} {ty:TypeId} {m g:Nat} [hT:RowTy P ty m] {cs:List Value} (M:Mem w0 ex w L) (T:Tm a n E) (hr:fn.results = #[.cell t ty])
  (hx:a.eval (.tmp t)=.pointer (some ⟨g,0,none⟩)) (hm:(g,BA.cells cs)∈L) (hn:cs.length=m) (h:R (.returned (.agg cs.toArray)) w):bodyPost P fn R .ret a w :=
 ret_M M hr T.defers hx hm hn h
end
theorem Z.{u} {α:Sort u} {a:α}:a=a:=rfl
section
variable {P:Program} {ops:Array Oper} {Q:Exit→Act→World→Prop} {S:Array Bool→World→Prop} {rest:List Oper} {op:Oper} {a:Act} {w w0:World} {ex:Nat→Prop} {L:List (Nat×BA)}
theorem Zm1 {ty:TypeId} [OneTy P ty] {x:Operand} {g o:Nat} {cs:List Value} {v:Value} (M:Mem w0 ex w L) (hw:Region.wanted op (yielded ops a.tmps)=true) (ho:op.op=.load ty x) (hx:a.eval x=.pointer (some ⟨g,o,none⟩)) (h:wpList P ops Q rest (a.put op.dst v) w)
  (hm:(g,BA.cells cs)∈L:=by (repeat' (first | exact List.mem_cons_self | refine List.mem_cons_of_mem _ ?_))) (hv:cs[o]? = some v:=by rfl):wpList P ops Q (op::rest) a w:=m_ld1 M hw ho hx hm hv h
theorem Zm2 {ty:TypeId} {n:Nat} [RowTy P ty n] {x:Operand} {g o:Nat} {cs ds:List Value} (M:Mem w0 ex w L) (hw:Region.wanted op (yielded ops a.tmps)=true) (ho:op.op=.load ty x) (hx:a.eval x=.pointer (some ⟨g,o,none⟩)) (h:wpList P ops Q rest (a.put op.dst (.agg ds.toArray)) w)
  (hm:(g,BA.cells cs)∈L:=by (repeat' (first | exact List.mem_cons_self | refine List.mem_cons_of_mem _ ?_))) (hd:(cs.drop o).take n=ds:=by (try simp only [List.take_succ_cons,List.take_zero,List.take_nil,List.drop_succ_cons,List.drop_zero,List.drop_nil,List.cons_append,List.nil_append,List.append_nil,List.length_cons,List.length_nil,Nat.reduceAdd,Nat.zero_add,Nat.add_zero]);rfl) (hn:Nat.ble (o+n) cs.length=true:=by rfl):wpList P ops Q (op::rest) a w:=m_ldr M hw ho hx hm hd hn h
theorem Zm3 {ty : TypeId} {x y : Operand} {g o : Nat} {v : Value} {cs ds cs' : List Value} {L' : List (Nat × BA)} (M : Mem w0 ex w L) (hw : Region.wanted op (yielded ops a.tmps) = true) (ho : op.op = .store ty x y) (hx : a.eval x = .pointer (some ⟨g, o, none⟩)) (h : ∀ w', Mem w0 ex w' L' → wpList P ops Q rest (a.put op.dst undef) w')
   (hy:a.eval y=v:=by first | exact (rfl:_=Value.agg _) | exact (rfl:_=Value.int _ _) | exact (rfl:_=Value.bool _) | exact (rfl:_=Value.slice _ _ _) | exact (rfl:_=Value.pointer _) | exact (rfl:_=Value.map _) | exact (rfl:_=Value.func _ _ _) | exact (rfl:_=Value.string _)) (hv:v.cells=ds.toArray:=by rfl)
   (hu:Upd L g (.cells cs) (.cells cs') L':=by (repeat (first | exact Upd.head | apply Upd.tail))) (hc:cs.take o++ds++cs.drop (o+ds.length)=cs':=by (try simp only [List.take_succ_cons,List.take_zero,List.take_nil,List.drop_succ_cons,List.drop_zero,List.drop_nil,List.cons_append,List.nil_append,List.append_nil,List.length_cons,List.length_nil,Nat.reduceAdd,Nat.zero_add,Nat.add_zero]);rfl)
   (hs:o+ds.length≤cs.length:=by simp) (h1:ds.all (·.oneCell')=true:=by simp [Value.oneCell']) (hi:(P.info? ty).map (·.size)=some ds.length:=by kernel_rfl):wpList P ops Q (op::rest) a w:=m_st M hw ho hx hy hv hu hc hs h1 hi h
theorem Zm4 {ty:TypeId} {x:Operand} {v:Value} {l:List Value} (M:Mem w0 ex w L) (hw:Region.wanted op (yielded ops a.tmps)=true) (ho:op.op=.box ty x) (h:∀ g w',Mem w0 ex w' ((g,.cells l)::L)→wpList P ops Q rest (a.put op.dst (.pointer (some ⟨g,0,none⟩))) w')
  (hx:a.eval x=v:=by first | exact (rfl:_=Value.agg _) | exact (rfl:_=Value.int _ _) | exact (rfl:_=Value.bool _) | exact (rfl:_=Value.slice _ _ _) | exact (rfl:_=Value.pointer _) | exact (rfl:_=Value.map _) | exact (rfl:_=Value.func _ _ _) | exact (rfl:_=Value.string _)) (hv:v.cells=l.toArray:=by rfl):wpList P ops Q (op::rest) a w:=m_bx M hw ho hx hv h
theorem ZT (i:Nat) {oi:Oper} {v:Value} {fuel:Nat} {listed:Array Bool} (hi:ops[i]? = some oi) (h:wpG P ops Q S fuel (listed.setIfInBounds i true) (a.put oi.dst v) w)
  (hs:(Region.noSelect ops && Region.free .any ops listed i && (Region.ready .any ops listed).contains i)=true:=by kernel_rfl) (hw:Region.wanted oi (yielded ops a.tmps)=true:=by rfl)
  (hy:∀ w',(∃ L,DC ops L∧L.getD i true=false∧S L w')→(execOp a.eval oi).run P w'=.ok (.value v) w':=by intro w' hy;obtain ⟨L,hD,hl,hS⟩:=hy;clear hD hl hS;go_simp;(try with_reducible rfl))
  (hSi:∀ L w,S (L.setIfInBounds i true) w↔S L w:=by first | exact fun _ _=>Iff.rfl | (intro L w;simp (decide:=true) only [getD_set_ne])) (hQ:∀ c a w,Q (.panic c) (a.put oi.dst v) w→Q (.panic c) a w:=by exact fun _ _ _ h=>h):wpG P ops Q S (fuel+1) listed a w:=wpG_take hi hs hSi hQ (.inl ⟨hw,hy⟩) h
end
section
variable {df:List Deferred} {P:Program} {ops:Array Oper} {rest:List Oper} {op:Oper} {a:Act} {Q:Exit→Act→World→Prop} {w0 w:World} {ex:Nat→Prop} {L:List (Nat×BA)} {K:Act→World→Prop} {n t:Nat} {E:List (Nat×Value)} {v:Value} {S:Array Bool→World→Prop} {fuel:Nat} {oi:Oper}
theorem Zrg (off:Nat) {s:TypeId} {x:Operand} {f g o:Nat} (ho:op.op=.fieldAddr s x f) (hx:a.eval x=.pointer (some ⟨g,o,none⟩))
  (hr:∀ (g o:Nat) (w:World),(Instr.fieldAt s (.pointer (some ⟨g,o,none⟩)) f).run P w=.ok (.pointer (some ⟨g,o+off,none⟩)) w:=by exact fun _ _ _=>by kernel_rfl):Runs P op a (.pointer (some ⟨g,o+off,none⟩)) w:=Zrf ho hx hr
theorem Zot {ty : TypeId} {x y : Operand} {g o : Nat} {cs ds cs' : List Value} {L' : List (Nat × BA)} (M : Mem w0 ex w L) (T : TmD df a n E) (ho : op.op = .store ty x y) (hd : op.dst = none) (hx : a.eval x = .pointer (some ⟨g, o, none⟩)) (hy : a.eval y = v) (hv : v.cells = ds.toArray)
   (hu:Upd L g (.cells cs) (.cells cs') L') (hc:storeO cs o ds=some cs') (h1:ds.all (·.oneCell')=true)
   (h:∀ w' a',Mem w0 ex w' L'→TmD df a' n E→K a' w') (hne:ds≠[]:=by simp) (hi:(P.info? ty).map (·.size)=some ds.length:=by kernel_rfl):op.wp P a w K Q:=Zos M T ho hd hx hy hv hu hc hne h1 hi h
theorem Zod {x:Operand} {xs:List Operand} {ts:Array TypeId} {f:FuncId} {vs:List Value} {fn:Func} (T:TmD df a n E) (ho:op.op=.call { callee:=.value x,args:=xs.toArray,argTypes:=ts }) (hd:op.dst=some t) (hf:freshE E t=true) (hn:Nat.blt t n=true)
  (hx : a.eval x = .func (.func f) ([] : List Value).toArray ([] : List Value).toArray) (hv : EvL a xs vs) (hfn : P.funcs[f]? = some fn) (hnm : (fn.name == "runtime.NumGoroutine") = false) (hb : fn.body.isNone = false)
  (h:Calls P f ([]++vs++[]).toArray w (RetK fun v w'=>∀ a',TmD df a' n ((t,v)::E)→K a' w')):op.wp P a w K Q:=Zoc (first:=[]) (cap:=[]) T ho hd hf hn hx hv hfn hnm hb h
theorem Zgq (T:TmD df a n E) (i b':Nat) {m b:Nat} (hi:ops[i]? = some oi) (hr:∀ w',Runs P oi a v w') (h:∀ a',TmD df a' n ((t,v)::E)→wpG P ops Q S fuel (Zpb m b') a' w)
  (hs:(Region.noSelect ops && Region.free .any ops (Zpb m b) i && (Region.ready .any ops (Zpb m b)).contains i)=true:=by kernel_rfl) (hl:(Zpb m b).setIfInBounds i true=Zpb m b':=by kernel_rfl)
  (hSi:∀ L w,S (L.setIfInBounds i true) w↔S L w:=by repeat' (first | exact si_U | exact si_G rfl | refine si_and ?_ ?_)) (hQ:∀ c a w,Q (.panic c) (a.put oi.dst v) w→Q (.panic c) a w:=by exact fun _ _ _ h=>h)
  (hw:Region.wanted oi (yielded ops a.tmps)=true:=by rfl) (hd:oi.dst=some t:=by rfl) (hf:freshE E t=true:=by rfl) (hn:Nat.blt t n=true:=by rfl):wpG P ops Q S (fuel+1) (Zpb m b) a w :=
 gq T i b' hi (fun _ w' _ _ _=>hr w') h hs hl hSi hQ hw hd hf hn
end
abbrev Zi (x:Int):Value:=.int .i64 x
abbrev Zb0:List Value:=[Zi 0,Zi 0,Zi 0,Zi 0,Zi 0,.slice none 0 0,.slice none 0 0,Zi 0,Zi 0,Zi 0,Zi 0,Zi 0,Zi 0,Zi 0,Zi 0,Zi 0,Zi 0,Zi 0,Zi 0,Zi 0,Zi 0]
abbrev Zs0:List Value:=[Zi 0,Zi 0,Zi 0,Zi 0,Zi 0,Zi 0,Zi 0,Zi 0,Zi 0,Zi 0,Zi 0,Zi 0,Zi 0,Zi 0,Zi 0,.slice none 0 0,Zi 0,Zi 0]
abbrev Zj (g:Nat):Value:=.pointer (some ⟨g,0,none⟩)
section
variable {df:List Deferred} {P:Program} {ops:Array Oper} {rest:List Oper} {a:Act} {Q Q2:Exit→Act→World→Prop} {w:World} {K:Act→World→Prop} {n t:Nat} {E:List (Nat×Value)} {v:Value} {x y:Code}
theorem TmD.e (T:TmD df a n E) (i:Nat) {t:Nat} {v:Value} (h:nthE E i=some (t,v)):a.eval (.tmp t)=v:=T.ev i h
theorem Zsr {id:Nat} {l:List Oper} (h:wpList P l.toArray (Exit.then (y.wp P Q) Q) l a w):(Code.seq (Code.region id l.toArray false) y).wp P Q a w:=wp_seq (wp_region_lit h)
theorem Zln (h:K a w):wpList P ops (Exit.then K Q) [] a w:=wpList_nil (nm_then h)
theorem Znr (h:Q2 .ret a w):Exit.then (Code.wp P .ret Q2) Q .normal a w:=nm_then (wp_ret h)
theorem Zns (h:x.wp P (Exit.then (y.wp P Q2) Q2) a w):Exit.then (Code.wp P (.seq x y) Q2) Q .normal a w:=nm_then (wp_seq h)
theorem Zsk (h:K a w):Code.wp P .skip (Exit.then K Q) a w:=wp_skip (nm_then h)
theorem Zdf {p:Prop} [h9:Decidable p] (h : ¬p):decide p=false:=decide_eq_false h
theorem Zdt {p:Prop} [h9:Decidable p] (h:p):decide p=true:=decide_eq_true h
theorem Zsl {α:Type} (a b:List α):a.Sublist (a++b):=List.sublist_append_left a b
theorem Zsq {α:Type} (a b:List α):b.Sublist (a++b):=List.sublist_append_right a b
theorem Zb1 {a b:Bool}:((a && b)=true)=(a=true∧b=true):=Bool.and_eq_true a b
theorem Zb2 {a b:Bool}:((a || b)=true)=(a=true∨b=true):=Bool.or_eq_true a b
theorem Zb3 {b:Bool}:((!b)=true)=(b=false):=Bool.not_eq_true' b
theorem Zb4 {a b:Bool}:((a && b)=false)↔(a=true→b=false):=Bool.and_eq_false_imp
theorem Zb5 {a b:Bool}:((a || b)=false)↔(a=false∧b=false):=Bool.or_eq_false_iff
theorem Zb6 {p:Prop} [Decidable p]:(decide p=true)=p:=decide_eq_true_eq
theorem Zb7 {p:Prop} [Decidable p]:(decide p=false)↔¬ p:=decide_eq_false_iff_not
theorem Zz1 {α:Type _} {a b:α} {l:List α} (h:a∈l):a∈b::l:=List.mem_cons_of_mem b h
theorem Zz2 {α:Type _} {a:α} {l:List α}:a∈a::l:=List.mem_cons_self
theorem Zz3 {α:Type _} {xs:List α} {i:Nat} (h:i < xs.toArray.size):xs.toArray[i]'h=xs[i]'(by simpa using h):=List.getElem_toArray h
theorem Zz4 {α:Type _} (a:α) (r:List α) (i:Nat) (h:i+1 < (a::r).length):(a::r)[i+1]'h=r[i]'(Nat.lt_of_succ_lt_succ h):=rfl
theorem Zz5 {α:Type _} (a:α) (r:List α) (h:0 < (a::r).length):(a::r)[0]'h=a:=rfl
theorem Zz6 {α:Type _} (l:List α) (i:Nat) (a:α):l.toArray.setIfInBounds i a=(l.set i a).toArray:=List.setIfInBounds_toArray ..
theorem Zz7 {α:Type _} {a b:α} {l:List α}:(a::l).set 0 b=b::l:=rfl
theorem Zz8 {α:Type _} {a b:α} {l:List α} {i:Nat}:(a::l).set (i+1) b=a::l.set i b:=rfl
theorem Zz9 {α:Type _} (l:List α):[].Sublist l:=List.nil_sublist l
theorem Zx1 {α:Type _} {a:α} {l:List α}:(a::l).length=l.length+1:=rfl
theorem Zx2 {α:Type _}:([]:List α).length=0:=rfl
theorem Zx3 {α:Type _} {l bs:List α}:(l++bs).length=l.length+bs.length:=List.length_append
theorem Zx4 {α:Type _} (l:List α):l++[]=l:=List.append_nil l
theorem Zx5 {α:Type _} (l:List α):[]++l=l:=rfl
theorem Zx6 {α:Type _} {a:α} {l bs:List α}:a::l++bs=a::(l++bs):=rfl
theorem Zx7 {α:Type _} {a b:α} {l:List α}:a∈b::l↔a=b∨a∈l:=List.mem_cons
theorem Zx8 {α:Type _} {a:α} : ¬a∈([]:List α):=List.not_mem_nil
theorem Zx9 (b:Bool):b=true∨b=false:=Bool.eq_false_or_eq_true b
theorem Zx0 (n:Nat):n+0=n:=rfl
theorem Zxa (n:Nat):0+n=n:=Nat.zero_add n
theorem Zy1 {α:Type _} {a:α} {l:List α} {i:Nat}:(a::l).drop (i+1)=l.drop i:=List.drop_succ_cons
theorem Zy2 {α:Type _} {a:α} {l:List α} {i:Nat}:(a::l).take (i+1)=a::l.take i:=List.take_succ_cons
def ZSt (P:Program) (ops:Array Oper) (o:Oper) (a:Act) (w:World) (v:Value):Prop:=(Region.wanted o (yielded ops a.tmps)=true∧Runs P o a v w)∨(Region.wanted o (yielded ops a.tmps)=false∧v=undef)
theorem Zq {o:Oper} (r:Runs P o a v w) (hw:Region.wanted o (yielded ops a.tmps)=true:=by rfl):ZSt P ops o a w v:=.inl ⟨hw,r⟩
theorem Zw {o:Oper} (hw:Region.wanted o (yielded ops a.tmps)=true) (r:Runs P o a v w):ZSt P ops o a w v:=.inl ⟨hw,r⟩
theorem Zp {o:Oper} (hw:Region.wanted o (yielded ops a.tmps)=false):ZSt P ops o a w undef:=.inr ⟨hw,rfl⟩
theorem Zg1 {o:Oper} (T:TmD df a n E) (s:ZSt P ops o a w v) (d:o.dst=some t) (h:∀ a',TmD df a' n ((t,v)::E)→wpList P ops Q rest a' w) (f:freshE E t=true:=by rfl) (m:Nat.blt t n=true:=by rfl):wpList P ops Q (o::rest) a w:=by
 rcases s with ⟨hw,r⟩ | ⟨hw,rfl⟩
 · exact lq T r h hw d f m
 · exact lp T hw h d f m
theorem Zl2 {o:Oper} (h:o.wp P a w (fun a w=>wpList P ops Q rest a w) Q) (hw:Region.wanted o (yielded ops a.tmps)=true:=by rfl):wpList P ops Q (o::rest) a w:=wpList_wanted hw fun _ hK=>Oper.wp_mono hK h
theorem Zm {o:Oper} (i:Nat) (h:nthE E i=some (t,v)) (ho:o.op=.move (.tmp t)) (hw:∀ a:Act,Region.wanted o (yielded ops a.tmps)=true:=by intro _;rfl):∀ a',TmD df a' n E→ZSt P ops o a' w v:=fun a' T=>Zq (Zrm ho (T.ev i h)) (hw a')
theorem Za {o:Oper} (i:Nat) (h:nthE E i=some (t,v)) (ho:o.op=.assign (.tmp t)) (hw:∀ a:Act,Region.wanted o (yielded ops a.tmps)=true:=by intro _;rfl):∀ a',TmD df a' n E→ZSt P ops o a' w v:=fun a' T=>Zq (Zra ho (T.ev i h)) (hw a')
theorem Zc {o:Oper} (ho:o.op=.assign (.const v)) (hw:∀ a:Act,Region.wanted o (yielded ops a.tmps)=true:=by intro _;rfl):∀ a',TmD df a' n E→ZSt P ops o a' w v:=fun a' _=>Zq (Zra ho rfl) (hw a')
theorem Zo {o:Oper} {w0:World} {ex:Nat→Prop} {L:List (Nat×BA)} {g k:Nat} {cs:List Value} {ty:TypeId} [OneTy P ty] (M:Mem w0 ex w L) (j i:Nat) (hB:nthE L j=some (g,.cells cs)) (h:nthE E i=some (t,.pointer (some ⟨g,k,none⟩))) (ho:o.op=.load ty (.tmp t)) (hv:cs[k]? = some v) (hw:∀ a:Act,Region.wanted o (yielded ops a.tmps)=true:=by intro _;rfl):∀ a',TmD df a' n E→ZSt P ops o a' w v:=fun a' T=>Zq (Zro (M.nth j hB) ho (T.ev i h) hv) (hw a')
theorem Zr {o:Oper} {w0:World} {ex:Nat→Prop} {L:List (Nat×BA)} {g k m:Nat} {cs ds:List Value} {ty:TypeId} [RowTy P ty (m+1)] (M:Mem w0 ex w L) (j i:Nat) (hB:nthE L j=some (g,.cells cs)) (h:nthE E i=some (t,.pointer (some ⟨g,k,none⟩))) (ho:o.op=.load ty (.tmp t)) (hd:sliceO k (m+1) cs=some ds) (hw:∀ a:Act,Region.wanted o (yielded ops a.tmps)=true:=by intro _;rfl):∀ a',TmD df a' n E→ZSt P ops o a' w (.agg ds.toArray):=fun a' T=>Zq (Zrr (M.nth j hB) ho (T.ev i h) hd) (hw a')
theorem Zf {o:Oper} {s:TypeId} {f g k:Nat} (off i:Nat) (h:nthE E i=some (t,.pointer (some ⟨g,k,none⟩))) (ho:o.op=.fieldAddr s (.tmp t) f) (hr:∀ (g o:Nat) (w:World),(Instr.fieldAt s (.pointer (some ⟨g,o,none⟩)) f).run P w=.ok (.pointer (some ⟨g,o+off,none⟩)) w:=by intro _ _ _;kernel_rfl) (hw:∀ a:Act,Region.wanted o (yielded ops a.tmps)=true:=by intro _;rfl):∀ a',TmD df a' n E→ZSt P ops o a' w (.pointer (some ⟨g,k+off,none⟩)):=fun a' T=>Zq (Zrf ho (T.ev i h) hr) (hw a')
theorem Ze {o:Oper} {i':Nat} {vs:List Value} (i:Nat) (h:nthE E i=some (t,.tuple vs.toArray)) (ho:o.op=.extract (.tmp t) i') (hv:nthE vs i'=some v) (hw:∀ a:Act,Region.wanted o (yielded ops a.tmps)=true:=by intro _;rfl):∀ a',TmD df a' n E→ZSt P ops o a' w v:=fun a' T=>Zq (Zre ho (T.ev i h) hv) (hw a')
theorem Zl {o:Oper} {A:Option Addr} {m c:Nat} {ty e:TypeId} (hu:P.underlying ty=some (.slice e)) (i:Nat) (h:nthE E i=some (t,.slice A m c)) (ho:o.op=.call { callee:=.builtin .len,args:=#[.tmp t],argTypes:=#[ty] }) (hw:∀ a:Act,Region.wanted o (yielded ops a.tmps)=true:=by intro _;rfl):∀ a',TmD df a' n E→ZSt P ops o a' w (.int .i64 (m:Int)):=fun a' T=>Zq (Zrl ho hu (T.ev i h)) (hw a')
theorem Zg2 {o1 o2:Oper} {t1 t2:Nat} {v1 v2:Value} (T:TmD df a n E) (s1:ZSt P ops o1 a w v1) (d1:o1.dst=some t1) (s2:∀ a',TmD df a' n ((t1,v1)::E)→ZSt P ops o2 a' w v2) (d2:o2.dst=some t2) (h:∀ a',TmD df a' n ((t2,v2)::(t1,v1)::E)→wpList P ops Q rest a' w) (f1:freshE (E) t1=true:=by rfl) (m1:Nat.blt t1 n=true:=by rfl) (f2:freshE ((t1,v1)::E) t2=true:=by rfl) (m2:Nat.blt t2 n=true:=by rfl):wpList P ops Q (o1::o2::rest) a w :=
 Zg1 T s1 d1 (fun a1 T1=>Zg1 T1 (s2 a1 T1) d2 h f2 m2) f1 m1
theorem Zg3 {o1 o2 o3:Oper} {t1 t2 t3:Nat} {v1 v2 v3:Value} (T:TmD df a n E) (s1:ZSt P ops o1 a w v1) (d1:o1.dst=some t1) (s2:∀ a',TmD df a' n ((t1,v1)::E)→ZSt P ops o2 a' w v2) (d2:o2.dst=some t2) (s3:∀ a',TmD df a' n ((t2,v2)::(t1,v1)::E)→ZSt P ops o3 a' w v3) (d3:o3.dst=some t3) (h:∀ a',TmD df a' n ((t3,v3)::(t2,v2)::(t1,v1)::E)→wpList P ops Q rest a' w) (f1:freshE (E) t1=true:=by rfl) (m1:Nat.blt t1 n=true:=by rfl) (f2:freshE ((t1,v1)::E) t2=true:=by rfl) (m2:Nat.blt t2 n=true:=by rfl) (f3:freshE ((t2,v2)::(t1,v1)::E) t3=true:=by rfl) (m3:Nat.blt t3 n=true:=by rfl):wpList P ops Q (o1::o2::o3::rest) a w :=
 Zg1 T s1 d1 (fun a1 T1=>Zg2 T1 (s2 a1 T1) d2 s3 d3 h f2 m2 f3 m3) f1 m1
theorem Zg4 {o1 o2 o3 o4:Oper} {t1 t2 t3 t4:Nat} {v1 v2 v3 v4:Value} (T:TmD df a n E) (s1:ZSt P ops o1 a w v1) (d1:o1.dst=some t1) (s2:∀ a',TmD df a' n ((t1,v1)::E)→ZSt P ops o2 a' w v2) (d2:o2.dst=some t2) (s3:∀ a',TmD df a' n ((t2,v2)::(t1,v1)::E)→ZSt P ops o3 a' w v3) (d3:o3.dst=some t3) (s4:∀ a',TmD df a' n ((t3,v3)::(t2,v2)::(t1,v1)::E)→ZSt P ops o4 a' w v4) (d4:o4.dst=some t4) (h:∀ a',TmD df a' n ((t4,v4)::(t3,v3)::(t2,v2)::(t1,v1)::E)→wpList P ops Q rest a' w) (f1:freshE (E) t1=true:=by rfl) (m1:Nat.blt t1 n=true:=by rfl) (f2:freshE ((t1,v1)::E) t2=true:=by rfl) (m2:Nat.blt t2 n=true:=by rfl) (f3:freshE ((t2,v2)::(t1,v1)::E) t3=true:=by rfl) (m3:Nat.blt t3 n=true:=by rfl) (f4:freshE ((t3,v3)::(t2,v2)::(t1,v1)::E) t4=true:=by rfl) (m4:Nat.blt t4 n=true:=by rfl):wpList P ops Q (o1::o2::o3::o4::rest) a w :=
 Zg1 T s1 d1 (fun a1 T1=>Zg3 T1 (s2 a1 T1) d2 s3 d3 s4 d4 h f2 m2 f3 m3 f4 m4) f1 m1
theorem Zg5 {o1 o2 o3 o4 o5:Oper} {t1 t2 t3 t4 t5:Nat} {v1 v2 v3 v4 v5:Value} (T:TmD df a n E) (s1:ZSt P ops o1 a w v1) (d1:o1.dst=some t1) (s2:∀ a',TmD df a' n ((t1,v1)::E)→ZSt P ops o2 a' w v2) (d2:o2.dst=some t2) (s3:∀ a',TmD df a' n ((t2,v2)::(t1,v1)::E)→ZSt P ops o3 a' w v3) (d3:o3.dst=some t3) (s4:∀ a',TmD df a' n ((t3,v3)::(t2,v2)::(t1,v1)::E)→ZSt P ops o4 a' w v4) (d4:o4.dst=some t4) (s5:∀ a',TmD df a' n ((t4,v4)::(t3,v3)::(t2,v2)::(t1,v1)::E)→ZSt P ops o5 a' w v5) (d5:o5.dst=some t5) (h:∀ a',TmD df a' n ((t5,v5)::(t4,v4)::(t3,v3)::(t2,v2)::(t1,v1)::E)→wpList P ops Q rest a' w) (f1:freshE (E) t1=true:=by rfl) (m1:Nat.blt t1 n=true:=by rfl) (f2:freshE ((t1,v1)::E) t2=true:=by rfl) (m2:Nat.blt t2 n=true:=by rfl) (f3:freshE ((t2,v2)::(t1,v1)::E) t3=true:=by rfl) (m3:Nat.blt t3 n=true:=by rfl) (f4:freshE ((t3,v3)::(t2,v2)::(t1,v1)::E) t4=true:=by rfl) (m4:Nat.blt t4 n=true:=by rfl) (f5:freshE ((t4,v4)::(t3,v3)::(t2,v2)::(t1,v1)::E) t5=true:=by rfl) (m5:Nat.blt t5 n=true:=by rfl):wpList P ops Q (o1::o2::o3::o4::o5::rest) a w :=
 Zg1 T s1 d1 (fun a1 T1=>Zg4 T1 (s2 a1 T1) d2 s3 d3 s4 d4 s5 d5 h f2 m2 f3 m3 f4 m4 f5 m5) f1 m1
theorem Zg6 {o1 o2 o3 o4 o5 o6:Oper} {t1 t2 t3 t4 t5 t6:Nat} {v1 v2 v3 v4 v5 v6:Value} (T:TmD df a n E) (s1:ZSt P ops o1 a w v1) (d1:o1.dst=some t1) (s2:∀ a',TmD df a' n ((t1,v1)::E)→ZSt P ops o2 a' w v2) (d2:o2.dst=some t2) (s3:∀ a',TmD df a' n ((t2,v2)::(t1,v1)::E)→ZSt P ops o3 a' w v3) (d3:o3.dst=some t3) (s4:∀ a',TmD df a' n ((t3,v3)::(t2,v2)::(t1,v1)::E)→ZSt P ops o4 a' w v4) (d4:o4.dst=some t4) (s5:∀ a',TmD df a' n ((t4,v4)::(t3,v3)::(t2,v2)::(t1,v1)::E)→ZSt P ops o5 a' w v5) (d5:o5.dst=some t5) (s6:∀ a',TmD df a' n ((t5,v5)::(t4,v4)::(t3,v3)::(t2,v2)::(t1,v1)::E)→ZSt P ops o6 a' w v6) (d6:o6.dst=some t6) (h:∀ a',TmD df a' n ((t6,v6)::(t5,v5)::(t4,v4)::(t3,v3)::(t2,v2)::(t1,v1)::E)→wpList P ops Q rest a' w) (f1:freshE (E) t1=true:=by rfl) (m1:Nat.blt t1 n=true:=by rfl) (f2:freshE ((t1,v1)::E) t2=true:=by rfl) (m2:Nat.blt t2 n=true:=by rfl) (f3:freshE ((t2,v2)::(t1,v1)::E) t3=true:=by rfl) (m3:Nat.blt t3 n=true:=by rfl) (f4:freshE ((t3,v3)::(t2,v2)::(t1,v1)::E) t4=true:=by rfl) (m4:Nat.blt t4 n=true:=by rfl) (f5:freshE ((t4,v4)::(t3,v3)::(t2,v2)::(t1,v1)::E) t5=true:=by rfl) (m5:Nat.blt t5 n=true:=by rfl) (f6:freshE ((t5,v5)::(t4,v4)::(t3,v3)::(t2,v2)::(t1,v1)::E) t6=true:=by rfl) (m6:Nat.blt t6 n=true:=by rfl):wpList P ops Q (o1::o2::o3::o4::o5::o6::rest) a w :=
 Zg1 T s1 d1 (fun a1 T1=>Zg5 T1 (s2 a1 T1) d2 s3 d3 s4 d4 s5 d5 s6 d6 h f2 m2 f3 m3 f4 m4 f5 m5 f6 m6) f1 m1
theorem Zg7 {o1 o2 o3 o4 o5 o6 o7:Oper} {t1 t2 t3 t4 t5 t6 t7:Nat} {v1 v2 v3 v4 v5 v6 v7:Value} (T:TmD df a n E) (s1:ZSt P ops o1 a w v1) (d1:o1.dst=some t1) (s2:∀ a',TmD df a' n ((t1,v1)::E)→ZSt P ops o2 a' w v2) (d2:o2.dst=some t2) (s3:∀ a',TmD df a' n ((t2,v2)::(t1,v1)::E)→ZSt P ops o3 a' w v3) (d3:o3.dst=some t3) (s4:∀ a',TmD df a' n ((t3,v3)::(t2,v2)::(t1,v1)::E)→ZSt P ops o4 a' w v4) (d4:o4.dst=some t4) (s5:∀ a',TmD df a' n ((t4,v4)::(t3,v3)::(t2,v2)::(t1,v1)::E)→ZSt P ops o5 a' w v5) (d5:o5.dst=some t5) (s6:∀ a',TmD df a' n ((t5,v5)::(t4,v4)::(t3,v3)::(t2,v2)::(t1,v1)::E)→ZSt P ops o6 a' w v6) (d6:o6.dst=some t6) (s7:∀ a',TmD df a' n ((t6,v6)::(t5,v5)::(t4,v4)::(t3,v3)::(t2,v2)::(t1,v1)::E)→ZSt P ops o7 a' w v7) (d7:o7.dst=some t7) (h:∀ a',TmD df a' n ((t7,v7)::(t6,v6)::(t5,v5)::(t4,v4)::(t3,v3)::(t2,v2)::(t1,v1)::E)→wpList P ops Q rest a' w) (f1:freshE (E) t1=true:=by rfl) (m1:Nat.blt t1 n=true:=by rfl) (f2:freshE ((t1,v1)::E) t2=true:=by rfl) (m2:Nat.blt t2 n=true:=by rfl) (f3:freshE ((t2,v2)::(t1,v1)::E) t3=true:=by rfl) (m3:Nat.blt t3 n=true:=by rfl) (f4:freshE ((t3,v3)::(t2,v2)::(t1,v1)::E) t4=true:=by rfl) (m4:Nat.blt t4 n=true:=by rfl) (f5:freshE ((t4,v4)::(t3,v3)::(t2,v2)::(t1,v1)::E) t5=true:=by rfl) (m5:Nat.blt t5 n=true:=by rfl) (f6:freshE ((t5,v5)::(t4,v4)::(t3,v3)::(t2,v2)::(t1,v1)::E) t6=true:=by rfl) (m6:Nat.blt t6 n=true:=by rfl) (f7:freshE ((t6,v6)::(t5,v5)::(t4,v4)::(t3,v3)::(t2,v2)::(t1,v1)::E) t7=true:=by rfl) (m7:Nat.blt t7 n=true:=by rfl):wpList P ops Q (o1::o2::o3::o4::o5::o6::o7::rest) a w :=
 Zg1 T s1 d1 (fun a1 T1=>Zg6 T1 (s2 a1 T1) d2 s3 d3 s4 d4 s5 d5 s6 d6 s7 d7 h f2 m2 f3 m3 f4 m4 f5 m5 f6 m6 f7 m7) f1 m1
theorem Zg8 {o1 o2 o3 o4 o5 o6 o7 o8:Oper} {t1 t2 t3 t4 t5 t6 t7 t8:Nat} {v1 v2 v3 v4 v5 v6 v7 v8:Value} (T:TmD df a n E) (s1:ZSt P ops o1 a w v1) (d1:o1.dst=some t1) (s2:∀ a',TmD df a' n ((t1,v1)::E)→ZSt P ops o2 a' w v2) (d2:o2.dst=some t2) (s3:∀ a',TmD df a' n ((t2,v2)::(t1,v1)::E)→ZSt P ops o3 a' w v3) (d3:o3.dst=some t3) (s4:∀ a',TmD df a' n ((t3,v3)::(t2,v2)::(t1,v1)::E)→ZSt P ops o4 a' w v4) (d4:o4.dst=some t4) (s5:∀ a',TmD df a' n ((t4,v4)::(t3,v3)::(t2,v2)::(t1,v1)::E)→ZSt P ops o5 a' w v5) (d5:o5.dst=some t5) (s6:∀ a',TmD df a' n ((t5,v5)::(t4,v4)::(t3,v3)::(t2,v2)::(t1,v1)::E)→ZSt P ops o6 a' w v6) (d6:o6.dst=some t6) (s7:∀ a',TmD df a' n ((t6,v6)::(t5,v5)::(t4,v4)::(t3,v3)::(t2,v2)::(t1,v1)::E)→ZSt P ops o7 a' w v7) (d7:o7.dst=some t7) (s8:∀ a',TmD df a' n ((t7,v7)::(t6,v6)::(t5,v5)::(t4,v4)::(t3,v3)::(t2,v2)::(t1,v1)::E)→ZSt P ops o8 a' w v8) (d8:o8.dst=some t8) (h:∀ a',TmD df a' n ((t8,v8)::(t7,v7)::(t6,v6)::(t5,v5)::(t4,v4)::(t3,v3)::(t2,v2)::(t1,v1)::E)→wpList P ops Q rest a' w) (f1:freshE (E) t1=true:=by rfl) (m1:Nat.blt t1 n=true:=by rfl) (f2:freshE ((t1,v1)::E) t2=true:=by rfl) (m2:Nat.blt t2 n=true:=by rfl) (f3:freshE ((t2,v2)::(t1,v1)::E) t3=true:=by rfl) (m3:Nat.blt t3 n=true:=by rfl) (f4:freshE ((t3,v3)::(t2,v2)::(t1,v1)::E) t4=true:=by rfl) (m4:Nat.blt t4 n=true:=by rfl) (f5:freshE ((t4,v4)::(t3,v3)::(t2,v2)::(t1,v1)::E) t5=true:=by rfl) (m5:Nat.blt t5 n=true:=by rfl) (f6:freshE ((t5,v5)::(t4,v4)::(t3,v3)::(t2,v2)::(t1,v1)::E) t6=true:=by rfl) (m6:Nat.blt t6 n=true:=by rfl) (f7:freshE ((t6,v6)::(t5,v5)::(t4,v4)::(t3,v3)::(t2,v2)::(t1,v1)::E) t7=true:=by rfl) (m7:Nat.blt t7 n=true:=by rfl) (f8:freshE ((t7,v7)::(t6,v6)::(t5,v5)::(t4,v4)::(t3,v3)::(t2,v2)::(t1,v1)::E) t8=true:=by rfl) (m8:Nat.blt t8 n=true:=by rfl):wpList P ops Q (o1::o2::o3::o4::o5::o6::o7::o8::rest) a w :=
 Zg1 T s1 d1 (fun a1 T1=>Zg7 T1 (s2 a1 T1) d2 s3 d3 s4 d4 s5 d5 s6 d6 s7 d7 s8 d8 h f2 m2 f3 m3 f4 m4 f5 m5 f6 m6 f7 m7 f8 m8) f1 m1
end
section
open Go.RowKit Go.Proofs.Ytoheddpnnjldgaa.Bi
structure RunsE (P:Program) (op:Oper) (a:Act) (v:Value):Prop where
 run:∀ w,Runs P op a v w
 ev:∀ w,(execOp a.eval op).events P w #[] = #[]
section
variable {P:Program} {op:Oper} {a:Act} {v:Value}
theorem re_move {x:Operand} (ho:op.op=.move x) (hx:a.eval x=v):RunsE P op a v:=⟨fun _=>Zrm ho hx,fun w=>by unfold execOp;simp only [ho];rfl⟩
theorem re_assign {x:Operand} (ho:op.op=.assign x) (hx:a.eval x=v):RunsE P op a v:=⟨fun _=>Zra ho hx,fun w=>by unfold execOp;simp only [ho];rfl⟩
theorem re_pick1 {c x y:Operand} {b:Bool} (ho:op.op=.pick c x y) (hc:a.eval c=.bool b) (hb:b=true) (hx:a.eval x=v):RunsE P op a v :=
 ⟨fun _=>Zr1 ho hc hb hx,fun w=>by subst hb;unfold execOp;simp [ho,hc,asBool]⟩
theorem re_pick0 {c x y:Operand} {b:Bool} (ho:op.op=.pick c x y) (hc:a.eval c=.bool b) (hb:b=false) (hx:a.eval y=v):RunsE P op a v :=
 ⟨fun _=>Zr0 ho hc hb hx,fun w=>by subst hb;unfold execOp;simp [ho,hc,asBool]⟩
theorem re_bin {o:BinOp} {t t':TypeId} {x y:Operand} {u u':Value} (ho:op.op=.binOp o t x y t') (hx:a.eval x=u) (hy:a.eval y=u') (hr:∀ w,Runs P op a v w) (he:∀ w es,(do eqGuard o t x y u u';binOp o t u u':Sem Value).events P w es=es):RunsE P op a v :=
 ⟨hr,fun w=>by
  unfold execOp
  simp only [ho,hx,hy]
  rw [Sem.events_bind,he]
  cases (do eqGuard o t x y u u';binOp o t u u':Sem Value).run P w <;> rfl⟩
theorem re_add {t t':TypeId} {x y:Operand} {p q:Int} (ho:op.op=.binOp .add t x y t') (hx:a.eval x=Zi p) (hy:a.eval y=Zi q) (hb : -9223372036854775808≤p+q∧p+q≤9223372036854775807):RunsE P op a (Zi (p+q)) :=
 re_bin ho hx hy (fun _=>rn_add ho hx hy hb) fun _ _=>rfl
theorem re_mul {t t':TypeId} {x y:Operand} {p q:Int} (ho:op.op=.binOp .mul t x y t') (hx:a.eval x=Zi p) (hy:a.eval y=Zi q) (hb : -9223372036854775808≤p * q∧p * q≤9223372036854775807):RunsE P op a (Zi (p * q)) :=
 re_bin ho hx hy (fun _=>rn_mul ho hx hy hb) fun _ _=>rfl
theorem re_lss {t t':TypeId} {x y:Operand} {p q:Int} (ho:op.op=.binOp .lss t x y t') (hx:a.eval x=Zi p) (hy:a.eval y=Zi q):RunsE P op a (.bool (decide (p < q))) :=
 re_bin ho hx hy (fun _=>rn_lss ho hx hy) fun _ _=>rfl
theorem re_leq {t t':TypeId} {x y:Operand} {p q:Int} (ho:op.op=.binOp .leq t x y t') (hx:a.eval x=Zi p) (hy:a.eval y=Zi q):RunsE P op a (.bool (decide (p≤q))) :=
 re_bin ho hx hy (fun _=>rn_leq ho hx hy) fun _ _=>rfl
theorem re_not {t:TypeId} {x:Operand} {p:Bool} (ho:op.op=.unOp .not t x) (hx:a.eval x=.bool p):RunsE P op a (.bool (!p)) :=
 ⟨fun _=>rn_not ho hx,fun w=>by unfold execOp;simp only [ho,hx];rfl⟩
theorem re_fieldAddr {s:TypeId} {x:Operand} {f g o off:Nat} (ho:op.op=.fieldAddr s x f) (hx:a.eval x=.pointer (some ⟨g,o,none⟩))
  (hr:∀ (g o:Nat) (w:World),(Instr.fieldAt s (.pointer (some ⟨g,o,none⟩)) f).run P w=.ok (.pointer (some ⟨g,o+off,none⟩)) w) (he:∀ (g o:Nat) (w:World),(Instr.fieldAt s (.pointer (some ⟨g,o,none⟩)) f).events P w #[] = #[]):RunsE P op a (.pointer (some ⟨g,o+off,none⟩)) :=
 ⟨fun _=>Zrf ho hx hr,fun w=>by
  unfold execOp
  simp only [ho,hx]
  rw [Sem.events_bind,he,hr]
  rfl⟩
theorem re_indexAddr {s : TypeId} {x y : Operand} {g o size m c : Nat} {i : Int} {A : Option Addr} (k : Nat) (ho : op.op = .indexAddr s x y) (hx : a.eval x = .slice A m c) (hy : a.eval y = Zi i)
   (hu:∃ e,P.underlying s=some (.slice e)∧(P.info? e).map (·.size)=some size) (hk:i=(k:Int)) (hm:k < m) (hA:A=some ⟨g,o,none⟩):RunsE P op a (.pointer (some ⟨g,o+k * size,none⟩)) :=
 ⟨fun _=>Zri k ho hx hy hu hk hm hA,fun w=>by
   subst hA
   obtain ⟨e,hu,he⟩:=hu
   subst hk
   unfold execOp
   simp only [ho,hx,hy]
   rw [Sem.events_bind]
   have h1:(Instr.indexAt s (.slice (some ⟨g,o,none⟩) m c) (Zi (k:Int))).events P w #[] = #[]:=by
     simp only [Instr.indexAt,asIntOf,Sem.events_bind,Sem.run_pure,Sem.events_pure,Result.evThen_ok,run_underlying hu,events_underlying]
     have hm':(0:Int)≤(k:Int)∧(k:Int) < (m:Int):=⟨by omega,by omega⟩
     simp only [hm',and_self,if_true,Sem.events_bind,events_sizeOf]
     cases (sizeOf e).run P w <;> rfl
   rw [h1]
   cases (Instr.indexAt s (.slice (some ⟨g,o,none⟩) m c) (Zi (k:Int))).run P w <;> rfl⟩
theorem re_indexArr {s e : TypeId} {x y : Operand} {g size len : Nat} {i : Int} (k : Nat) (ho : op.op = .indexAddr s x y) (hx : a.eval x = Zj g) (hy : a.eval y = Zi i)
   (hu:P.underlying s=some (.array len e)) (he:(P.info? e).map (·.size)=some size) (hk:i=(k:Int)) (hm:k < len):RunsE P op a (.pointer (some ⟨g,k * size,none⟩)):=by
 subst hk
 have h1:∀ w es,(Instr.indexAt s (Zj g) (Zi (k:Int))).events P w es=es:=fun w es=>Go.Conc.events_indexAt_array s e len ⟨g,0,none⟩ .i64 (k:Int) hu ⟨by omega,by omega⟩
 have h2:∀ w,(Instr.indexAt s (Zj g) (Zi (k:Int))).run P w=.ok (.pointer (some ⟨g,k * size,none⟩)) w:=by
   intro w
   cases hi:P.info? e with
   | none=>rw [hi] at he;simp at he
   | some inf =>
     rw [hi] at he
     simp at he
     have hm':(k:Int) < (len:Int):=by omega
     simp [Instr.indexAt,asIntOf,Sem.run_bind,run_underlying,hu,sizeOf,typeInfo,hi,he,Addr.add,hm,Instr.sureAddr]
     try exact fun h=>h.symm
 refine ⟨fun w=>?_,fun w=>?_⟩
 · unfold Runs execOp
   simp only [ho,hx,hy]
   rw [Sem.run_bind,h2]
   rfl
 · unfold execOp
   simp only [ho,hx,hy]
   rw [Sem.events_bind,h1,h2]
   rfl
theorem re_extract {x:Operand} {i:Nat} {vs:List Value} (ho:op.op=.extract x i) (hx:a.eval x=.tuple vs.toArray) (hv:nthE vs i=some v):RunsE P op a v :=
 ⟨fun _=>Zre ho hx hv,fun w=>by
  unfold execOp
  simp only [ho,hx]
  have:vs.toArray[i]? = some v:=by rw [List.getElem?_toArray];exact nthE_get hv
  simp [Instr.extract,this]⟩
theorem re_build {ty:TypeId} {parts:List (Nat×Operand)} {vs:List (Nat×Value)} (ho:op.op=.build ty parts.toArray) (hv:EvP a parts vs) (hr:∀ w:World,(Instr.build ty vs.toArray).run P w=.ok v w) (he:∀ w:World,(Instr.build ty vs.toArray).events P w #[] = #[]):RunsE P op a v :=
 ⟨fun _=>rn_build ho hv (fun w=>hr w),fun w=>by
  unfold execOp
  simp only [ho]
  have e:(parts.toArray.map fun x=>(x.1,a.eval x.2))=vs.toArray:=by simp [← hv.map]
  have e2:(parts.toArray.map fun (i,x)=>(i,a.eval x))=vs.toArray:=e
  rw [Sem.events_bind,e2,he,hr]
  rfl⟩
theorem re_lenS {x:Operand} {A:Option Addr} {m c:Nat} {ty e:TypeId} (ho:op.op=.call { callee:=.builtin .len,args:=#[x],argTypes:=#[ty] }) (hu:P.underlying ty=some (.slice e)) (hx:a.eval x=.slice A m c):RunsE P op a (Zi (m:Int)) :=
 ⟨fun _=>Zrl ho hu hx,fun w=>by
  unfold execOp
  simp [ho,resolve,invoke,builtin,hx,Builtin.len_,run_underlying,hu,goInt]⟩
end
abbrev XS:=List (Nat×BA)×(Nat→Prop)
section
variable {P:Program} {main:Bool} {Y:Type} {I:World→Prop} {Rd:Nat→Prop} {wb:World} {ex:Nat→Prop} {fn:FuncId} {St:Y→XS→Goroutine→Prop} {Q:Exit→Y→XS→Act→Prop} {s:Y} {L L':List (Nat×BA)} {W:Nat→Prop} {a:Act}
variable {df:List Deferred} {ops:Array Oper} {i:Nat} {rest:List Nat} {op:Oper} {v:Value} {n t:Nat} {E:List (Nat×Value)}
abbrev oI (P:Program) (main:Bool) {Y:Type} (I:World→Prop) (Rd:Nat→Prop) (wb:World) (ex:Nat→Prop) (fn:FuncId) (St:Y→XS→Goroutine→Prop) (ops:Array Oper) (rest:List Nat) (Q:Exit→Y→XS→Act→Prop) (s:Y) (x:XS) (a:Act):Prop :=
 opsI P main (mSide wb ex).Sit (Gd I (mSide wb ex) Rd) St fn ops rest Q s x a
abbrev wI (P:Program) (main:Bool) {Y:Type} (I:World→Prop) (Rd:Nat→Prop) (wb:World) (ex:Nat→Prop) (fn:FuncId) (St:Y→XS→Goroutine→Prop) (c:Code) (Q:Exit→Y→XS→Act→Prop) (s:Y) (x:XS) (a:Act):Prop :=
 wpI P main (mSide wb ex).Sit (Gd I (mSide wb ex) Rd) St fn c Q s x a
theorem oi_q (T:TmD df a n E) (hi:ops[i]? = some op) (hr:RunsE P op a v) (h:∀ a',TmD df a' n ((t,v)::E)→oI P main I Rd wb ex fn St ops rest Q s (L,W) a')
  (hw:Region.wanted op (yielded ops a.tmps)=true:=by rfl) (hd:op.dst=some t:=by rfl) (hf:freshE E t=true:=by rfl) (hn:Nat.blt t n=true:=by rfl):oI P main I Rd wb ex fn St ops (i::rest) Q s (L,W) a :=
 opsI_pure hi hw (fun w=>⟨hr.run w,hr.ev w⟩) (by rw [hd];exact h _ (T.put hn hf v))
theorem oi_pass (T:TmD df a n E) (hi:ops[i]? = some op) (h:∀ a',TmD df a' n ((t,undef)::E)→oI P main I Rd wb ex fn St ops rest Q s (L,W) a')
  (hw:Region.wanted op (yielded ops a.tmps)=false) (hd:op.dst=some t:=by rfl) (hf:freshE E t=true:=by rfl) (hn:Nat.blt t n=true:=by rfl):oI P main I Rd wb ex fn St ops (i::rest) Q s (L,W) a :=
 opsI_unwanted (side_terms I (mSide wb ex) Rd) hi hw (by rw [hd];exact h _ (T.put hn hf _))
structure ReadsI (P:Program) (Rd:Nat→Prop) (wb:World) (ex:Nat→Prop) (L:List (Nat×BA)) (W:Nat→Prop) (op:Oper) (a:Act) (v:Value):Prop where
 run:∀ w,(mSide wb ex).Sit (L,W) w→Runs P op a v w
 ev:∀ w,(mSide wb ex).Sit (L,W) w→∀ e∈(execOp a.eval op).events P w #[],EvS (mSide wb ex) Rd (L,W) w.heap.size e
theorem oi_r (T:TmD df a n E) (hi:ops[i]? = some op) (hr:ReadsI P Rd wb ex L W op a v) (h:∀ a',TmD df a' n ((t,v)::E)→oI P main I Rd wb ex fn St ops rest Q s (L,W) a')
  (hw:Region.wanted op (yielded ops a.tmps)=true:=by rfl) (hd:op.dst=some t:=by rfl) (hf:freshE E t=true:=by rfl) (hn:Nat.blt t n=true:=by rfl):oI P main I Rd wb ex fn St ops (i::rest) Q s (L,W) a :=
 opsI_read hi hw (fun w hs=>⟨hr.run w hs,hr.ev w hs⟩) (by rw [hd];exact h _ (T.put hn hf v))
theorem evThen_const {α:Type} (r:Result α) (es:Array Event):(r.evThen es fun _ _ es'=>es')=es:=by cases r <;> rfl
theorem events_cell {ty:TypeId} [OneTy P ty] {x:Operand} {p:Addr} {w:World} (hc:w.cell? p=some v) (ho:op.op=.load ty x) (hx:a.eval x=.pointer (some p)):(execOp a.eval op).events P w #[] = #[⟨.cell p,false,false⟩]:=by
 obtain ⟨d,hu,hr⟩:=OneTy.one (P:=P) (t:=ty)
 have ha:(isAgg ty).run P w=.ok false w:=by
  unfold isAgg
  simp only [Sem.run_bind,run_underlying hu,Result.andThen_ok]
  cases d <;> first | rfl | (simp [TypeDesc.isRow] at hr)
 unfold execOp
 simp only [ho,hx,Instr.loadAt,Instr.sureAddr,Sem.events_bind,Sem.run_pure,Sem.events_pure,Result.evThen_ok]
 unfold loadVar
 simp only [Sem.events_bind,ha,Result.evThen_ok,events_isAgg,Bool.false_eq_true,if_false,evThen_const]
 simp [hc]
theorem ev_loadCells (b:Addr):∀ (n i:Nat) (acc:Array Value) (w:World) (es:Array Event),(∀ j,j < n→(w.cell? (b.add (i+j))).isSome) →
  ∀ e∈(loadCellsFrom b i n acc).events P w es,e∈es∨∃ j,e=⟨.cell (b.add j),false,false⟩
 | 0,_,_,_,_,_=>fun ev h=>.inl (by simpa [loadCellsFrom] using h)
 | n+1,i,acc,w,es,hc=>fun ev h=>by
  simp only [loadCellsFrom,Sem.events_bind] at h
  obtain ⟨u,hu⟩:=Option.isSome_iff_exists.1 (hc 0 (by omega))
  simp only [Zx0] at hu
  have hr:(load (b.add i)).run P w=.ok u w:=by simp [hu]
  rw [hr] at h
  rcases ev_loadCells b n (i+1) (acc.push u) w _ (fun j hj=>by have:=hc (j+1) (by omega);rwa [show i+(j+1)=i+1+j by omega] at this) ev h with h | h
  ·rw [events_load,hu] at h
   rcases Array.mem_push.1 h with h | rfl
   ·exact .inl h
   ·exact .inr ⟨i,Z⟩
  ·exact .inr h
theorem events_rowat {ty:TypeId} {m:Nat} [hT:RowTy P ty m] {x:Operand} {g o:Nat} {ds:List Value} {w:World} (hc:w.rangeAt g o ds) (ho:op.op=.load ty x) (hx:a.eval x=.pointer (some ⟨g,o,none⟩)) (hm:ds.length=m) :
  ∀ e∈(execOp a.eval op).events P w #[],∃ ad:Addr,e=⟨.cell ad,false,false⟩∧ad.block=g:=by
 obtain ⟨d,hu,hd⟩:=hT.row
 have hi:=hT.size
 have hagg:(isAgg ty).run P w=.ok true w:=by
  unfold isAgg
  rw [Sem.run_bind,run_underlying hu w]
  cases d <;> simp_all [TypeDesc.isRow]
 intro e he
 unfold execOp at he
 simp only [ho,hx,Instr.loadAt,Instr.sureAddr,Sem.events_bind,Sem.run_pure,Sem.events_pure,Result.evThen_ok] at he
 cases hq:P.info? ty with
 | none=>rw [hq] at hi;simp at hi
 | some inf =>
  rw [hq] at hi
  simp at hi
  have hs:(sizeOf ty).run P w=.ok m w:=by simp [sizeOf,typeInfo,hq,hi]
  have hev:∀ e∈(loadVar ty ⟨g,o,none⟩).events P w #[],∃ ad:Addr,e=⟨.cell ad,false,false⟩∧ad.block=g:=by
   intro e he
   unfold loadVar at he
   simp only [Sem.events_bind,hagg,Result.evThen_ok,events_isAgg,if_true,hs,events_sizeOf,loadCells] at he
   have h2:e∈(loadCellsFrom ⟨g,o,none⟩ 0 m #[]).events P w #[]:=by
    simp only [Sem.events_pure,evThen_const] at he
    exact he
   rcases ev_loadCells ⟨g,o,none⟩ m 0 #[] w #[] (fun j hj=>by
    rw [Zxa,Addr.add_mid]
    rw [hc j ds[j] (List.getElem?_eq_getElem (by omega))]
    rfl) e h2 with h3 | ⟨j,rfl⟩
   ·simp at h3
   ·exact ⟨_,Z,by rw [Addr.add_mid]⟩
  rw [evThen_const] at he
  exact hev e he
theorem evS_own {ad:Addr} {w:World} {p:BA} (hs:(mSide wb ex).Sit (L,W) w) (hm:(ad.block,p)∈L):EvS (mSide wb ex) Rd (L,W) w.heap.size ⟨.cell ad,false,false⟩:=evS_read (.inl (hs.2.2 _ hm)) (BA.lt (hs.1.blk _ hm).2)
theorem ri_cell {ty:TypeId} [OneTy P ty] {x:Operand} {g o:Nat} {cs:List Value} (hm:(g,.cells cs)∈L) (ho:op.op=.load ty x) (hx:a.eval x=.pointer (some ⟨g,o,none⟩)) (hv:nthE cs o=some v):ReadsI P Rd wb ex L W op a v:=by
 have hc:∀ w,(mSide wb ex).Sit (L,W) w→w.cell? ⟨g,o,none⟩=some v:=fun w hs=>by
  have hb:Bk w g cs.toArray:=(hs.1.blk _ hm).2
  rw [hb.cell o]
  simpa using nthE_get hv
 refine ⟨fun w hs=>rn_cell (hc w hs) ho hx,fun w hs e he=>?_⟩
 rw [events_cell (hc w hs) ho hx] at he
 simp at he
 subst he
 exact evS_own (ad:=⟨g,o,none⟩) hs hm
theorem ri_row {ty:TypeId} {m:Nat} [hT:RowTy P ty (m+1)] {x:Operand} {g o:Nat} {cs ds:List Value} (hm:(g,.cells cs)∈L) (ho:op.op=.load ty x) (hx:a.eval x=.pointer (some ⟨g,o,none⟩)) (hd:sliceO o (m+1) cs=some ds):ReadsI P Rd wb ex L W op a (.agg ds.toArray):=by
 obtain ⟨h1,h2⟩:=sliceO_eq hd (by simp)
 have hc:∀ w,(mSide wb ex).Sit (L,W) w→w.rangeAt g o ds:=fun w hs j u hu=>by
  have hb:Bk w g cs.toArray:=(hs.1.blk _ hm).2
  rw [hb.cell]
  subst h1
  rw [List.getElem?_take] at hu
  split at hu
  ·rw [List.getElem?_drop] at hu
   simpa using hu
  ·cases hu
 have hl:ds.length=m+1:=by rw [← h1];simp;omega
 refine ⟨fun w hs=>rn_rowat (hc w hs) ho hx hl,fun w hs e he=>?_⟩
 obtain ⟨ad,rfl,hb⟩:=events_rowat (hc w hs) ho hx hl e he
 subst hb
 exact evS_own hs hm
theorem old_cell {w:World} {p:Addr} {u:Value} (hs:(mSide wb ex).Sit (L,W) w) (hb:p.block < wb.heap.size) (hx : ¬ ex p.block) (hc:wb.cell? p=some u):w.cell? p=some u:=(World.cell?_of_block (w:=wb) (hs.1.block _ hb hx)).trans hc
theorem ri_ocell {ty:TypeId} [OneTy P ty] {x:Operand} {p:Addr} (hR:Rd p.block) (hb:p.block < wb.heap.size) (hxb : ¬ ex p.block) (hc:wb.cell? p=some v) (ho:op.op=.load ty x) (hx:a.eval x=.pointer (some p)):ReadsI P Rd wb ex L W op a v:=by
 refine ⟨fun w hs=>rn_cell (old_cell hs hb hxb hc) ho hx,fun w hs e he=>?_⟩
 rw [events_cell (old_cell hs hb hxb hc) ho hx] at he
 simp at he
 subst he
 exact evS_read (.inr hR) (Nat.lt_of_lt_of_le hb hs.1.size)
theorem ri_orow {ty:TypeId} {m:Nat} [hT:RowTy P ty m] {x:Operand} {g o:Nat} {ds:List Value} (hR:Rd g) (hb:g < wb.heap.size) (hxb : ¬ ex g) (hc:wb.rangeAt g o ds) (ho:op.op=.load ty x) (hx:a.eval x=.pointer (some ⟨g,o,none⟩)) (hm:ds.length=m):ReadsI P Rd wb ex L W op a (.agg ds.toArray):=by
 have hc':∀ w,(mSide wb ex).Sit (L,W) w→w.rangeAt g o ds:=fun w hs j u hu=>old_cell hs hb hxb (hc j u hu)
 refine ⟨fun w hs=>rn_rowat (hc' w hs) ho hx hm,fun w hs e he=>?_⟩
 obtain ⟨ad,rfl,h2⟩:=events_rowat (hc' w hs) ho hx hm e he
 subst h2
 exact evS_read (.inr hR) (Nat.lt_of_lt_of_le hb hs.1.size)
end
end
section
open Go.RowKit Go.Proofs.Ytoheddpnnjldgaa.Bi Go.Proofs.Ytoheddpnnjldgaa.Bq
def inK (L:List (Nat×BA)) (b:Nat):Prop:=b∈L.map (·.1)
def BA.flat:BA→Bool
 | .any _=>false
 | _=>true
theorem un_flat {J:Nat→Option Obj} {w:World} (hJ:JOk J w) {b:Nat} {o:Obj} (h:(un J w.heap)[b]? = some o) (ho:junk o=false):w.heap[b]? = some o:=by
 rw [un_get] at h
 cases hb:w.heap[b]? with
 | none=>rw [hb] at h;cases h
 | some o' =>
  rw [hb] at h
  simp only [Option.map_some,Option.some.injEq] at h
  cases hbad:isBad o' with
  | false=>rw [un1_good hbad] at h;rw [h]
  | true =>
   have:=un1_bad hJ b
   rw [← isBad_eq hbad,h,ho] at this
   cases this
theorem holds_rt {J:Nat→Option Obj} {w:World} {T:Nat→Question→Nat} {c g:Nat} (hJ:JOk J w) {p:BA} (hf:p.flat=true) (h:p.holds (rt J w T c) g):p.holds w g:=by
 cases p with
 | any Q=>cases hf
 | cells l =>
  have h:Bk (rt J w T c) g l.toArray:=h
  exact ⟨by have:=h.lt;simpa [rt,un_size] using this,fun o=>(rt_cell hJ T c _).symm.trans (h.cell o),fun o=>(rt_frozen hJ T c _).symm.trans (h.frozen o)⟩
 | row e size n xs cap =>
  obtain ⟨⟨h1,h2⟩,h3⟩:=h
  refine ⟨⟨h1,?_⟩,h3⟩
  rcases h2 with h2 | ⟨g',c',cur,e1,h5,h6,h7⟩
  ·exact .inl h2
  ·exact .inr ⟨g',c',cur,e1,h5,un_flat hJ h6 Z,h7⟩
section
variable {P:Program} {main:Bool} {Y:Type} {Rd:Nat→Prop} {wb:World} {ex:Nat→Prop} {fn:FuncId} {St:Y→XS→Goroutine→Prop} {Q:Exit→Y→XS→Act→Prop} {s:Y} {L:List (Nat×BA)} {Zq:Type} {L':Zq→List (Nat×BA)} {W:Nat→Prop} {a:Act}
variable {df:List Deferred} {ops:Array Oper} {i:Nat} {rest:List Nat} {op:Oper} {v:Value} {n t:Nat} {E:List (Nat×Value)} {E':Zq→List (Nat×Value)} {J:Nat→Option Obj} {T:Nat→Question→Nat} {m:Nat}
def Lone {Zq:Type} (P:Program) (op:Oper) (a:Act) (df:List Deferred) (n:Nat) (L:List (Nat×BA)) (L':Zq→List (Nat×BA)) (E':Zq→List (Nat×Value)):Prop :=
 ∀ (w:World) (K:Act→World→Prop),Mem w (inK L) w L→(∀ y w' a',Mem w (inK L) w' (L' y)→TmD df a' n (E' y)→K a' w')→op.wp P a w K (fun _ _ _=>False)
def Plain (P:Program) (op:Oper) (a:Act):Prop:=∀ w r w1,(execOp a.eval op).run P w=.ok r w1→(∃ v,r=.value v)∨r=.skip
theorem Lone.run (h:Lone P op a df n L L' E') (hp:Plain P op a) {w:World} (M:Mem w (inK L) w L) :
  ∃ y r w1 v,(execOp a.eval op).run P w=.ok r w1∧(r=.value v∨r=.skip∧v=undef)∧Mem w (inK L) w1 (L' y)∧TmD df (a.put op.dst v) n (E' y):=by
 have h1:=h w (fun a' w'=>∃ y,Mem w (inK L) w' (L' y)∧TmD df a' n (E' y)) M (fun y w' a' M' T'=>⟨y,M',T'⟩)
 unfold Oper.wp at h1
 generalize hr:(execOp a.eval op).run P w=r at h1
 cases r with
 | halt x w'=>cases x <;> exact h1.elim
 | ok r w1 =>
  rcases hp w r w1 hr with ⟨v,rfl⟩ | rfl
  ·obtain ⟨y,M',T'⟩:=h1
   exact ⟨y,_,w1,v,Z,.inl Z,M',T'⟩
  ·obtain ⟨y,M',T'⟩:=h1
   exact ⟨y,_,w1,undef,Z,.inr ⟨rfl,Z⟩,M',T'⟩
theorem Mem.own {w0 w:World} {ex:Nat→Prop} (M:Mem w0 ex w L):Mem w (inK L) w L :=
 ⟨rfl,rfl,rfl,Nat.le_refl _,fun _ _ _=>rfl,fun p hp=>⟨.inr (List.mem_map.2 ⟨p,hp,rfl⟩),(M.blk p hp).2⟩,M.nd⟩
theorem Mem.chain {w0 w w1:World} {ex:Nat→Prop} {L1:List (Nat×BA)} (M:Mem w0 ex w L) (N:Mem w (inK L) w1 L1):Mem w0 ex w1 L1 :=
 ⟨N.os.trans M.os,N.tape.trans M.tape,N.output.trans M.output,Nat.le_trans M.size N.size,fun b hb hx=>(N.block b (Nat.lt_of_lt_of_le hb M.size) fun hk=>by
   obtain ⟨p,hp,e⟩:=List.mem_map.1 hk
   rcases (M.blk p hp).1 with h | h
   ·rw [e] at h;omega
   ·exact hx (e ▸ h)).trans (M.block b hb hx),
  fun p hp=>⟨(N.blk p hp).1.elim (fun h=>.inl (Nat.le_trans M.size h)) fun hk=>by
   obtain ⟨q,hq,e⟩:=List.mem_map.1 hk
   rw [← e]
   exact (M.blk q hq).1,(N.blk p hp).2⟩,N.nd⟩
theorem inv_exec (hP:FuncsOk P) (ho:opOk op.op=true) (hJ:∀ b o,J b=some o→junk o=true∧b < m∧¬ okC o) (hf:∀ p∈L,p.2.flat=true) (h:Lone P op a df n L L' E') (hp:Plain P op a) {W0 W1:World} {r:Next} (M:Mem W0 (inK L) W0 L)
  (hr:(execOp a.eval op).run P W0=.ok r W1) (hI:InvJ J T m W0):InvJ J T m W1:=by
 obtain ⟨w,c,rfl,hH,hn⟩:=hI
 have hJw:JOk J w:=fun b o e=>⟨(hJ b o e).1,Nat.lt_of_lt_of_le (hJ b o e).2.1 hn,(hJ b o e).2.2⟩
 let T':Nat→Question→Nat:=fun k q=>T (c+(k - w.drawn)) q
 let w2:World:={ w with tape:=T' }
 have hJ2:JOk J w2:=hJw
 have e2:rt J w T c=rt J w2 T c:=rfl
 have M2:Mem w2 (inK L) w2 L:=⟨rfl,rfl,rfl,Nat.le_refl _,fun _ _ _=>rfl,fun p hp=>⟨.inr (List.mem_map.2 ⟨p,hp,rfl⟩),holds_rt hJ2 (hf p hp) (e2 ▸ (M.blk p hp).2)⟩,M.nd⟩
 obtain ⟨y,r2,w3,v2,hr2,-,-,-⟩:=h.run hp M2
 have hH2:HeapOk w2:=hH
 obtain ⟨h1,h2,h3⟩:=run_rt (T:=T) (c:=c) (q_exec hP a.eval op ho) hH2 hJ2 hr2
 have h4:=h3 fun j hj q=>by
  show T (c+j) q=T (c+((w.drawn+j) - w.drawn)) q
  rw [Nat.add_sub_cancel_left]
 rw [e2,h4] at hr
 injection hr with hr1 hr9
 subst hr1
 subst hr9
 have h5:=runT_tame (P:=P) (execOp a.eval op) (q_exec hP a.eval op ho) w2 hH2 #[]
 have h6:((execOp a.eval op).runT P w2 #[]).1=.ok r2 w3:=by rw [Sem.runT_fst];exact hr2
 have h7:=h5.size
 have h8:=h5.heap
 rw [h6] at h7 h8
 exact ⟨w3,_,Z,h8,Nat.le_trans hn h7⟩
theorem EvS.up {X:Type} {S:Side X} {x x1:X} {B B1:Nat} {e:Event} (h:EvS S Rd x B e) (hW:∀ b,S.W x b→S.W x1 b) (hB:B≤B1):EvS S Rd x1 B1 e :=
 ⟨fun y hy=>(h.1 y hy).imp (fun h=>inB_mono h hW) id,h.2.1,h.2.2.1,MemAct.low_mono hB h.2.2.2⟩
open Classical in
theorem oi_w [hZ:Nonempty Zq] {I:World→Prop} (hI:∀ (W0 W1:World) (r:Next),Mem W0 (inK L) W0 L→(execOp a.eval op).run P W0=.ok r W1→I W0→I W1) (hi:ops[i]? = some op) (h:Lone P op a df n L L' E') (hp:Plain P op a)
  (hev:∀ w,(mSide wb ex).Sit (L,W) w→∀ e∈(execOp a.eval op).events P w #[],EvS (mSide wb ex) Rd (L,W) w.heap.size e)
  (hn:∀ y (W':Nat→Prop) a',(∀ b,W b→W' b)→TmD df a' n (E' y)→oI P main I Rd wb ex fn St ops rest Q s (L' y,W') a')
  (hw:Region.wanted op (yielded ops a.tmps)=true:=by rfl):oI P main I Rd wb ex fn St ops (i::rest) Q s (L,W) a:=by
 have key:∀ w,(mSide wb ex).Sit (L,W) w→∃ q:Next×Value×World×Zq,(execOp a.eval op).run P w=.ok q.1 q.2.2.1∧(q.1=.value q.2.1∨q.1=.skip∧q.2.1=undef)∧Mem w (inK L) q.2.2.1 (L' q.2.2.2)∧TmD df (a.put op.dst q.2.1) n (E' q.2.2.2):=by
  intro w hs
  obtain ⟨y,r,w1,v,h1,h2,h3,h4⟩:=h.run hp hs.1.own
  exact ⟨(r,v,w1,y),h1,h2,h3,h4⟩
 let q:World→Next×Value×World×Zq:=fun w=>if hs:(mSide wb ex).Sit (L,W) w then Classical.choose (key w hs) else (.skip,undef,w,Classical.choice hZ)
 have hq:∀ w,(mSide wb ex).Sit (L,W) w→(execOp a.eval op).run P w=.ok (q w).1 (q w).2.2.1∧((q w).1=.value (q w).2.1∨(q w).1=.skip∧(q w).2.1=undef)∧Mem w (inK L) (q w).2.2.1 (L' (q w).2.2.2)∧TmD df (a.put op.dst (q w).2.1) n (E' (q w).2.2.2):=by
  intro w hs
  simp only [q,dif_pos hs]
  exact Classical.choose_spec (key w hs)
 let x1:World→XS:=fun w=>(L' (q w).2.2.2,fun b=>W b∨(w.heap.size≤b∧b < (q w).2.2.1.heap.size))
 have hgd:∀ w,(mSide wb ex).Sit (L,W) w→Gd I (mSide wb ex) Rd (L,W) (x1 w) w (q w).2.2.1 (Conc.listed P fn a op w):=by
  intro w hs
  obtain ⟨h1,h2,h3,h4⟩:=hq w hs
  refine ⟨fun h=>hI w _ _ hs.1.own h1 h,⟨hs.1.chain h3,fun b hb=>?_,fun p hp=>?_⟩,⟨(q w).2.2.1.heap,(q w).2.2.1.drawn,?_⟩,h3.size,fun b hb hnb=>h3.block b hb fun hk=>?_,fun b hb=>.inl hb,fun b hb=>?_,fun e he=>?_⟩
  ·exact hb.elim (fun hb=>Nat.lt_of_lt_of_le (hs.2.1 b hb) h3.size) fun hb=>hb.2
  ·rcases (h3.blk p hp).1 with h5 | h5
   ·exact .inr ⟨h5,BA.lt (h3.blk p hp).2⟩
   ·obtain ⟨p',hp',e⟩:=List.mem_map.1 h5
    rw [← e]
    exact .inl (hs.2.2 p' hp')
  ·have e1:=h3.tape;have e2:=h3.os;have e3:=h3.output
   cases hwx:(q w).2.2.1 with
   | mk hp tp dr os ou =>
    rw [hwx] at e1 e2 e3
    dsimp only at e1 e2 e3
    subst e1;subst e2;subst e3
    rfl
  ·obtain ⟨p',hp',e⟩:=List.mem_map.1 hk
   exact hnb (e ▸ hs.2.2 p' hp')
  ·exact hb.elim .inl fun hb=>.inr hb.1
  ·exact EvS.up (S:=mSide wb ex) (x:=(L,W)) (x1:=x1 w) (hev w hs e (Conc.mem_listed he)) (fun b hb=>.inl hb) h3.size
 intro b k cs hb hk hc
 refine .step Z Z x1 (fun w=>Conc.G (b.at (a.put op.dst (q w).2.1) (.inRegion ops rest::k)) cs) (fun w=>(q w).2.2.1) (fun w=>Conc.listed P fn a op w) (fun w hs=>⟨?_,hgd w hs⟩) (fun w hs=>?_)
 ·obtain ⟨h1,h2,-,-⟩:=hq w hs
  rcases h2 with h2 | ⟨h2,h5⟩
  ·rw [h2] at h1
   rw [Conc.stepG_value hi hw hk h1,hb]
  ·rw [h2] at h1
   rw [Conc.stepG_none hi hw hk h1,hb,h5]
 ·obtain ⟨-,-,-,h4⟩:=hq w hs
  exact hn _ _ _ (fun b hb=>.inl hb) h4 b k cs hb hk hc
end
end
section
open Go.RowKit Go.Proofs.Ytoheddpnnjldgaa.Bq
section
variable {P:Program} {J:Nat→Option Obj} {w0 w:World} {ex:Nat→Prop} {L:List (Nat×BA)} {Q:Exit→Act→World→Prop} {a:Act} {T:Nat→Question→Nat} {d d':Nat}
theorem BA.tp {g:Nat} {p:BA} (h:p.holds w g):p.holds (Bq.tp w T d) g:=by
 cases p with
 | cells l =>
  have h:Bk w g l.toArray:=h
  exact ⟨h.lt,h.cell,h.frozen⟩
 | row e size n xs cap=>exact h
 | any Q=>exact h
theorem Mem.tp (M:Mem w0 ex w L) (T:Nat→Question→Nat) (d d':Nat):Mem (Bq.tp w0 T d) ex (Bq.tp w T d') L :=
 ⟨M.os,rfl,M.output,M.size,M.block,fun p hp=>⟨(M.blk p hp).1,BA.tp (M.blk p hp).2⟩,M.nd⟩
theorem Mem.pt (M:Mem (Bq.tp w0 T d) ex w L) (d':Nat):Mem w0 ex (Bq.tp w w0.tape d') L :=
 ⟨M.os,rfl,M.output,M.size,M.block,fun p hp=>⟨(M.blk p hp).1,BA.tp (M.blk p hp).2⟩,M.nd⟩
theorem Sp.tp {I:List (Nat×BA)} {A:Option Addr} {n size b o:Nat} {xs:List Value} (S:Sp w0 ex I A n size b o xs) (T:Nat→Question→Nat) (d:Nat):Sp (Bq.tp w0 T d) ex I A n size b o xs :=
 ⟨S.at0,S.len,fun w' L M hI h=>S.lt (Bq.tp w' w0.tape 0) L (M.pt 0) hI h,fun w' L M hI j u hu=>S.cell (Bq.tp w' w0.tape 0) L (M.pt 0) hI j u hu⟩
theorem Sp.pt {I:List (Nat×BA)} {A:Option Addr} {n size b o:Nat} {xs:List Value} (S:Sp (Bq.tp w0 T d) ex I A n size b o xs):Sp w0 ex I A n size b o xs :=
 ⟨S.at0,S.len,fun w' L M hI h=>S.lt (Bq.tp w' T 0) L (M.tp T d 0) hI h,fun w' L M hI j u hu=>S.cell (Bq.tp w' T 0) L (M.tp T d 0) hI j u hu⟩
theorem afterB_pt {b:Frame} {k:List Item} {cs:List Frame} {Post:Goroutine→World→Prop} {e:Exit} (h:AfterB P J b k cs Post e a (Bq.tp w T d)):AfterB P J b k cs Post e a w:=by
 cases e with
 | normal=>exact comp_pt h
 | exit id=>exact h.imp fun k' h=>⟨h.1,comp_pt h.2⟩
 | goto l=>exact h.imp fun k' h=>⟨h.1,comp_pt h.2⟩
 | ret=>exact fun todo=>comp_pt (h todo)
 | panic c=>exact fun todo=>comp_pt (h todo)
 | outgrown=>exact trivial
def nqR (w0:World) (Q:Exit→Act→World→Prop):Exit→Act→World→Prop:=nq fun e a w=>Q e a (Bq.tp w w0.tape 0)
theorem b_lone (hP:FuncsOk P) (w0:World) {c:Code} (h:∀ T,c.wp P (nqR w0 Q) a (Bq.tp w T 0)):wpB P J c Q a w:=fun b k cs Post hk hA =>
 wpB_lone hP (Q:=fun e a w=>Q e a (Bq.tp w w0.tape 0)) h b k cs Post hk fun e a w q=>afterB_pt (hA e a _ q)
theorem nqR_n (M:Mem (Bq.tp w0 T d) ex w L) (h:∀ w',Mem w0 ex w' L→Q .normal a w'):nqR w0 Q .normal a w:=h _ (M.pt _)
theorem nqR_r (M:Mem (Bq.tp w0 T d) ex w L) (h:∀ w',Mem w0 ex w' L→Q .ret a w'):nqR w0 Q .ret a w:=h _ (M.pt _)
section
variable {b:Frame} {k:List Item} {cs:List Frame} {Post:Goroutine→World→Prop} {ops:Array Oper} {i:Nat} {rest:List Nat} {o:Oper}
theorem comp_part (hP:FuncsOk P) {x y:Code} {K:Act→World→Prop} (hk:b.kind≠.early) (hx:wpB P J x (fun e a w=>e=.normal∧K a w) a w) (h:∀ a w,K a w→Comp P J (gr (b.at a (.code y::k)) cs) w Post):Comp P J (gr (b.at a (.code (.seq x y)::k)) cs) w Post :=
 comp_go hP (fun w=>by simp [stepG,stepG.exec,Frame.at]) (hx b (.code y::k) cs Post hk fun e a w q=>by obtain ⟨rfl,q⟩:=q;exact h a w q)
theorem comp_sq (hP:FuncsOk P) {x y:Code} (h:Comp P J (gr (b.at a (.code x :: .code y::k)) cs) w Post):Comp P J (gr (b.at a (.code (.seq x y)::k)) cs) w Post:=comp_go hP (fun w=>by simp [stepG,stepG.exec,Frame.at]) h
theorem comp_rg (hP:FuncsOk P) {id:Nat} {l:List Nat} (hl:List.range ops.size=l) (h:Comp P J (gr (b.at a (.inRegion ops l::k)) cs) w Post):Comp P J (gr (b.at a (.code (.region id ops false)::k)) cs) w Post:=by
 subst hl
 exact comp_go hP (fun w=>by simp [stepG,stepG.exec,Frame.at]) h
theorem comp_re (hP:FuncsOk P) (h:Comp P J (gr (b.at a k) cs) w Post):Comp P J (gr (b.at a (.inRegion ops []::k)) cs) w Post:=comp_go hP (fun w=>by simp [stepG,stepG.exec,Frame.at]) h
theorem comp_q (hP:FuncsOk P) {v:Value} (ho:ops[i]? = some o) (hw:Region.wanted o (yielded ops a.tmps)=true) (hr:∀ T d,(execOp a.eval o).run P (Bq.tp w T d)=.ok (.value v) (Bq.tp w T d)) (h:Comp P J (gr (b.at (a.put o.dst v) (.inRegion ops rest::k)) cs) w Post) :
  Comp P J (gr (b.at a (.inRegion ops (i::rest)::k)) cs) w Post:=by
 have hfin:(b.at a (.inRegion ops (i::rest)::k)).finish v=b.at (a.put o.dst v) (.inRegion ops rest::k):=by rw [Frame.finish_at,ho];rfl
 refine comp_goT hP (fun T d=>?_) h
 have hg:=stepG_op (P:=P) (b:=b) (k:=k) (cs:=cs) (w:=Bq.tp w T d) (rest:=rest) ho hw
 show (stepG P true { frame:=b.at a (.inRegion ops (i::rest)::k),callers:=cs,status:=.running,dying:=none } (Bq.tp w T d)).bare=_
 rw [hg,← hfin]
 simp [stepG.apply,hr T d]
theorem comp_call (hP:FuncsOk P) {f:FuncId} {args:Array Value} (ho:ops[i]? = some o) (hw:Region.wanted o (yielded ops a.tmps)=true) (hr:∀ T d,(execOp a.eval o).run P (Bq.tp w T d)=.ok (.enter f args) (Bq.tp w T d))
  (h:Comp P J (gr (Frame.enter P f args .normal) (b.at a (.inRegion ops (i::rest)::k)::cs)) w Post):Comp P J (gr (b.at a (.inRegion ops (i::rest)::k)) cs) w Post:=by
 refine comp_goT hP (fun T d=>?_) h
 have hg:=stepG_op (P:=P) (b:=b) (k:=k) (cs:=cs) (w:=Bq.tp w T d) (rest:=rest) ho hw
 show (stepG P true { frame:=b.at a (.inRegion ops (i::rest)::k),callers:=cs,status:=.running,dying:=none } (Bq.tp w T d)).bare=_
 rw [hg]
 simp [stepG.apply,hr T d,Frame.at]
end
theorem run_callV {op:Oper} {x:Operand} {xs:List Operand} {ts:Array TypeId} {f:FuncId} {first cap vs:List Value} {fn:Func} (ho:op.op=.call { callee:=.value x,args:=xs.toArray,argTypes:=ts })
  (hx : a.eval x = .func (.func f) first.toArray cap.toArray) (hv : EvL a xs vs) (hfn : P.funcs[f]? = some fn) (hnm : (fn.name == "runtime.NumGoroutine") = false) (hb : fn.body.isNone = false) (w : World) : (execOp a.eval op).run P w = .ok (.enter f (first ++ vs ++ cap).toArray) w := by
 have hne : fn.name ≠ "runtime.NumGoroutine" := by simpa using hnm
 have hb2:fn.body≠none:=fun h=>by rw [h] at hb;cases hb
 unfold execOp
 simp [ho,resolve,invoke,Deferred.ofValue,hx,hv.map,callFunc,hfn,hb2,hne,Sem.run_bind]
theorem un_inj {w w':World} (hJ:JOk J w) (hH:HeapOk w) (hH':HeapOk w') {b:Nat} (e:(un J w'.heap)[b]? = (un J w.heap)[b]?):w'.heap[b]? = w.heap[b]?:=by
 rw [un_get,un_get] at e
 cases h:w.heap[b]? with
 | none =>
  rw [h] at e
  cases h':w'.heap[b]? with
  | none=>rfl
  | some o'=>rw [h'] at e;cases e
 | some o =>
  rw [h] at e
  cases h':w'.heap[b]? with
  | none=>rw [h'] at e;cases e
  | some o' =>
   rw [h'] at e
   simp only [Option.map_some,Option.some.injEq] at e
   have key:∀ {x y:Obj},isBad x=true→okC y→un1 J b x≠un1 J b y:=by
    intro x y hx hy he
    rw [un1_good (okC_good hy),isBad_eq hx] at he
    have hj:un1 J b bad=(J b).getD bad:=by simp [un1,isBad,bad]
    rw [hj] at he
    cases hJb:J b with
    | none =>
     rw [hJb] at he
     have he:bad=y:=he
     rw [← he] at hy
     exact hy.elim
    | some o2 =>
     rw [hJb] at he
     have he:o2=y:=he
     exact (hJ b o2 hJb).2.2 (by rw [he];exact hy)
   rcases hH b o h with ho | ho
   ·rcases hH' b o' h' with ho' | ho'
    ·rw [un1_good (okC_good ho),un1_good (okC_good ho')] at e;rw [e]
    ·exact absurd e (key (by rw [ho'];rfl) ho)
   ·rcases hH' b o' h' with ho' | ho'
    ·exact absurd e.symm (key (by rw [ho];rfl) ho')
    ·rw [ho,ho']
end
end
section
open Go.RowKit Go.Shelf
section
variable {F:Fence} {nF:Nat} {P:Program} {ops:Array Oper} {rest:List Oper} {op:Oper} {a:Act} {Q:Exit→Act→World→Prop} {w0 w:World} {ex:Nat→Prop} {L:List (Nat×BA)}
end
end
section
variable {df:List Deferred} {P:Program} {ops:Array Oper} {rest:List Oper} {op:Oper} {a:Act} {Q:Exit→Act→World→Prop} {w0 w:World} {ex:Nat→Prop} {L:List (Nat×BA)} {K:Act→World→Prop} {n t:Nat} {E:List (Nat×Value)} {v:Value}
theorem rt_0 {fn:Func} {R:Ending→World→Prop} (T:Tm a n E) (hr:fn.results = #[]) (h:R (.returned (.tuple #[])) w):bodyPost P fn R .ret a w:=⟨T.defers,_,results_none hr _ _ _,h⟩
theorem nm_0 {fn:Func} {R:Ending→World→Prop} (T:Tm a n E) (hr:fn.results = #[]) (h:R (.returned (.tuple #[])) w):bodyPost P fn R .normal a w:=⟨T.defers,_,results_none hr _ _ _,h⟩
end
abbrev FW (l:Nat):Fence:=Fence.wide.inRound l
section
variable {df:List Deferred} {P:Program} {ops:Array Oper} {rest:List Oper} {op:Oper} {a:Act} {Q:Exit→Act→World→Prop} {w0 w:World} {ex:Nat→Prop} {L:List (Nat×BA)} {K:Act→World→Prop} {n t l nn:Nat} {E:List (Nat×Value)} {v:Value}
theorem opIn (hd:∀ c,op.op≠.defer c) (h:op.wp P a w K Q):op.wpIn (FW l) nn P a w K Q:=by
 refine ⟨fun _ _=>trivial,?_⟩
 rw [Oper.semAt_plain (FW l) _ _ hd]
 unfold Oper.wp at h
 cases hr:(execOp a.eval op).run P w with
 | ok nx w' =>
  rw [hr] at h
  cases nx with
  | value v=>exact h
  | skip=>exact h
  | defer d=>exact h
  | enter f args=>exact ⟨fun h9=>by simp [Fence.wide] at h9,CallsIn.inRound l (callsIn_wide.2 h)⟩
  | row r args=>exact ⟨fun h9=>by simp [Fence.wide] at h9,fun c cs _=>let ⟨v,w2,r2,s2⟩:=h c cs;⟨v,w2,r2,stepsIn_wide.2 s2⟩⟩
  | _=>exact h.elim
 | halt hh w' =>
  rw [hr] at h
  cases hh with
  | panic v=>exact h
  | _=>exact h.elim
end
def noDefer (l:List Oper):Bool:=l.all fun o=>match o.op with | .defer _=>false | _=>true
theorem noDefer_at {l:List Oper} (h:noDefer l=true) {o:Oper} (ho:o∈l) (c:Call):o.op≠.defer c:=fun e=>by
 have h2:=List.all_eq_true.1 h o ho
 rw [e] at h2
 cases h2
section
variable {P:Program} {ops:Array Oper} {a:Act} {Q:Exit→Act→World→Prop} {w0 w:World} {ex:Nat→Prop} {L:List (Nat×BA)} {l nn:Nat}
theorem wpListIn_of (hL:∀ a w,Q .outgrown a w→False):∀ (rest:List Oper),noDefer rest=true→∀ (a:Act) (w:World),wpList P ops Q rest a w→wpListIn (FW l) nn P ops Q rest a w
 | [],_,_,_,h=>h
 | o::rest,hd,a,w,h=>wpListIn_step fun K hK=>by
  have hd2:noDefer rest=true:=by
   unfold noDefer at hd ⊢
   rw [List.all_cons,Bool.and_eq_true] at hd
   exact hd.2
  unfold wpList at h
  split
  ·rename_i hw
   rw [if_pos hw] at h
   rcases h with h | ⟨_,a',w',h'⟩
   ·exact opIn (noDefer_at hd Zz2) (Oper.wp_mono (fun a w h=>hK a w (wpListIn_of hL rest hd2 a w h)) h)
   ·exact (hL _ _ h').elim
  ·rename_i hw
   rw [if_neg hw] at h
   exact ⟨fun _ _=>trivial,hK _ _ (wpListIn_of hL rest hd2 _ _ h)⟩
theorem ri_lit {id:Nat} {os:List Oper} (hL:∀ a w,Q .outgrown a w→False) (hd:noDefer os=true) (h:wpList P os.toArray Q os a w):(Code.region id os.toArray false).wpIn (FW l) nn P Q a w :=
 wpIn_region_lit (wpListIn_of hL os hd a w h)
open Classical in
end
section
open Go.RowKit Go.Proofs.Ytoheddpnnjldgaa.Bq
section
variable {P:Program} {J:Nat→Option Obj} {w0 w:World} {ex:Nat→Prop} {L:List (Nat×BA)} {Q:Exit→Act→World→Prop} {a:Act} {T0:Nat→Question→Nat} {d:Nat} {df:List Deferred} {n t:Nat} {E:List (Nat×Value)}
theorem cutB_seq (hP:FuncsOk P) {x y:Code} (I:Act→World→Prop) (h1:wpB P J x (Exit.then I Q) a w) (h2:∀ a w,I a w→wpB P J y Q a w):wpB P J (.seq x y) Q a w :=
 wpB_seq hP (wpB_mono h1 fun e a w q=>by cases e <;> first | exact q | exact h2 _ _ q)
theorem wB_if (hP:FuncsOk P) {c:Operand} {x y:Code} {p:Prop} [Decidable p] (hc:a.eval c=.bool (decide p)) (ht:p→wpB P J x Q a w) (hf : ¬ p→wpB P J y Q a w):wpB P J (.cond c x y) Q a w:=by
 refine wpB_cond hP hc ?_
 by_cases h:p
 · rw [Zdt h,if_pos rfl];exact ht h
 · rw [Zdf h,if_neg (by simp)];exact hf h
theorem wB_ifn (hP:FuncsOk P) {c:Operand} {x y:Code} {p:Prop} [Decidable p] (hc:a.eval c=.bool (!decide p)) (ht : ¬ p→wpB P J x Q a w) (hf:p→wpB P J y Q a w):wpB P J (.cond c x y) Q a w:=by
 refine wpB_cond hP hc ?_
 by_cases h:p
 · rw [Zdt h];exact hf h
 · rw [Zdf h];exact ht h
theorem wB_cond_false (hP:FuncsOk P) {c:Operand} {x y:Code} (hc:a.eval c=.bool false) (h:wpB P J y Q a w):wpB P J (.cond c x y) Q a w:=wpB_cond hP hc h
theorem wB_cond_split (hP:FuncsOk P) {c:Operand} {x y:Code} {b:Bool} (hc:a.eval c=.bool b) (ht:b=true→wpB P J x Q a w) (hf:b=false→wpB P J y Q a w):wpB P J (.cond c x y) Q a w:=by
 refine wpB_cond hP hc ?_
 cases b
 · exact hf Z
 · exact ht Z
theorem wpOps_of_list {ops:Array Oper} {Q:Exit→Act→World→Prop}:∀ (l:List Oper) (k:Nat) (a:Act) (w:World),(∀ j,j < l.length→l[j]? = ops[k+j]?)→wpList P ops Q l a w→wpOps P ops Q (List.range' k l.length) a w
 | [],k,a,w,_,h=>h
 | o::l,k,a,w,hl,h=>by
  have h0:ops[k]? = some o:=by
   have:=hl 0 (by simp)
   simpa using this.symm
  have hrest:∀ a w,wpList P ops Q l a w→wpOps P ops Q (List.range' (k+1) l.length) a w:=fun a w h=>wpOps_of_list l (k+1) a w (fun j hj=>by
   have:=hl (j+1) (by simpa using hj)
   rw [show k+1+j=k+(j+1) by omega,← this]
   simp) h
  rw [Zx1,List.range'_succ,wpOps_cons]
  unfold wpOp
  rw [h0]
  simp only [wpList] at h
  dsimp only
  split
  ·rename_i hw
   rw [if_pos hw] at h
   exact h.imp (Oper.wp_mono hrest) id
  ·rename_i hw
   rw [if_neg hw] at h
   exact hrest _ _ h
def pqR (w0:World) (K:Act→World→Prop) (Q:Exit→Act→World→Prop):Exit→Act→World→Prop:=pq (fun a w=>K a (Bq.tp w w0.tape 0)) fun e a w=>Q e a (Bq.tp w w0.tape 0)
theorem pqR_n {K:Act→World→Prop} (M:Mem (Bq.tp w0 T0 d) ex w L) (h:∀ w',Mem w0 ex w' L→K a w'):pqR w0 K Q .normal a w:=h _ (M.pt _)
theorem ranges (m k:Nat):List.range (m+k)=List.range' 0 m++List.range' m k:=by
 rw [List.range_eq_range',← List.range'_append_1,Zxa]
theorem rB_pre (hP:FuncsOk P) (w0:World) {id:Nat} (l1 l2:List Oper) (h:∀ T,wpList P (l1++l2).toArray (pqR w0 (wpRB P J (l1++l2).toArray Q (List.range' l1.length l2.length)) Q) l1 a (Bq.tp w T 0)):wpB P J (.region id (l1++l2).toArray false) Q a w:=by
 refine rb_region hP ?_
 rw [show (l1++l2).toArray.size=l1.length+l2.length by simp,ranges]
 intro b k cs Post hk hA
 refine comp_lone hP fun T=>?_
 have h1:=wpOps_of_list (P:=P) (ops:=(l1++l2).toArray) l1 0 a (Bq.tp w T 0) (fun j hj=>by simp [List.getElem?_append_left hj]) (h T)
 rcases ops_pre (Q:=fun e a w=>Q e a (Bq.tp w w0.tape 0)) (List.range' l1.length l2.length) (List.range' 0 l1.length) a (Bq.tp w T 0) h1 b k cs with ⟨a',w',hK,hs⟩ | ⟨ch,a',w',todo,hq,hs⟩
 · exact ⟨_,_,w',hs,comp_pt (hK b k cs Post hk hA)⟩
 · exact ⟨_,_,w',hs,afterB_pt (hA _ _ _ hq) todo⟩
theorem rB_more (hP:FuncsOk P) (w0:World) {l0:List Oper} {k m:Nat} (l1:List Oper) (m':Nat) (hm:m=l1.length+m') (hl:∀ j,j < l1.length→l1[j]? = l0.toArray[k+j]?) (h:∀ T,wpList P l0.toArray (pqR w0 (wpRB P J l0.toArray Q (List.range' (k+l1.length) m')) Q) l1 a (Bq.tp w T 0)):wpRB P J l0.toArray Q (List.range' k m) a w:=by
 subst hm
 rw [← List.range'_append_1]
 intro b kk cs Post hk hA
 refine comp_lone hP fun T=>?_
 have h1:=wpOps_of_list (P:=P) (ops:=l0.toArray) l1 k a (Bq.tp w T 0) hl (h T)
 rcases ops_pre (Q:=fun e a w=>Q e a (Bq.tp w w0.tape 0)) (List.range' (k+l1.length) m') (List.range' k l1.length) a (Bq.tp w T 0) h1 b kk cs with ⟨a',w',hK,hs⟩ | ⟨ch,a',w',todo,hq,hs⟩
 · exact ⟨_,_,w',hs,comp_pt (hK b kk cs Post hk hA)⟩
 · exact ⟨_,_,w',hs,afterB_pt (hA _ _ _ hq) todo⟩
theorem rB_preN (hP:FuncsOk P) (w0:World) {id:Nat} {l:List Oper} (n1:Nat) (hn:Nat.ble n1 l.length=true) (h:∀ T,wpList P l.toArray (pqR w0 (wpRB P J l.toArray Q (List.range' n1 (l.length - n1))) Q) (l.take n1) a (Bq.tp w T 0)):wpB P J (.region id l.toArray false) Q a w:=by
 have hn:=Nat.le_of_ble_eq_true hn
 have e:l=l.take n1++l.drop n1:=(List.take_append_drop n1 l).symm
 have h1:(l.take n1).length=n1:=by rw [List.length_take];omega
 have h2:(l.drop n1).length=l.length - n1:=List.length_drop
 have key:=rB_pre (P:=P) (J:=J) (Q:=Q) (a:=a) (w:=w) hP w0 (id:=id) (l.take n1) (l.drop n1)
 rw [← e,h1,h2] at key
 exact key h
theorem rB_moreN (hP:FuncsOk P) (w0:World) {l:List Oper} {k m:Nat} (n1 m':Nat) (hm:m=n1+m') (hk:Nat.ble (k+n1) l.length=true) (h:∀ T,wpList P l.toArray (pqR w0 (wpRB P J l.toArray Q (List.range' (k+n1) m')) Q) ((l.drop k).take n1) a (Bq.tp w T 0)):wpRB P J l.toArray Q (List.range' k m) a w:=by
 have hk:=Nat.le_of_ble_eq_true hk
 have h1:((l.drop k).take n1).length=n1:=by rw [List.length_take,List.length_drop];omega
 refine rB_more hP w0 (l0:=l) ((l.drop k).take n1) m' (by rw [h1];exact hm) (fun j hj=>?_) (by rw [h1];exact h)
 rw [h1] at hj
 rw [List.getElem?_take,if_pos hj,List.getElem?_drop]
 simp
theorem rB_nil (hP:FuncsOk P) {ops:Array Oper} {k:Nat} (h:Q .normal a w):wpRB P J ops Q (List.range' k 0) a w:=rb_nil hP h
theorem rB_call (hP:FuncsOk P) {ops:Array Oper} {k m:Nat} {op:Oper} {x:Operand} {xs:List Operand} {ts:Array TypeId} {f:FuncId} {first cap vs:List Value} {fn:Func} {R:Ending→World→Prop} (T:TmD df a n E) (hi:ops[k]? = some op) (ho:op.op=.call { callee:=.value x,args:=xs.toArray,argTypes:=ts })
  (hd : op.dst = some t) (hf : freshE E t = true) (hn : Nat.blt t n = true) (hx : a.eval x = .func (.func f) first.toArray cap.toArray) (hv : EvL a xs vs) (hfn : P.funcs[f]? = some fn) (hnm : (fn.name == "runtime.NumGoroutine") = false) (hb : fn.body.isNone = false)
  (hc:CallsB P J f (first++vs++cap).toArray w R) (h:∀ e w',R e w'→∃ v,e=.returned v∧∀ a',TmD df a' n ((t,v)::E)→wpRB P J ops Q (List.range' (k+1) m) a' w') (hw:Region.wanted op (yielded ops a.tmps)=true:=by rfl):wpRB P J ops Q (List.range' k (m+1)) a w:=by
 rw [List.range'_succ]
 refine rb_call hP hi hw (fun T' d'=>run_callV ho hx hv hfn hnm hb _) hc fun e w' hR=>?_
 obtain ⟨v,rfl,h1⟩:=h e w' hR
 exact ⟨v,Z,by rw [hd];exact h1 _ (T.put hn hf v)⟩
theorem px_enterB {f:FuncId} {fn:Func} {c:Code} {args:Array Value} {R:Ending→World→Prop} (hP:FuncsOk P) (ex:Nat→Prop) (hf:P.funcs[f]? = some fn) (hb:fn.body=some c) (n:Nat) (hn:fn.ntmps=n) (vs:List Value) (ha:args=vs.toArray) (hle:Nat.ble vs.length n=true)
  {L:List (Nat×BA)} (M:Mem w ex w L) (h:∀ a w',Tm a n (numE 0 vs)→Mem w ex w' L→wpB P J c (bodyPost P fn R) a w'):CallsB P J f args w R:=by
 subst ha
 have hle:=Nat.le_of_ble_eq_true hle
 refine callsB_of_wpB hP hf hb (h _ _ ⟨rfl,?_,fun p hp=>?_⟩ M)
 ·simp [hn];omega
 ·obtain ⟨i,h1,h2⟩:=numE_get vs 0 p hp
  have hi:i < vs.length:=(List.getElem?_eq_some_iff.1 h2).1
  have e:p.1=i:=by omega
  rw [e]
  have h3:(vs.toArray++Array.replicate (fn.ntmps - vs.toArray.size) undef)[i]? = some p.2:=by
   rw [Array.getElem?_append_left (by simpa using hi)]
   simpa using h2
  show (vs.toArray++Array.replicate (fn.ntmps - vs.toArray.size) undef).getD i undef=p.2
  simp only [Array.getD_eq_getD_getElem?,h3,Option.getD_some]
end
end
section
open Go.RowKit Go.Proofs.Ytoheddpnnjldgaa.Bq
def TopB (P:Program) (J:Nat→Option Obj) (f:FuncId) (fn:Func) (args:Array Value) (w:World) (R:Ending→World→Prop):Prop :=
 Comp P J (gr (Frame.enter P f args .normal) []) w (TopEnd P f fn fun v w=>R (.returned v) w)
theorem px_enterT {P:Program} {J:Nat→Option Obj} {w:World} {f:FuncId} {fn:Func} {c:Code} {args:Array Value} {R:Ending→World→Prop} (hP:FuncsOk P) (ex:Nat→Prop) (hf:P.funcs[f]? = some fn) (hb:fn.body=some c) (n:Nat) (hn:fn.ntmps=n) (vs:List Value) (ha:args=vs.toArray) (hle:Nat.ble vs.length n=true)
  {L:List (Nat×BA)} (M:Mem w ex w L) (h:∀ a w',Tm a n (numE 0 vs)→Mem w ex w' L→wpB P J c (bodyPost P fn R) a w') (hR:∀ e w',R e w'→∃ v,e=.returned v):TopB P J f fn args w R:=by
 subst ha
 have hle:=Nat.le_of_ble_eq_true hle
 refine comp_top hP hf hb (wpB_mono (h _ _ ⟨rfl,?_,fun p hp=>?_⟩ M) ?_)
 ·simp [hn];omega
 ·obtain ⟨i,h1,h2⟩:=numE_get vs 0 p hp
  have hi:i < vs.length:=(List.getElem?_eq_some_iff.1 h2).1
  have e:p.1=i:=by omega
  rw [e]
  have h3:(vs.toArray++Array.replicate (fn.ntmps - vs.toArray.size) undef)[i]? = some p.2:=by
   rw [Array.getElem?_append_left (by simpa using hi)]
   simpa using h2
  show (vs.toArray++Array.replicate (fn.ntmps - vs.toArray.size) undef).getD i undef=p.2
  simp only [Array.getD_eq_getD_getElem?,h3,Option.getD_some]
 ·intro e a w1 q
  cases e with
  | normal=>exact ⟨q.1,q.2.imp fun v h=>⟨h.1,v,rfl,h.2⟩⟩
  | ret=>exact ⟨q.1,q.2.imp fun v h=>⟨h.1,v,rfl,h.2⟩⟩
  | panic chain=>obtain ⟨v,hv⟩:=hR _ _ q.2;cases hv
  | outgrown=>obtain ⟨v,hv⟩:=hR _ _ q;cases hv
  | exit id=>exact q.elim
  | goto l=>exact q.elim
end
section
open Go.ChangeShapes Go.WideShapes Go.ChangeAt Go.RowKit Go.Conc Go.Proofs.Ytoheddpnnjldgaa.Bq
theorem cInt:Try.prog.cellsOf 3=1:=by kernel_rfl
theorem san_cell (W:World) (x:Addr):(san W).cell? x=W.cell? x:=by
 have h:=rt_cell (sanJ_ok W) W.tape W.drawn x
 rw [san_rt] at h
 exact h.symm
theorem Rd.san {W:World} {B size n:Nat} {A:Option Addr} {xs:List Value} (h:Rd W B size A n xs):Rd (san W) B size A n xs :=
 ⟨h.1,fun hn=>by
  obtain ⟨b,o,e,hb,hc⟩:=h.2 hn
  exact ⟨b,o,e,hb,fun j u hu=>(san_cell W _).trans (hc j u hu)⟩⟩
theorem Rd.sanS {W:World} {size n:Nat} {A:Option Addr} {xs:List Value} (h:Rd W W.heap.size size A n xs):Rd (Bq.san W) (Bq.san W).heap.size size A n xs:=by
 rw [san_size]
 exact h.san
theorem below_rt {W w:World} (d:Nat) (h:Below (san W).heap.size (san W) w):Below W.heap.size W (rt (sanJ W) w W.tape d):=by
 refine ⟨h.os,Z,h.output,?_,fun k hk=>?_⟩
 ·have:=h.size
  rw [san_size] at this
  show _≤(un (sanJ W) w.heap).size
  rw [un_size]
  exact this
 ·show (un (sanJ W) w.heap)[k]? = _
  rw [un_get,h.block k (by rw [san_size];exact hk),← un_get,san_un]
theorem good_of_top (hP:FuncsOk Try.prog) {f:FuncId} {fn:Func} {args:Array Value} {W:World} (hf:Try.prog.funcs[f]? = some fn) (hi:Try.prog.inits.idxOf? f=none) (h0:0 < W.heap.size)
  (h:TopB Try.prog (sanJ W) f fn args (san W) fun e w'=>e=.returned (.bool true)∧Below (san W).heap.size (san W) w') :
  ∃ M last o w' t',runNT Try.prog (M+1) (solo (G (Frame.enter Try.prog f args .normal) []) W) #[]=(.ended o w',t')∧runN Try.prog M (solo (G (Frame.enter Try.prog f args .normal) []) W)=.next last ∧
   step Try.prog last=.ended o w'∧Conc.Good Try.prog (fun v W'=>v=.bool true∧Below W.heap.size W W') last o w' t':=by
 obtain ⟨M,last,o,w',t',h1,h2,h3,h4⟩:=good_of_comp hf hi h0 ⟨FrOk.enter hP f args .normal,fun fr h=>by cases h⟩ h
 refine ⟨M,last,o,w',t',h1,h2,h3,h4.mono fun v hv=>?_⟩
 obtain ⟨w,d,⟨he,hb⟩,rfl,-⟩:=hv
 injection he with he
 exact ⟨he,below_rt d hb⟩
section
variable {H:Type} {enc:TypeId×Value→H}
theorem returnsB {a:Assume} {os:Os} {f:FuncId} {fn:Func} {s:ChangeSpec} {conds:List PathCond} {apart fresh handsOn again:Bool} {C:Checked}
  (own:ownKnob C.prog.godebug=none) (started:os.Started) (hfn:C.prog.funcs[f]? = some fn) (hsz:C.prog.globals.size < (begin C.prog (fun _ _=>0) default).world.heap.size)
  (witness:∃ (w:World) (tape:Tape) (i:Input),w.os=os∧(w.forCall tape i).Shaped C.prog∧i.vars=[]∧Input.okWide C.prog (w.forCall tape i) .any w.heap.size f i ∧
   s.pre6 enc C.prog fn conds apart (w.forCall tape i).memory i.args∧a.holds C.prog (lone (Frame.enter C.prog f i.args .normal) [] (w.forCall tape i)))
  (runs:∀ (W:World) (base:Nat) (args:Array Value) (ds gs:List (DataW H)) (before:List MemPlace),
   (∀ (j:Nat) t v,fn.params[j]? = some t→args[j]? = some v→Value.okWide C.prog W .any base t v) →
   DataW.Whole enc C.prog fn.params.toList s.vars apart W args.toList ds gs before→0 < W.heap.size →
   ∃ M last o w' t',runNT C.prog (M+1) (solo (G (Frame.enter C.prog f args .normal) []) W) #[]=(.ended o w',t')∧runN C.prog M (solo (G (Frame.enter C.prog f args .normal) []) W)=.next last ∧
    step C.prog last=.ended o w'∧Conc.Good C.prog (fun v W'=>s.post enc C.prog fn apart fresh handsOn again W args v W') last o w' t') :
  ReturnsInLeavingWide a C os f .any (s.pre6 enc C.prog fn conds apart) (s.post enc C.prog fn apart fresh handsOn again):=by
 refine returnsInLeavingWide_of_good own started witness ?_
 intro w tape i _ hsh _ hok hpre hholds
 obtain ⟨_,_,_,fn',hfn',_,_,_,_,hval⟩:=hok
 have e:fn'=fn:=Option.some.inj (hfn'.symm.trans hfn)
 subst e
 obtain ⟨⟨ds,gs,before,hw,hc⟩,hz⟩:=hpre
 have hw':=DataW.Whole.of_heap (w':=w.forCall tape i) (by rfl) hw
 have h0:0 < (w.forCall tape i).heap.size:=by
  obtain ⟨o,-,ho,-⟩:=hsh.2 C.prog.globals.size (Nat.le_refl _) hsz
  exact Nat.lt_of_le_of_lt (Nat.zero_le _) (Array.getElem?_eq_some_iff.1 ho).1
 obtain ⟨M,last,o,w',t',h1,h2,h3,h4⟩:=runs (w.forCall tape i) w.heap.size i.args ds gs before hval hw' h0
 exact ⟨M,last,o,w',t',h1,h2,h3,h4.mono fun v hp=>ChangeSpec.post_blind hp⟩
end
end
end Go.Proofs.Ytoheddpnnjldgaa


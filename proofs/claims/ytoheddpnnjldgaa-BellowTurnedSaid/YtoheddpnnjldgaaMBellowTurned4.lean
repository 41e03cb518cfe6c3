/-
  Walks of functions,and plain laws (texts put together). No condition.
-/
import Derived.Test.YtoheddpnnjldgaaMBellowTurned1
import Derived.Test.YtoheddpnnjldgaaMBellowTurned2
import Derived.Test.YtoheddpnnjldgaaMBellowTurned3
set_option maxRecDepth 100000
set_option maxHeartbeats 1000000
set_option linter.unusedSimpArgs false
set_option linter.unusedVariables false
set_option linter.unusedSectionVars false
namespace Go.Proofs.Ytoheddpnnjldgaa
open Go.RowKit
section
open Go.RowKit
open Go.Maps (Keyed)
def numQ (ss:List Int) (o:Obj):Prop:=∃ es clock,o=.map es clock∧(∀ e∈es.toList,∃ p∈ss,e.key=Zi p∧e.val=.bool true∧(Lit.int .i64 p).wf=true)∧∀ p∈ss,∃ e∈es.toList,e.key=Zi p
section
variable {P:Program} {k e ty:TypeId} {w:World} {b:Nat} {ss:List Int} {p:Int}
theorem wf_i64 (h : -9223372036854775808≤p∧p≤9223372036854775807):(Lit.int .i64 p).wf=true:=by
 have h1:IntKind.i64.min = -9223372036854775808:=by decide
 have h2:IntKind.i64.max=9223372036854775807:=by decide
 simp only [Lit.wf,h1,h2,Bool.and_eq_true,decide_eq_true_eq]
 exact h
theorem numQ.keys (hk:P.underlying k=some (.int .i64)) {es:Array MapEntry} (h1:∀ e∈es.toList,∃ p∈ss,e.key=Zi p∧e.val=.bool true∧(Lit.int .i64 p).wf=true):∀ e∈es.toList,∃ l,keyOf P k e.key=some l:=fun e he=>by
 obtain ⟨q,-,h2,-,h3⟩:=h1 e he
 rw [h2]
 exact ⟨_,Go.Maps.keyOf_int_mk hk h3⟩
theorem numQ.lookup (hk:P.underlying k=some (.int .i64)) (ht:P.underlying ty=some (.map k e)) (hz:∀ w,(zeroValue e).run P w=.ok (.bool false) w) {o:Obj} (hb:w.heap[b]? = some o) (h:numQ ss o) (hp:(Lit.int .i64 p).wf=true) :
  (Instr.lookup ty (.map (some b)) (Zi p) false).run P w=.ok (.bool (decide (p∈ss))) w:=by
 obtain ⟨es,clock,rfl,h1,h2⟩:=h
 have Kd:=Go.Maps.int_keyed hk
 have hkey:=Go.Maps.keyOf_int_mk hk hp
 have hc:=Kd.check w es.isEmpty hkey
 rcases Kd.find w hkey es.toList (numQ.keys hk h1) with ⟨hf,hn⟩ | ⟨j,e0,hf,hj,h3⟩
 ·have : ¬ p∈ss:=fun h9=>by obtain ⟨x,hx,hx2⟩:=h2 p h9;exact hn x hx hx2
  rw [Zdf this]
  unfold Instr.lookup
  simp [run_underlying ht,MapKept.run_getObj_map hb,hc,hf,hz,Result.andThen]
 ·obtain ⟨q,hq,h4,h5,-⟩:=h1 e0 (List.mem_of_getElem? hj)
  have:q=p:=by rw [h3] at h4;injection h4 with _ h4;exact h4.symm
  subst this
  rw [Zdt hq,← h5]
  unfold Instr.lookup
  simp [run_underlying ht,MapKept.run_getObj_map hb,hc,hf,Result.andThen]
theorem numQ.update (hk:P.underlying k=some (.int .i64)) (ht:P.underlying ty=some (.map k e)) {o:Obj} (hb:w.heap[b]? = some o) (h:numQ ss o) (hp:(Lit.int .i64 p).wf=true) :
  ∃ w' o',(Instr.mapUpdate ty (.map (some b)) (Zi p) (.bool true)).run P w=.ok () w'∧w'.heap[b]? = some o'∧numQ (ss++[p]) o'∧w.grownBy w' (some b):=by
 obtain ⟨es,clock,rfl,h1,h2⟩:=h
 have Kd:=Go.Maps.int_keyed hk
 have hkey:=Go.Maps.keyOf_int_mk hk hp
 have hc:=Kd.check w false hkey
 have fin:∀ es' clock',w.grownBy (ChangeMaps.setBlock w b (.map es' clock')) (some b):=fun es' clock' =>
  ⟨rfl,rfl,rfl,by simp [ChangeMaps.setBlock],fun i _ hi=>ChangeMaps.heap_setBlock_other hb _ (fun e=>hi (by rw [e]))⟩
 rcases Kd.find w hkey es.toList (numQ.keys hk h1) with ⟨hf,hn⟩ | ⟨j,e0,hf,hj,h3⟩
 ·refine ⟨ChangeMaps.setBlock w b (.map (es.push { key:=Zi p,val:=.bool true,born:=clock }) (clock+1)),_,?_,ChangeMaps.heap_setBlock_same hb _,⟨_,_,Z,fun x hx=>?_,fun q hq=>?_⟩,fin _ _⟩
  ·unfold Instr.mapUpdate
   simp [run_underlying ht,MapKept.run_getObj_map hb,hc,hf,Result.andThen,MapKept.run_setObj_map _ hb,ChangeMaps.setBlock]
  ·simp only [Array.toList_push,List.mem_append,List.mem_singleton] at hx
   rcases hx with hx | rfl
   ·obtain ⟨q,hq,h4⟩:=h1 x hx
    exact ⟨q,List.mem_append_left _ hq,h4⟩
   ·exact ⟨p,by simp,Z,Z,hp⟩
  ·rcases List.mem_append.1 hq with hq | hq
   ·obtain ⟨x,hx,h4⟩:=h2 q hq
    exact ⟨x,by simp only [Array.toList_push,List.mem_append];exact .inl hx,h4⟩
   ·rw [List.mem_singleton.1 hq]
    exact ⟨{ key:=Zi p,val:=.bool true,born:=clock },by simp,Z⟩
 ·have hj':es[j]? = some e0:=by simpa using hj
  have hall:∀ x∈(es.modify j fun e=>{ e with key:=Zi p,val:=.bool true }).toList,(∃ y∈es.toList,x.key=y.key∧x.val=y.val)∨(x.key=Zi p∧x.val=.bool true):=fun x hx=>by
   obtain ⟨i,hi⟩:=List.getElem?_of_mem hx
   rw [Array.getElem?_toList,Array.getElem?_modify] at hi
   split at hi
   ·cases hq:es[i]? with
    | none=>rw [hq] at hi;cases hi
    | some y=>rw [hq] at hi;injection hi with hi;subst hi;exact .inr ⟨rfl,rfl⟩
   ·exact .inl ⟨x,List.mem_of_getElem? (by rw [Array.getElem?_toList];exact hi),Z,Z⟩
  refine ⟨ChangeMaps.setBlock w b (.map (es.modify j fun e=>{ e with key:=Zi p,val:=.bool true }) (clock)),_,?_,ChangeMaps.heap_setBlock_same hb _,⟨_,_,Z,fun x hx=>?_,fun q hq=>?_⟩,fin _ _⟩
  ·unfold Instr.mapUpdate
   have hs:=Kd.stays w hkey
   simp [run_underlying ht,MapKept.run_getObj_map hb,hc,hf,Result.andThen,MapKept.run_setObj_map _ hb,ChangeMaps.setBlock,hj',h3,hs]
  ·rcases hall x hx with ⟨y,hy,h5,h6⟩ | ⟨h5,h6⟩
   ·obtain ⟨q,hq,h4,h7,h8⟩:=h1 y hy
    exact ⟨q,List.mem_append_left _ hq,h5.trans h4,h6.trans h7,h8⟩
   ·exact ⟨p,by simp,h5,h6,hp⟩
  ·have hin:∀ x∈es.toList,∃ x'∈(es.modify j fun e=>{ e with key:=Zi p,val:=.bool true }).toList,x'.key=x.key:=fun x hx=>by
    obtain ⟨i,hi⟩:=List.getElem?_of_mem hx
    rw [Array.getElem?_toList] at hi
    by_cases hij:j=i
    ·subst hij
     rw [hj'] at hi
     injection hi with hi
     subst hi
     exact ⟨{ e0 with key:=Zi p,val:=.bool true },List.mem_of_getElem? (i:=j) (by rw [Array.getElem?_toList,Array.getElem?_modify,if_pos Z,hj'];rfl),h3.symm⟩
    ·exact ⟨x,List.mem_of_getElem? (i:=i) (by rw [Array.getElem?_toList,Array.getElem?_modify,if_neg hij,hi]),Z⟩
   have ofE:∀ x∈es.toList,x.key=Zi q→∃ e∈(es.modify j fun e=>{ e with key:=Zi p,val:=.bool true }).toList,e.key=Zi q:=fun x hx h4=>by
    obtain ⟨x',hx',h5⟩:=hin x hx
    exact ⟨x',hx',h5.trans h4⟩
   rcases List.mem_append.1 hq with hq | hq
   ·obtain ⟨x,hx,h4⟩:=h2 q hq
    exact ofE x hx h4
   ·rw [List.mem_singleton.1 hq] at ofE ⊢
    exact ofE e0 (List.mem_of_getElem? hj) h3
end
section
variable {P:Program} {op:Oper} {a:Act} {Q:Exit→Act→World→Prop} {df:List Deferred} {w0 w:World} {ex:Nat→Prop} {L L':List (Nat×BA)} {k e ty:TypeId} {nn t:Nat} {E:List (Nat×Value)} {K:Act→World→Prop} {ss:List Int}
theorem ow_mmN (M:Mem w0 ex w L) (T:TmD df a nn E) (ho:op.op=.makeMap ty none) (ht:P.underlying ty=some (.map k e)) (hd:op.dst=some t) (hf:freshE E t=true) (hn:Nat.blt t nn=true)
  (h:∀ g w' a',Mem w0 ex w' ((g,.any (numQ []))::L)→TmD df a' nn ((t,.map (some g))::E)→K a' w'):op.wp P a w K Q:=by
 unfold Oper.wp execOp
 simp only [ho,Option.map_none,run_makeMap,Sem.run_bind,Result.andThen_ok,Sem.run_pure]
 rw [Oper.upon_value,hd]
 exact h _ _ _ (M.newAny _ _ ⟨#[],0,Z,fun e he=>by simp at he,fun p hp=>by cases hp⟩) (T.put hn hf _)
theorem ow_lkN {x y:Operand} {g:Nat} {p:Int} (M:Mem w0 ex w L) (T:TmD df a nn E) (hk:P.underlying k=some (.int .i64)) (ht:P.underlying ty=some (.map k e)) (hz:∀ w,(zeroValue e).run P w=.ok (.bool false) w) (hm:(g,BA.any (numQ ss))∈L) (ho:op.op=.lookup ty x y false) (hd:op.dst=some t) (hf:freshE E t=true) (hn:Nat.blt t nn=true) (hx:a.eval x=.map (some g)) (hy:a.eval y=Zi p)
  (hp : -9223372036854775808≤p∧p≤9223372036854775807) (h:∀ a',TmD df a' nn ((t,.bool (decide (p∈ss)))::E)→K a' w):op.wp P a w K Q:=by
 obtain ⟨o,h1,h2⟩:=M.at hm
 have hr:=numQ.lookup hk ht hz h1 h2 (wf_i64 hp)
 unfold Oper.wp execOp
 simp only [ho,hx,hy,hr,Sem.run_bind,Result.andThen_ok,Sem.run_pure]
 rw [Oper.upon_value,hd]
 exact h _ (T.put hn hf _)
theorem ow_muN {x y z:Operand} {g:Nat} {p:Int} (M:Mem w0 ex w L) (T:TmD df a nn E) (hk:P.underlying k=some (.int .i64)) (ht:P.underlying ty=some (.map k e)) (ho:op.op=.mapUpdate ty x y z) (hd:op.dst=none) (hx:a.eval x=.map (some g)) (hy:a.eval y=Zi p) (hz:a.eval z=.bool true)
  (hu:Upd L g (.any (numQ ss)) (.any (numQ (ss++[p]))) L') (hp : -9223372036854775808≤p∧p≤9223372036854775807) (h:∀ w' a',Mem w0 ex w' L'→TmD df a' nn E→K a' w'):op.wp P a w K Q:=by
 obtain ⟨o,h1,h2⟩:=M.at hu.mem
 obtain ⟨w',o',hr,h3,h4,hg⟩:=numQ.update hk ht h1 h2 (wf_i64 hp)
 unfold Oper.wp execOp
 simp only [ho,hx,hy,hz,hr,Sem.run_bind,Result.andThen_ok,Sem.run_pure]
 show K (a.put op.dst undef) w'
 rw [hd]
 exact h _ _ (M.callW hu hg ⟨o',h3,h4⟩) (T.put0 _)
end
end
section
variable {α:Type} (enc:α→List Value) (z:Nat)
end
section
variable {P:Program} {op:Oper} {a:Act} {K:Act→World→Prop} {Q:Exit→Act→World→Prop} {w0 w:World} {ex:Nat→Prop} {L:List (Nat×BA)} {E:List (Nat×Value)} {df:List Deferred} {t n:Nat}
end
abbrev L4.l (x:L4):List Int:=[x.a,x.b,x.c,x.d]
def L4.ok (x:L4):Prop:=(0≤x.a∧x.a≤5)∧(0≤x.b∧x.b≤5)∧(0≤x.c∧x.c≤5)∧0≤x.d∧x.d≤5
theorem L4.ok.all {x:L4} (h:x.ok):∀ v∈x.l,0≤v∧v≤5:=by
 obtain ⟨h1,h2,h3,h4⟩:=h
 intro v hv
 simp only [L4.l,Zx7,Zx8,or_false] at hv
 rcases hv with rfl | rfl | rfl | rfl <;> assumption
theorem L4.ok.get {x:L4} (h:x.ok) (k:Nat):0≤x.l.getD k 0∧x.l.getD k 0≤5:=by
 rw [List.getD_eq_getElem?_getD]
 cases hk:x.l[k]? with
 | none=>simp
 | some v=>exact h.all v (List.mem_of_getElem? hk)
theorem l4At {w:World} {g:Nat} {x:L4} {k:Nat} (h:Bk w g #[Zi x.a,Zi x.b,Zi x.c,Zi x.d]) (hk:k < 4):w.cell? ((⟨g,0,none⟩:Addr).add (k * 1))=some (Zi (x.l.getD k 0)):=by
 have:=h.cell k
 match k,hk with
 | 0,_=>exact this
 | 1,_=>exact this
 | 2,_=>exact this
 | 3,_=>exact this
def cornL (n:Nat) (but:List Int):List Int:=((List.range n).map fun k:Nat=>(k:Int)).filter fun c=>decide (c ∉ but)
theorem cornL_succ (n:Nat) (but:List Int):cornL (n+1) but=if (n:Int)∈but then cornL n but else cornL n but++[(n:Int)]:=by
 unfold cornL
 rw [List.range_succ,List.map_append,List.filter_append]
 by_cases h:(n:Int)∈but <;> simp [h]
theorem cornL_mem {n:Nat} {but:List Int} {c:Int} (h:c∈cornL n but):0≤c∧c < n:=by
 unfold cornL at h
 obtain ⟨k,hk,rfl⟩:=List.mem_map.1 (List.mem_filter.1 h).1
 have:=List.mem_range.1 hk
 omega
theorem cornL_len (n:Nat) (but:List Int):(cornL n but).length≤n:=by
 unfold cornL
 refine Nat.le_trans (List.length_filter_le _ _) ?_
 simp
def aft (way x y:Int):Int:=if way=1 then x - y else x+y
def roomW (way x full:Int):Int:=if way=1 then x else full - x
def worksV (way:Int):Value:=if way=1 then .agg #[.func (.func 119) #[] #[],.func (.func 120) #[] #[]] else .agg #[.func (.func 121) #[] #[],.func (.func 122) #[] #[]]
def turnW:List Int→Int
 | x::y::r=>(if y≠x then 1 else 0)+turnW (y::r)
 | _=>0
theorem turnW_snoc {x y:Int}:∀ (l:List Int),turnW (l++[x,y])=turnW (l++[x])+if y≠x then 1 else 0
 | []=>by simp [turnW]
 | [z]=>by simp only [Zx6,Zx5,turnW];omega
 | z::z2::l=>by
  have:=turnW_snoc (x:=x) (y:=y) (z2::l)
  simp only [Zx6,turnW] at this ⊢
  omega
theorem turnW_take {l:List Int} {k:Nat} {x y:Int} (hx:l[k]? = some x) (hy:l[k+1]? = some y):turnW (l.take (k+2))=turnW (l.take (k+1))+if y≠x then 1 else 0:=by
 rw [List.take_add_one (i:=k+1),hy,List.take_add_one (i:=k),hx]
 simp only [Option.toList_some,List.append_assoc,Zx6,Zx5]
 exact turnW_snoc _
theorem turnW_nonneg:∀ l:List Int,0≤turnW l∧turnW l≤l.length
 | []=>by simp [turnW]
 | [x]=>by simp [turnW]
 | x::y::r=>by
  have:=turnW_nonneg (y::r)
  simp only [Zx1] at this ⊢
  unfold turnW
  push_cast at this ⊢
  split <;> omega
def wyE:List Nt→List Int→Option Int→Int
 | n::p,w::ws,q=>if withinB w 1 2=false then 8 else if (q.isSome=true∧q≠some w)∧n.rest=false then 5 else wyE p ws (some w)
 | _,_,_=>0
def waysE (p:List Nt) (ws:List Int):Int:=if ws.length < p.length then 7 else if p.length < ws.length then 6 else wyE p ws none
theorem index_any (G:Option Addr) (n:Nat) (g:List Int) (v:Int)  (w:World) (hG:Rd w w.heap.size 1 G g.length (ic g)) (nG:g.length≤1000000)  :
   Calls Try.prog 141 #[.slice G g.length n,Zi v] w fun e w'=>∃ k:Int,e=.returned (Zi k)∧(0≤k↔v∈g)∧Below w.heap.size w w':=by
 obtain ⟨bG,oG,SG⟩:=Sp.old hG
 refine Zpx noEx Try.func141 Z 19 Z [.slice G g.length n,Zi v] Z Z (Mem.init w _) ?_
 intro ac wc T M
 refine Zsr ?_
 refine lq T (Zra Z evc) ?_;intro ac T
 replace T:=T.pick [1,2] rfl
 refine Zln ?_
 refine wp_seq ?_
 refine Zsr ?_
 refine Zg3 T (Zq (Zrm Z (T.e 0 Z))) Z (Zl Try.underlying28 0 Z Z) Z (fun _ T=>Zq (Zrm Z evc)) Z ?_;intro ac T
 replace T:=T.pick [0,1,3,4] rfl
 refine Zln ?_
 refine wp_block ?_
 refine wp_loop_n (fun mz ac wc=>∃ (k:Nat),mz=g.length - k∧(k≤g.length)∧(v ∉ g.take k)∧Tm ac 19 [(0,.slice G g.length n),(1,Zi v),(7,Zi ((g.length:Nat):Int)),(8,Zi (k:Int))]∧Mem w noEx wc []) ?_ ?_
 ·exact ⟨_,0,Z,(Nat.zero_le _),(by simp),T.pick [2,3,1,0] Z,M.mask [] Z⟩
 clear T M
 rintro mz ac wc ⟨k,hmm1,hk,H,T,M⟩
 refine Zsr ?_
 refine lq T (rn_lss Z (T.e 3 Z) (T.e 2 Z)) ?_;intro ac T
 refine Zln ?_
 refine wp_seq ?_
 refine wp_if (T.e 0 Z) ?_ ?_
 ·intro h1
  obtain ⟨x,hkx,-⟩:=ic_next (l:=g) (k:=k) (by omega)
  refine Zsk ?_
  refine wp_seq ?_
  refine wp_block ?_
  refine Zsr ?_
  refine Zg2 T (Zq (Zrm Z (T.e 4 Z))) Z (Za 0 Z Z) Z ?_;intro ac T
  replace T:=T.pick [0,3,4,5,6] rfl
  refine Zln ?_
  refine Zsr ?_
  refine Zg6 T (Zq (Zrm Z (T.e 2 Z))) Z (Zm 2 Z Z) Z (Zm 2 Z Z) Z (fun _ T=>Zq (Zri (size:=1) k Z (T.e 1 Z) (T.e 0 Z) ⟨_,Try.underlying28,by kernel_rfl⟩ Z (by omega) (SG.at0 (by omega)))) Z (fun _ T=>Zq (rn_cell (Sp.ic0 SG M (Zz9 _) hkx) Z (T.e 0 Z))) Z (fun _ T=>Zq (rn_eql Z (T.e 4 Z) (T.e 0 Z))) Z ?_;intro ac T
  replace T:=T.pick [0,6,7,8,9,10] rfl
  refine Zln ?_
  refine wp_if (T.e 0 Z) ?_ ?_
  ·intro h2
   refine Zsr ?_
   refine Zg2 T (Zq (Zrm Z (T.e 1 Z))) Z (Za 0 Z Z) Z ?_;intro ac T
   replace T:=T.pick [0] rfl
   refine Zln ?_
   refine wp_ret ?_
   refine Zrb ?_
   refine Zrt ?_
   refine Zrt ?_
   refine Zrb ?_
   refine Zrt ?_
   refine rt_1 T Z (T.e 0 Z) ?_
   exact ⟨_,Z,⟨fun _=>by rw [show v=x by omega];exact List.mem_of_getElem? hkx,fun _=>by omega⟩,M.below⟩
  intro h2
  refine wp_skip ?_
  refine Znb ?_
  refine nm_then ?_
  refine wp_region_lit ?_
  refine lq T (rn_add Z (T.e 5 Z) evc (by omega)) ?_;intro ac T
  refine l_q (v:=(Zi ((k:Int)+1))) (T.pick [0,1,2,3,4,5] Z) Z Z Z Z (Zrm Z (T.e 0 Z)) ?_;intro ac T
  replace T:=T.pick [0,4,5,6] rfl
  refine Zln ?_
  exact ⟨_,by omega,k+1,rfl,(by omega),(by rw [List.take_add_one,hkx];simp only [Option.toList_some,List.mem_append,List.mem_singleton];rintro (h9 | h9);exact H h9;omega),T.pick [1,2,3,0] rfl,M.mask [] rfl⟩
 intro h1
 rw [List.take_of_length_le (by omega)] at H
 refine wp_exit ?_
 refine Zet ?_
 refine Zet ?_
 refine ex_hit ?_
 refine nm_then ?_
 refine Zsr ?_
 refine lq T (Zra Z evc) ?_;intro ac T
 replace T:=T.pick [0] rfl
 refine Zln ?_
 refine wp_ret ?_
 refine rt_1 T Z (T.e 0 Z) ?_
 exact ⟨-1,Z,⟨fun h9=>by omega,fun h9=>absurd h9 H⟩,M.below⟩
theorem contains_any (G:Option Addr) (n:Nat) (g:List Int) (v:Int)  (w:World) (hG:Rd w w.heap.size 1 G g.length (ic g)) (nG:g.length≤1000000)  :
  Calls Try.prog 118 #[.slice G g.length n,Zi v] w fun e w'=>e=.returned (.bool (decide (v∈g)))∧Below w.heap.size w w':=by
 obtain ⟨bG,oG,SG⟩:=Sp.old hG
 refine Zpx noEx Try.func118 Z 9 Z [.slice G g.length n,Zi v] Z Z (Mem.init w _) ?_
 intro ac wc T M
 refine Zsr ?_
 refine lq T (Zra Z evc) ?_;intro ac T
 replace T:=T.pick [1,2] rfl
 refine Zln ?_
 refine Zsr ?_
 refine Zg2 T (Zq (Zrm Z (T.e 0 Z))) Z (Zm 2 Z Z) Z ?_;intro ac T
 refine Zl2 ?_
 refine Zod T Z Z Z Z evf (.cons (T.e 1 Z) (.cons (T.e 0 Z) .nil)) Try.func141 Z Z ?_
 refine Calls.mono (index_any G n g v _ (SG.rd M (Zz9 _)) (by omega)) ?_
 clear T;rintro e wc ⟨ku1,rfl,hku1,hb⟩ ac T
 replace M:=M.call hb;clear hb
 refine Zg2 T (Zq (rn_geq Z (T.e 0 Z) evc)) Z (Za 0 Z Z) Z ?_;intro ac T
 replace T:=T.pick [0] rfl
 refine Zln ?_
 refine wp_ret ?_
 refine rt_1 T Z (T.e 0 Z) ?_
 exact ⟨ret_bool (decide_eq_decide.2 hku1),M.below⟩
theorem piece_any (p:List Nt) (P:Option Addr) (pc:Nat)  (w:World) (hP9:Rd w w.heap.size 4 P p.length (ntc p)) (nP:p.length≤1000)  :
   Calls Try.prog 40 #[.slice P p.length pc] w fun e w'=>e=.returned (Zi (pieceE p))∧Below w.heap.size w w':=by
 obtain ⟨bP,oP,SP⟩:=Sp.old hP9
 refine Zpx noEx Try.func40 Z 26 Z [.slice P p.length pc] Z Z (Mem.init w _) ?_
 intro ac wc T M
 refine Zsr ?_
 refine lq T (Zra Z evc) ?_;intro ac T
 replace T:=T.pick [1] rfl
 refine Zln ?_
 refine wp_seq ?_
 refine Zsr ?_
 refine Zg3 T (Zq (Zrm Z (T.e 0 Z))) Z (Zl Try.underlying44 0 Z Z) Z (fun _ T=>Zq (rn_gtr Z (T.e 0 Z) evc)) Z ?_;intro ac T
 replace T:=T.pick [0,3] rfl
 refine Zln ?_
 refine wp_if (T.e 0 Z) ?_ ?_
 ·intro h1
  refine Zsr ?_
  refine lq T (Zra Z evc) ?_;intro ac T
  replace T:=T.pick [0] rfl
  refine Zln ?_
  refine wp_ret ?_
  refine Zrt ?_
  refine rt_1 T Z (T.e 0 Z) ?_
  refine ⟨ret_int ?_,M.below⟩
  (try unfold ntE at H)
  unfold pieceE
  (try rw [H])
  (repeat' split) <;> first | rfl | omega | contradiction | (simp_all;done) | (simp_all;omega)
 intro h1
 refine Zsk ?_
 refine wp_seq ?_
 refine Zsr ?_
 refine Zg3 T (Zq (Zrm Z (T.e 1 Z))) Z (Zl Try.underlying44 0 Z Z) Z (fun _ T=>Zq (Zrm Z evc)) Z ?_;intro ac T
 replace T:=T.pick [0,1,2] rfl
 refine Zln ?_
 refine wp_block ?_
 refine wp_loop_n (fun mz ac wc=>∃ (k:Nat),mz=p.length - k∧(k≤p.length)∧(ntsE p=ntsE (p.drop k))∧Tm ac 26 [(9,.slice P p.length pc),(10,Zi ((p.length:Nat):Int)),(11,Zi (k:Int))]∧Mem w noEx wc []) ?_ ?_
 ·exact ⟨_,0,Z,(Nat.zero_le _),Z,T.pick [2,1,0] Z,M.mask [] Z⟩
 clear T M
 rintro mz ac wc ⟨k,hmm1,hk,H,T,M⟩
 refine Zsr ?_
 refine lq T (rn_lss Z (T.e 2 Z) (T.e 1 Z)) ?_;intro ac T
 refine Zln ?_
 refine wp_seq ?_
 refine wp_if (T.e 0 Z) ?_ ?_
 ·intro h2
  obtain ⟨q,hkq,hd⟩:=ntc_next (l:=p) (k:=k) (by omega)
  rw [hd,ntsE] at H
  refine Zsk ?_
  refine wp_seq ?_
  refine wp_block ?_
  refine Zsr ?_
  refine Zg2 (v2:=(.agg #[Zi q.sec,Zi q.lo,Zi q.hi,.bool q.rest])) T (Zq (Zri (size:=4) k Z (T.e 1 Z) (T.e 3 Z) ⟨_,Try.underlying44,by kernel_rfl⟩ Z (by omega) (SP.at0 (by omega)))) Z (fun _ T=>Zq (rn_rowat (Sp.ntcR SP M (Zz9 _) hkq) Z (T.e 0 Z) Z)) Z ?_;intro ac T
  refine Zl2 ?_
  refine Zoa M T Z Z Z Z ?_;clear M T;intro g1 wc ac M T
  refine Zl2 ?_
  refine Zot M T Z Z (T.e 0 Z) (T.e 1 Z) Z .head Z Z ?_;clear M T;intro wc ac M T
  replace T:=T.pick [0,4,5,6] rfl
  refine Zln ?_
  refine wp_seq ?_
  refine Zsr ?_
  refine Zg2 (v1:=(Zj g1)) T (Zq (Zrg 0 Z (T.e 0 Z))) Z (Zo M 0 0 Z Z Z Z) Z ?_;intro ac T
  refine Zl2 ?_
  refine Zod T Z Z Z Z evf (.cons (T.e 0 Z) (.cons evc (.cons evc .nil))) Try.func76 Z Z ?_
  refine Calls.mono (bin_any q.sec 1 20 _) ?_
  clear T;rintro e wc ⟨rfl,hb⟩ ac T
  replace M:=M.call hb;clear hb
  refine lq T (rn_not Z (T.e 0 Z)) ?_;intro ac T
  replace T:=T.pick [0,4,5,6,7] rfl
  refine Zln ?_
  refine wp_cond_split (T.e 0 Z) ?_ ?_
  ·intro h3
   (have h3':=h3;try simp only [Zb1,Zb2,Zb3,Zb4,Zb5,Zb6,Zb7] at h3')
   refine Zsr ?_
   refine lq T (Zra Z evc) ?_;intro ac T
   refine wpList_nil ?_
   replace T:=T.pick [0] rfl
   replace M:=M.mask [false] rfl
   refine Znr ?_
   refine Zrt ?_
   refine Zrb ?_
   refine Zrt ?_
   refine Zrt ?_
   refine Zrb ?_
   refine Zrt ?_
   refine rt_1 T Z (T.e 0 Z) ?_
   refine ⟨ret_int ?_,M.below⟩
   (try unfold ntE at H)
   unfold pieceE
   (try rw [H])
   (repeat' split) <;> first | rfl | omega | contradiction | (simp_all;done) | (simp_all;omega)
  intro h3
  (have h3':=h3;try simp only [Zb1,Zb2,Zb3,Zb4,Zb5,Zb6,Zb7] at h3')
  refine Zsk ?_
  refine Zsr ?_
  refine Zg2 (v1:=(.pointer (some ⟨g1,1,none⟩))) T (Zq (Zrg 1 Z (T.e 1 Z))) Z (Zr M 0 0 Z Z Z Z) Z ?_;intro ac T
  refine Zl2 ?_
  refine Zod T Z Z Z Z evf (.cons (T.e 0 Z) (.cons evc .nil)) Try.func99 Z Z ?_
  refine Calls.mono (bchkR_any q.lo q.hi 9 _) ?_
  clear T;rintro e wc ⟨rfl,hb⟩ ac T
  replace M:=M.call hb;clear hb
  refine lq T (Zra Z (T.e 0 Z)) ?_;intro ac T
  refine wpList_nil ?_
  replace T:=T.pick [0,6,7,8] rfl
  replace M:=M.mask [false] rfl
  refine nm_then ?_
  refine Zsr ?_
  refine Zg2 T (Zq (Zrm Z (T.e 0 Z))) Z (fun _ T=>Zq (rn_neq Z (T.e 0 Z) evc)) Z ?_;intro ac T
  replace T:=T.pick [0,2,3,4,5] rfl
  refine Zln ?_
  refine wp_ifn (T.e 0 Z) ?_ ?_
  ·intro h4
   refine Zsr ?_
   refine Zg2 T (Zq (Zrm Z (T.e 1 Z))) Z (Za 0 Z Z) Z ?_;intro ac T
   replace T:=T.pick [0] rfl
   refine Zln ?_
   refine wp_ret ?_
   refine Zrb ?_
   refine Zrt ?_
   refine Zrt ?_
   refine Zrb ?_
   refine Zrt ?_
   refine rt_1 T Z (T.e 0 Z) ?_
   refine ⟨ret_int ?_,M.below⟩
   (try unfold ntE at H)
   unfold pieceE
   (try rw [H])
   (repeat' split) <;> first | rfl | omega | contradiction | (simp_all;done) | (simp_all;omega)
  intro h4
  refine wp_skip ?_
  refine Znb ?_
  refine nm_then ?_
  refine wp_region_lit ?_
  refine lq T (rn_add Z (T.e 4 Z) evc (by omega)) ?_;intro ac T
  refine l_q (v:=(Zi ((k:Int)+1))) (T.pick [0,1,2,3,4] Z) Z Z Z Z (Zrm Z (T.e 0 Z)) ?_;intro ac T
  replace T:=T.pick [0,4,5] rfl
  refine Zln ?_
  rw [if_pos (by unfold ntE;simp_all)] at H
  exact ⟨_,by omega,k+1,Z,(by omega),H,T.pick [1,2,0] Z,M.mask [] Z⟩
 intro h2
 rw [List.drop_of_length_le (by omega),ntsE] at H
 refine wp_exit ?_
 refine Zet ?_
 refine Zet ?_
 refine ex_hit ?_
 refine nm_then ?_
 refine Zsr ?_
 refine lq T (Zra Z evc) ?_;intro ac T
 replace T:=T.pick [0] rfl
 refine Zln ?_
 refine wp_ret ?_
 refine rt_1 T Z (T.e 0 Z) ?_
 refine ⟨ret_int ?_,M.below⟩
 (try unfold ntE at H)
 unfold pieceE
 (try rw [H])
 (repeat' split) <;> first | rfl | omega | contradiction | (simp_all;done) | (simp_all;omega)
theorem checkWays_any (p:List Nt) (P:Option Addr) (pc:Nat) (G:Option Addr) (n:Nat) (g:List Int)  (w:World) (hP9:Rd w w.heap.size 4 P p.length (ntc p)) (nP:p.length≤1000) (hG:Rd w w.heap.size 1 G g.length (ic g)) (nG:g.length≤1000)  :
   Calls Try.prog 91 #[.slice P p.length pc,.slice G g.length n] w fun e w'=>e=.returned (Zi (waysE p g))∧Below w.heap.size w w':=by
 obtain ⟨bP,oP,SP⟩:=Sp.old hP9
 obtain ⟨bG,oG,SG⟩:=Sp.old hG
 refine Zpx noEx Try.func91 Z 51 Z [.slice P p.length pc,.slice G g.length n] Z Z (Mem.init w _) ?_
 intro ac wc T M
 refine Zsr ?_
 refine lq T (Zra Z evc) ?_;intro ac T
 replace T:=T.pick [1,2] rfl
 refine Zln ?_
 refine wp_seq ?_
 refine wp_block ?_
 refine Zsr ?_
 refine Zg6 T (Zq (Zrm Z (T.e 1 Z))) Z (Zl Try.underlying28 0 Z Z) Z (Zm 2 Z Z) Z (Zl Try.underlying44 0 Z Z) Z (fun _ T=>Zq (rn_lss Z (T.e 2 Z) (T.e 0 Z))) Z (Za 0 Z Z) Z ?_;intro ac T
 replace T:=T.pick [0,6,7] rfl
 refine Zln ?_
 refine wp_if (T.e 0 Z) ?_ ?_
 ·intro h1
  refine Zsr ?_
  refine lq T (Zra Z evc) ?_;intro ac T
  replace T:=T.pick [0] rfl
  refine Zln ?_
  refine wp_ret ?_
  refine Zrb ?_
  refine Zrt ?_
  refine rt_1 T Z (T.e 0 Z) ?_
  refine ⟨ret_int ?_,M.below⟩
  (try rw [hpv (by omega)] at H)
  (try rw [hp0 (by omega)] at H)
  unfold waysE
  (repeat' split) <;> first | rfl | omega | contradiction | (simp_all;done) | (simp_all;omega) | fail
 intro h1
 refine Zsr ?_
 refine Zg6 T (Zq (Zrm Z (T.e 2 Z))) Z (Zl Try.underlying28 0 Z Z) Z (Zm 3 Z Z) Z (Zl Try.underlying44 0 Z Z) Z (fun _ T=>Zq (rn_gtr Z (T.e 2 Z) (T.e 0 Z))) Z (Za 0 Z Z) Z ?_;intro ac T
 replace T:=T.pick [0,7,8] rfl
 refine Zln ?_
 refine wp_if (T.e 0 Z) ?_ ?_
 ·intro h2
  refine Zsr ?_
  refine lq T (Zra Z evc) ?_;intro ac T
  replace T:=T.pick [0] rfl
  refine Zln ?_
  refine wp_ret ?_
  refine Zrb ?_
  refine Zrt ?_
  refine rt_1 T Z (T.e 0 Z) ?_
  refine ⟨ret_int ?_,M.below⟩
  (try rw [hpv (by omega)] at H)
  (try rw [hp0 (by omega)] at H)
  unfold waysE
  (repeat' split) <;> first | rfl | omega | contradiction | (simp_all;done) | (simp_all;omega) | fail
 intro h2
 refine wp_skip ?_
 refine Znb ?_
 refine Zns ?_
 refine Zsr ?_
 refine Zg3 T (Zq (Zrm Z (T.e 2 Z))) Z (Zl Try.underlying28 0 Z Z) Z (fun _ T=>Zq (Zrm Z evc)) Z ?_;intro ac T
 replace T:=T.pick [0,1,2,4,5] rfl
 refine Zln ?_
 refine wp_block ?_
 refine wp_loop_n (fun mz ac wc=>∃ (k:Nat),mz=g.length - k∧(k≤g.length)∧(wyE p g none=wyE (p.drop k) (g.drop k) (prevE g k))∧Tm ac 51 [(0,.slice P p.length pc),(1,.slice G g.length n),(19,.slice G g.length n),(20,Zi ((g.length:Nat):Int)),(21,Zi (k:Int))]∧Mem w noEx wc []) ?_ ?_
 ·exact ⟨_,0,Z,(Nat.zero_le _),Z,T.pick [3,4,2,1,0] Z,M.mask [] Z⟩
 clear T M
 rintro mz ac wc ⟨k,hmm1,hk,H,T,M⟩
 refine Zsr ?_
 refine lq T (rn_lss Z (T.e 4 Z) (T.e 3 Z)) ?_;intro ac T
 refine Zln ?_
 refine wp_seq ?_
 refine wp_if (T.e 0 Z) ?_ ?_
 ·intro h3
  obtain ⟨x,hkx,hd⟩:=ic_next (l:=g) (k:=k) (by omega)
  obtain ⟨y,hky,hd2⟩:=ntc_next (l:=p) (k:=k) (by omega)
  rw [hd,hd2,wyE] at H
  obtain ⟨q,hq,hpv⟩:∃ q,(0 < k→g[k - 1]? = some q)∧(0 < k→prevE g k=some q):=⟨g.getD (k - 1) 0,fun h=>by rw [List.getD_eq_getElem?_getD,List.getElem?_eq_getElem (by omega:k - 1 < g.length)];rfl,fun h=>by unfold prevE;rw [if_neg (by omega)]⟩
  have hp0:k=0→prevE g k=none:=fun h=>by unfold prevE;rw [if_pos h]
  refine Zsk ?_
  refine wp_seq ?_
  refine wp_block ?_
  refine Zsr ?_
  refine Zg5 T (Zq (Zrm Z (T.e 5 Z))) Z (fun _ T=>Zq (Zri (size:=1) k Z (T.e 4 Z) (T.e 6 Z) ⟨_,Try.underlying28,by kernel_rfl⟩ Z (by omega) (SG.at0 (by omega)))) Z (fun _ T=>Zq (rn_cell (Sp.ic0 SG M (Zz9 _) hkx) Z (T.e 0 Z))) Z (Za 2 Z Z) Z (Za 1 Z Z) Z ?_;intro ac T
  replace T:=T.pick [0,1,6,7,8,9,10] rfl
  refine Zln ?_
  refine wp_block ?_
  refine Zsr ?_
  refine lq T (Zrm Z (T.e 0 Z)) ?_;intro ac T
  refine Zl2 ?_
  refine Zod T Z Z Z Z evf (.cons (T.e 0 Z) (.cons evc (.cons evc .nil))) Try.func76 Z Z ?_
  refine Calls.mono (bin_any x 1 2 _) ?_
  clear T;rintro e wc ⟨rfl,hb⟩ ac T
  replace M:=M.call hb;clear hb
  refine Zg2 T (Zq (rn_not Z (T.e 0 Z))) Z (Za 0 Z Z) Z ?_;intro ac T
  replace T:=T.pick [0,4,5,6,7,8,9,10] rfl
  refine Zln ?_
  refine wp_cond_split (T.e 0 Z) ?_ ?_
  ·intro h4
   (have h4':=h4;try simp only [Zb1,Zb2,Zb3,Zb4,Zb5,Zb6,Zb7] at h4')
   refine Zsr ?_
   refine lq T (Zra Z evc) ?_;intro ac T
   replace T:=T.pick [0] rfl
   refine Zln ?_
   refine wp_ret ?_
   refine Zrb ?_
   refine Zrb ?_
   refine Zrt ?_
   refine Zrt ?_
   refine Zrb ?_
   refine Zrt ?_
   refine rt_1 T Z (T.e 0 Z) ?_
   refine ⟨ret_int ?_,M.below⟩
   (try rw [hpv (by omega)] at H)
   (try rw [hp0 (by omega)] at H)
   unfold waysE
   (repeat' split) <;> first | rfl | omega | contradiction | (simp_all;done) | (simp_all;omega) | fail
  intro h4
  (have h4':=h4;try simp only [Zb1,Zb2,Zb3,Zb4,Zb5,Zb6,Zb7] at h4')
  refine cut_seq (fun ac wc=>Tm ac 51 [(0,.slice P p.length pc),(1,.slice G g.length n),(19,.slice G g.length n),(20,Zi ((g.length:Nat):Int)),(21,Zi (k:Int)),(30,.bool ((decide (0 < (k:Int))) && ((!(decide (x=q))) && (!y.rest))))]∧Mem w noEx wc []) ?_ ?_
  ·refine wp_region_lit ?_
   refine Zg3 T (Zq (Zrm Z (T.e 2 Z))) Z (fun _ T=>Zq (rn_gtr Z (T.e 0 Z) evc)) Z (Zm 0 Z Z) Z ?_;intro ac T
   rcases Zx9 (decide (0 < (k:Int))) with h5 | h5
   ·replace h5:=of_decide_eq_true h5
    refine Zg8 T (Zw (Zwy Z Z (T.e 0 Z) (Zdt h5)) (Zrm Z (T.e 4 Z))) Z (fun _ T=>Zw (Zwy Z Z (T.e 1 Z) (Zdt h5)) (Zrm Z (T.e 8 Z))) Z (fun _ T=>Zw (Zwy Z Z (T.e 2 Z) (Zdt h5)) (Zrm Z (T.e 7 Z))) Z (fun _ T=>Zw (Zwy Z Z (T.e 3 Z) (Zdt h5)) (rn_sub Z (T.e 0 Z) evc (by omega))) Z (fun _ T=>Zw (Zwy Z Z (T.e 4 Z) (Zdt h5)) (Zri (size:=1) (k - 1) Z (T.e 2 Z) (T.e 0 Z) ⟨_,Try.underlying28,by kernel_rfl⟩ (by omega) (by omega) (SG.at0 (by omega)))) Z (fun _ T=>Zw (Zwy Z Z (T.e 5 Z) (Zdt h5)) (rn_cell (Sp.ic0 SG M (Zz9 _) (hq (by omega))) Z (T.e 0 Z))) Z (fun _ T=>Zw (Zwy Z Z (T.e 6 Z) (Zdt h5)) (rn_neq Z (T.e 5 Z) (T.e 0 Z))) Z (fun _ T=>Zq (Zr1 Z (T.e 7 Z) (Zdt h5) (T.e 0 Z))) Z ?_;intro ac T
    refine lq T (Zrm Z (T.e 0 Z)) ?_;intro ac T
    rcases Zx9 (!(decide (x=q))) with h6 | h6
    ·replace h6 : ¬ (x=q):=by first | (rw [Bool.not_eq_true'] at h6;exact of_decide_eq_false h6) | simpa using h6
     refine Zg8 T (Zw (Zwy Z Z (T.e 0 Z) (by simp [h6])) (Zrm Z (T.e 15 Z))) Z (fun _ T=>Zw (Zwy Z Z (T.e 1 Z) (by simp [h6])) (Zrm Z (T.e 15 Z))) Z (fun _ T=>Zw (Zwy Z Z (T.e 2 Z) (by simp [h6])) (Zri (size:=4) k Z (T.e 1 Z) (T.e 0 Z) ⟨_,Try.underlying44,by kernel_rfl⟩ Z (by omega) (SP.at0 (by omega)))) Z (fun _ T=>Zw (Zwy Z Z (T.e 3 Z) (by simp [h6])) (Zrg 3 Z (T.e 0 Z))) Z (fun _ T=>Zw (Zwy Z Z (T.e 4 Z) (by simp [h6])) (rn_cell (Sp.ntcC3 SP M (Zz9 _) hky) Z (T.e 0 Z))) Z (fun _ T=>Zw (Zwy Z Z (T.e 5 Z) (by simp [h6])) (rn_not Z (T.e 0 Z))) Z (fun _ T=>Zq (Zr1 Z (T.e 6 Z) (by simp [h6]) (T.e 0 Z))) Z (Za 0 Z Z) Z ?_;intro ac T
     refine wpList_nil ?_
     replace T:=T.pick [0,2,3,4,5,6,7,10,11,12,13,14,15,16,23,24,25,26,27] rfl
     exact ⟨(T.pick (E':=[(0,.slice P p.length pc),(1,.slice G g.length n),(19,.slice G g.length n),(20,Zi ((g.length:Nat):Int)),(21,Zi (k:Int)),(30,.bool (!y.rest))]) [14,15,16,17,18,0] Z).as (by (try rw [show (decide (0 < (k:Int)))=true from (Zdt h5)]);(try rw [show (!(decide (x=q)))=true from (by simp [h6])]);(try rfl)),M.mask [] Z⟩
    replace h6:x=q:=by first | (rw [Bool.not_eq_false'] at h6;exact of_decide_eq_true h6) | simpa using h6
    refine Zg8 T (Zp (Zwn Z Z (T.e 0 Z) (by simp [h6]))) Z (fun _ T=>Zp (Zwn Z Z (T.e 1 Z) (by simp [h6]))) Z (fun _ T=>Zp (Zwn Z Z (T.e 2 Z) (by simp [h6]))) Z (fun _ T=>Zp (Zwn Z Z (T.e 3 Z) (by simp [h6]))) Z (fun _ T=>Zp (Zwn Z Z (T.e 4 Z) (by simp [h6]))) Z (fun _ T=>Zp (Zwn Z Z (T.e 5 Z) (by simp [h6]))) Z (fun _ T=>Zq (Zr0 Z (T.e 6 Z) (by simp [h6]) evc)) Z (Za 0 Z Z) Z ?_;intro ac T
    refine wpList_nil ?_
    replace T:=T.pick [0,2,3,4,5,6,7,10,11,12,13,14,15,16,23,24,25,26,27] rfl
    exact ⟨(T.pick (E':=[(0,.slice P p.length pc),(1,.slice G g.length n),(19,.slice G g.length n),(20,Zi ((g.length:Nat):Int)),(21,Zi (k:Int)),(30,.bool false)]) [14,15,16,17,18,0] Z).as (by (try rw [show (decide (0 < (k:Int)))=true from (Zdt h5)]);(try rw [show (!(decide (x=q)))=false from (by simp [h6])]);(try rfl)),M.mask [] Z⟩
   replace h5:=of_decide_eq_false h5
   refine Zg8 T (Zp (Zwn Z Z (T.e 0 Z) (Zdf h5))) Z (fun _ T=>Zp (Zwn Z Z (T.e 1 Z) (Zdf h5))) Z (fun _ T=>Zp (Zwn Z Z (T.e 2 Z) (Zdf h5))) Z (fun _ T=>Zp (Zwn Z Z (T.e 3 Z) (Zdf h5))) Z (fun _ T=>Zp (Zwn Z Z (T.e 4 Z) (Zdf h5))) Z (fun _ T=>Zp (Zwn Z Z (T.e 5 Z) (Zdf h5))) Z (fun _ T=>Zp (Zwn Z Z (T.e 6 Z) (Zdf h5))) Z (fun _ T=>Zq (Zr0 Z (T.e 7 Z) (Zdf h5) evc)) Z ?_;intro ac T
   refine Zg8 T (Zq (Zrm Z (T.e 0 Z))) Z (fun _ T=>Zp (Zwn Z Z (T.e 0 Z) Z)) Z (fun _ T=>Zp (Zwn Z Z (T.e 1 Z) Z)) Z (fun _ T=>Zp (Zwn Z Z (T.e 2 Z) Z)) Z (fun _ T=>Zp (Zwn Z Z (T.e 3 Z) Z)) Z (fun _ T=>Zp (Zwn Z Z (T.e 4 Z) Z)) Z (fun _ T=>Zp (Zwn Z Z (T.e 5 Z) Z)) Z (fun _ T=>Zq (Zr0 Z (T.e 6 Z) Z evc)) Z ?_;intro ac T
   refine lq T (Zra Z (T.e 0 Z)) ?_;intro ac T
   refine wpList_nil ?_
   replace T:=T.pick [0,2,3,4,5,6,7,10,11,12,13,14,15,16,23,24,25,26,27] rfl
   exact ⟨(T.pick (E':=[(0,.slice P p.length pc),(1,.slice G g.length n),(19,.slice G g.length n),(20,Zi ((g.length:Nat):Int)),(21,Zi (k:Int)),(30,.bool false)]) [14,15,16,17,18,0] Z).as (by (try rw [show (decide (0 < (k:Int)))=false from (Zdf h5)]);(try rfl)),M.mask [] Z⟩
  clear T M
  rintro ac wc ⟨T,M⟩
  refine wp_cond_split (T.e 5 Z) ?_ ?_
  ·intro h7
   (have h7':=h7;try simp only [Zb1,Zb2,Zb3,Zb4,Zb5,Zb6,Zb7] at h7')
   refine Zsr ?_
   refine lq T (Zra Z evc) ?_;intro ac T
   replace T:=T.pick [0] rfl
   refine Zln ?_
   refine wp_ret ?_
   refine Zrb ?_
   refine Zrb ?_
   refine Zrt ?_
   refine Zrt ?_
   refine Zrb ?_
   refine Zrt ?_
   refine rt_1 T Z (T.e 0 Z) ?_
   refine ⟨ret_int ?_,M.below⟩
   (try rw [hpv (by omega)] at H)
   (try rw [hp0 (by omega)] at H)
   unfold waysE
   (repeat' split) <;> first | rfl | omega | contradiction | (simp_all;done) | (simp_all;omega) | fail
  intro h7
  (have h7':=h7;try simp only [Zb1,Zb2,Zb3,Zb4,Zb5,Zb6,Zb7] at h7')
  refine wp_skip ?_
  refine Znb ?_
  refine Znb ?_
  refine nm_then ?_
  refine wp_region_lit ?_
  refine lq T (rn_add Z (T.e 4 Z) evc (by omega)) ?_;intro ac T
  refine l_q (v:=(Zi ((k:Int)+1))) (T.pick [0,1,2,3,4,6] Z) Z Z Z Z (Zrm Z (T.e 0 Z)) ?_;intro ac T
  replace T:=T.pick [0,2,3,4,5] rfl
  refine Zln ?_
  have hlp : ¬ (((prevE g k).isSome=true∧prevE g k≠some x)∧y.rest=false):=by
    rintro ⟨⟨k1,k2⟩,k3⟩
    rcases Nat.eq_zero_or_pos k with hk0 | hk0
    · rw [hp0 hk0] at k1;cases k1
    · rw [hpv hk0] at k2;first | (exfalso;apply k2;congr 1;omega) | (simp_all;done) | (exfalso;omega)
  rw [if_neg (by simp_all),if_neg hlp,← prevE_succ hkx] at H
  exact ⟨_,by omega,k+1,Z,(by omega),H,T.pick [1,2,3,4,0] Z,M.mask [] Z⟩
 intro h3
 rw [List.drop_of_length_le (l:=g) (by omega),List.drop_of_length_le (l:=p) (by omega),show wyE [] [] (prevE g k)=0 from rfl] at H
 refine wp_exit ?_
 refine Zet ?_
 refine Zet ?_
 refine ex_hit ?_
 refine nm_then ?_
 refine Zsr ?_
 refine lq T (Zra Z evc) ?_;intro ac T
 replace T:=T.pick [0] rfl
 refine Zln ?_
 refine wp_ret ?_
 refine rt_1 T Z (T.e 0 Z) ?_
 refine ⟨ret_int ?_,M.below⟩
 (try rw [hpv (by omega)] at H)
 (try rw [hp0 (by omega)] at H)
 unfold waysE
 (repeat' split) <;> first | rfl | omega | contradiction | (simp_all;done) | (simp_all;omega) | fail
theorem total_any (x:L4) (G:Option Addr) (n:Nat) (g:List Int)  (w:World) (hx:x.ok) (hG:Rd w w.heap.size 1 G g.length (ic g)) (nG:g.length≤1000) (hg:∀ c∈g,0≤c∧c < 4)  :
   Calls Try.prog 79 #[.agg #[Zi x.a,Zi x.b,Zi x.c,Zi x.d],.slice G g.length n] w fun e w'=>e=.returned (Zi (totL x.l g))∧Below w.heap.size w w':=by
 obtain ⟨bG,oG,SG⟩:=Sp.old hG
 refine Zpx noEx Try.func79 Z 21 Z [.agg #[Zi x.a,Zi x.b,Zi x.c,Zi x.d],.slice G g.length n] Z Z (Mem.init w _) ?_
 intro ac wc T M
 refine Zsr ?_
 refine Zl2 ?_
 refine Zob M T Z Z Z Z (T.e 0 Z) Z ?_;clear M T;intro g1 wc ac M T
 refine lq T (Zra Z evc) ?_;intro ac T
 replace T:=T.pick [1,3] rfl
 refine Zln ?_
 refine Zsr ?_
 refine lq T (Zra Z evc) ?_;intro ac T
 refine Zln ?_
 refine wp_seq ?_
 refine Zsr ?_
 refine Zg3 T (Zq (Zrm Z (T.e 2 Z))) Z (Zl Try.underlying28 0 Z Z) Z (fun _ T=>Zq (Zrm Z evc)) Z ?_;intro ac T
 replace T:=T.pick [0,1,2,3,4] rfl
 refine Zln ?_
 refine wp_block ?_
 refine wp_loop_n (fun mz ac wc=>∃ (k:Nat) (s9:Int),mz=g.length - k∧(k≤g.length)∧(s9=totL x.l (g.take k))∧(0≤s9∧s9≤5 * (k:Int))∧Tm ac 21 [(2,Zj g1),(5,Zi s9),(8,.slice G g.length n),(9,Zi ((g.length:Nat):Int)),(10,Zi (k:Int))]∧Mem w noEx wc [(g1,.cells [Zi x.a,Zi x.b,Zi x.c,Zi x.d])]) ?_ ?_
 ·exact ⟨_,0,0,Z,(Nat.zero_le _),Z,(by omega),T.pick [4,3,2,1,0] Z,M.mask [true] Z⟩
 clear T M
 rintro mz ac wc ⟨k,s9,hmm1,hk,H,hs,T,M⟩
 refine Zsr ?_
 refine lq T (rn_lss Z (T.e 4 Z) (T.e 3 Z)) ?_;intro ac T
 refine Zln ?_
 refine wp_seq ?_
 refine wp_if (T.e 0 Z) ?_ ?_
 ·intro h1
  obtain ⟨q,hkq,-⟩:=ic_next (l:=g) (k:=k) (by omega)
  have hq4:=hg _ (List.mem_of_getElem? hkq)
  have hgt:=hx.get q.toNat
  refine Zsk ?_
  refine wp_seq ?_
  refine wp_block ?_
  refine Zsr ?_
  refine Zg3 T (Zq (Zri (size:=1) k Z (T.e 3 Z) (T.e 5 Z) ⟨_,Try.underlying28,by kernel_rfl⟩ Z (by omega) (SG.at0 (by omega)))) Z (fun _ T=>Zq (rn_cell (Sp.ic0 SG M (Zz9 _) hkq) Z (T.e 0 Z))) Z (Za 0 Z Z) Z ?_;intro ac T
  replace T:=T.pick [0,4,5,6,7,8] rfl
  refine Zln ?_
  refine wp_region_lit ?_
  refine Zg5 (v3:=(.pointer (some ((⟨g1,0,none⟩:Addr).add (q.toNat * 1))))) (v4:=(Zi (x.l.getD q.toNat 0))) T (Zq (Zrm Z (T.e 2 Z))) Z (Zm 1 Z Z) Z (fun _ T=>Zq (rn_indexG (size:=1) q.toNat Z (T.e 3 Z) (T.e 0 Z) (by omega) Try.underlying109 (by kernel_rfl) (by omega))) Z (fun _ T=>Zq (rn_cell (l4At (M.nth 0 Z) (by omega)) Z (T.e 0 Z))) Z (fun _ T=>Zq (rn_add Z (T.e 3 Z) (T.e 0 Z) (by omega))) Z ?_;intro ac T
  refine l_q (v:=(Zi (s9+(x.l.getD q.toNat 0)))) (T.pick [0,1,2,3,4,5,6,8,9,10] Z) Z Z Z Z (Zra Z (T.e 0 Z)) ?_;intro ac T
  refine wpList_nil ?_
  replace T:=T.pick [0,7,8,9,10] rfl
  refine Znb ?_
  refine nm_then ?_
  refine wp_region_lit ?_
  refine lq T (rn_add Z (T.e 4 Z) evc (by omega)) ?_;intro ac T
  refine l_q (v:=(Zi ((k:Int)+1))) (T.pick [0,1,2,3,4] Z) Z Z Z Z (Zrm Z (T.e 0 Z)) ?_;intro ac T
  replace T:=T.pick [0,2,3,4,5] rfl
  refine Zln ?_
  exact ⟨_,by omega,k+1,(s9+(x.l.getD q.toNat 0)),Z,(by omega),(by rw [totL_succ _ _ hkq,← H]),(by push_cast;omega),T.pick [2,1,3,4,0] Z,M.mask [true] Z⟩
 intro h1
 rw [List.take_of_length_le (by omega)] at H
 refine wp_exit ?_
 refine Zet ?_
 refine Zet ?_
 refine ex_hit ?_
 refine nm_then ?_
 refine Zsr ?_
 refine Zg2 T (Zq (Zrm Z (T.e 2 Z))) Z (Za 0 Z Z) Z ?_;intro ac T
 refine wpList_nil ?_
 replace T:=T.pick [0] rfl
 replace M:=M.mask [false] rfl
 refine Znr ?_
 refine rt_1 T Z (T.e 0 Z) ?_
 refine ⟨ret_int H,M.below⟩
def CornPost (n:Nat) (but:List Int) (w:World) (e:Ending) (w':World):Prop:=∃ A c I,e=.returned (.slice A (cornL n but).length c)∧Cl 3 1 A (cornL n but).length c (ic (cornL n but)) I∧Mem w noEx w' I
theorem corners_any (b:Bw) (A:Option Addr) (c:Nat) (D:Option Addr) (d:Nat) (G:Option Addr) (n:Nat) (g:List Int)  (w:World) (nA:b.cs.length≤1000) (hG:Rd w w.heap.size 1 G g.length (ic g)) (nG:g.length≤1000)  :
   Calls Try.prog 78 #[.agg #[Zi b.full,Zi b.a0,Zi b.a1,.slice A b.cs.length c,.slice D b.ts.length d],.slice G g.length n] w (CornPost b.cs.length g w):=by
 obtain ⟨bG,oG,SG⟩:=Sp.old hG
 refine Zpx noEx Try.func78 Z 23 Z [.agg #[Zi b.full,Zi b.a0,Zi b.a1,.slice A b.cs.length c,.slice D b.ts.length d],.slice G g.length n] Z Z (Mem.init w _) ?_
 intro ac wc T M
 refine Zsr ?_
 refine Zl2 ?_
 refine Zob M T Z Z Z Z (T.e 0 Z) Z ?_;clear M T;intro g1 wc ac M T
 refine lq T (Zra Z evc) ?_;intro ac T
 replace T:=T.pick [1,3] rfl
 refine Zln ?_
 refine Zsr ?_
 refine lq T (Zra Z evc) ?_;intro ac T
 refine Zln ?_
 refine wp_seq ?_
 refine Zsr ?_
 refine Zg4 (v1:=(.pointer (some ⟨g1,3,none⟩))) T (Zq (Zrg 3 Z (T.e 1 Z))) Z (Zo M 0 0 Z Z Z Z) Z (Zl Try.underlying24 0 Z Z) Z (fun _ T=>Zq (Zrm Z evc)) Z ?_;intro ac T
 refine wpList_nil ?_
 replace T:=T.pick [0,1,4,6] rfl
 replace M:=M.mask [false] rfl
 refine nm_then ?_
 refine wp_block ?_
 refine wp_loop_n (fun mz ac wc=>∃ (k:Nat) (OL:List Int) (A3:Option Addr) (c3:Nat) (Io:List (Nat×BA)),mz=b.cs.length - k∧(k≤b.cs.length)∧(OL=cornL k g)∧(OL.length≤k)∧(Sl 3 1 (.slice A3 OL.length c3) OL.length (ic OL) Io)∧Tm ac 23 [(1,.slice G g.length n),(5,.slice A3 OL.length c3),(9,Zi ((b.cs.length:Nat):Int)),(10,Zi (k:Int))]∧Mem w noEx wc (Io)) ?_ ?_
 ·exact ⟨_,0,[],none,0,[],Z,(Nat.zero_le _),Z,(Nat.zero_le _),(Sl.nil _ _),T.pick [3,2,1,0] Z,M.mask [] Z⟩
 clear T M
 rintro mz ac wc ⟨k,OL,A3,c3,Io,hmm1,hk,hO,hOl,hsl,T,M⟩
 refine Zsr ?_
 refine lq T (rn_lss Z (T.e 3 Z) (T.e 2 Z)) ?_;intro ac T
 refine Zln ?_
 refine wp_seq ?_
 refine wp_if (T.e 0 Z) ?_ ?_
 ·intro h1
  refine Zsk ?_
  refine wp_seq ?_
  refine wp_block ?_
  refine Zsr ?_
  refine Zg2 T (Zq (Zrm Z (T.e 4 Z))) Z (Za 0 Z Z) Z ?_;intro ac T
  replace T:=T.pick [0,3,4,5,6] rfl
  refine Zln ?_
  refine Zsr ?_
  refine Zg2 T (Zq (Zrm Z (T.e 1 Z))) Z (Zm 1 Z Z) Z ?_;intro ac T
  refine Zl2 ?_
  refine Zod T Z Z Z Z evf (.cons (T.e 1 Z) (.cons (T.e 0 Z) .nil)) Try.func118 Z Z ?_
  refine Calls.mono (contains_any G n g (k:Int) _ (SG.rd M (Zz9 _)) (by omega)) ?_
  clear T;rintro e wc ⟨rfl,hb⟩ ac T
  replace M:=M.call hb;clear hb
  refine lq T (rn_not Z (T.e 0 Z)) ?_;intro ac T
  replace T:=T.pick [0,4,5,6,7,8] rfl
  refine Zln ?_
  refine wp_ifn (T.e 0 Z) ?_ ?_
  ·intro h2
   refine wp_region_lit ?_
   refine Zg2 T (Zq (Zrm Z (T.e 3 Z))) Z (Zm 2 Z Z) Z ?_;intro ac T
   refine Zl2 ?_
   refine ow_bs (e:=3) [Zi (k:Int)] M T Z Z Z Z (.cons (T.e 0 Z) .nil) (fun _=>by kernel_rfl) ?_;clear M T;intro g2 wc ac M T
   refine Zl2 ?_
   refine ow_app ([(g2,.cells [Zi (k:Int)])]) Try.info3 hsl M (by first | rfl | simp) T Z Z Z Z Try.underlying28 Z Z Z (by omega) (T.e 2 Z) (T.e 0 Z) (Zne (i:=0) Z) Z Z ?_;clear M T;intro ga1 cga1 wc ac M T
   refine l_q (v:=(.slice (some ⟨ga1,0,none⟩) (OL.length+1) cga1)) (T.pick [0,1,2,3,4,5,6,8,9] Z) Z Z Z Z (Zra Z (T.e 0 Z)) ?_;intro ac T
   refine wpList_nil ?_
   replace T:=T.pick [0,7,8,9] rfl
   replace M:=M.mask [true,false] rfl
   refine Znb ?_
   refine nm_then ?_
   refine wp_region_lit ?_
   refine lq T (rn_add Z (T.e 3 Z) evc (by omega)) ?_;intro ac T
   refine l_q (v:=(Zi ((k:Int)+1))) (T.pick [0,1,2,3] Z) Z Z Z Z (Zrm Z (T.e 0 Z)) ?_;intro ac T
   replace T:=T.pick [0,2,3,4] rfl
   refine Zln ?_
   have e9:OL.length+1=(OL++[(k:Int)]).length:=by simp
   have e8:((ic OL)++[Zi (k:Int)])=ic (OL++[(k:Int)]):=by rw [← ic_snoc]
   rw [e9,e8] at M
   rw [e9] at T
   clear e9 e8
   exact ⟨_,by omega,k+1,(OL++[(k:Int)]),_,_,[(ga1,.row 3 1 (OL++[(k:Int)]).length (ic (OL++[(k:Int)])) cga1)],Z,(by omega),(by rw [cornL_succ,if_neg (by assumption),← hO]),(by simp;omega),(Sl.row _ _ _ _ _ _),T.pick [2,1,3,0] Z,((M.permT [0] 1 Z Z Z Z).sub (Zsl ([(ga1,.row 3 1 (OL++[(k:Int)]).length (ic (OL++[(k:Int)])) cga1)]:List (Nat×BA)) _))⟩
  intro h2
  refine wp_skip ?_
  refine Znb ?_
  refine nm_then ?_
  refine wp_region_lit ?_
  refine lq T (rn_add Z (T.e 5 Z) evc (by omega)) ?_;intro ac T
  refine l_q (v:=(Zi ((k:Int)+1))) (T.pick [0,1,2,3,4,5] Z) Z Z Z Z (Zrm Z (T.e 0 Z)) ?_;intro ac T
  replace T:=T.pick [0,4,5,6] rfl
  refine Zln ?_
  exact ⟨_,by omega,k+1,OL,A3,c3,Io,Z,(by omega),(by rw [cornL_succ,if_pos (by assumption)];exact hO),(by omega),hsl,T.pick [1,2,3,0] Z,M⟩
 intro h1
 obtain rfl:k=b.cs.length:=by omega
 refine wp_exit ?_
 refine Zet ?_
 refine Zet ?_
 refine ex_hit ?_
 refine nm_then ?_
 refine Zsr ?_
 refine Zg2 T (Zq (Zrm Z (T.e 2 Z))) Z (Za 0 Z Z) Z ?_;intro ac T
 replace T:=T.pick [0] rfl
 refine Zln ?_
 refine wp_ret ?_
 refine rt_1 T Z (T.e 0 Z) ?_
 obtain ⟨Aq,cq,hq,hCq⟩:=sl_cl hsl
 injection hq with hq1 _ hq2
 subst hq1 hq2
 subst hO
 exact ⟨_,_,Io,Z,hCq,M.mask [] Z⟩
theorem works1_any (x y:Int)  (w:World) (hxy : -1000000≤x∧x≤1000000∧-1000000≤y∧y≤1000000)  :
  Calls Try.prog 119 #[Zi x,Zi y] w fun e w'=>e=.returned (Zi (x - y))∧Below w.heap.size w w':=by
 refine Zpx noEx Try.func119 Z 8 Z [Zi x,Zi y] Z Z (Mem.init w _) ?_
 intro ac wc T M
 refine Zsr ?_
 refine lq T (Zra Z evc) ?_;intro ac T
 replace T:=T.pick [1,2] rfl
 refine Zln ?_
 refine Zsr ?_
 refine Zg4 T (Zq (Zrm Z (T.e 0 Z))) Z (Zm 2 Z Z) Z (fun _ T=>Zq (rn_sub Z (T.e 1 Z) (T.e 0 Z) (by omega))) Z (Za 0 Z Z) Z ?_;intro ac T
 replace T:=T.pick [0] rfl
 refine Zln ?_
 refine wp_ret ?_
 refine rt_1 T Z (T.e 0 Z) ?_
 exact ⟨rfl,M.below⟩
theorem works2_any (x y:Int)  (w:World)  :
  Calls Try.prog 120 #[Zi x,Zi y] w fun e w'=>e=.returned (Zi x)∧Below w.heap.size w w':=by
 refine Zpx noEx Try.func120 Z 6 Z [Zi x,Zi y] Z Z (Mem.init w _) ?_
 intro ac wc T M
 refine Zsr ?_
 refine lq T (Zra Z evc) ?_;intro ac T
 replace T:=T.pick [1] rfl
 refine Zln ?_
 refine Zsr ?_
 refine Zg2 T (Zq (Zrm Z (T.e 0 Z))) Z (Za 0 Z Z) Z ?_;intro ac T
 replace T:=T.pick [0] rfl
 refine Zln ?_
 refine wp_ret ?_
 refine rt_1 T Z (T.e 0 Z) ?_
 exact ⟨rfl,M.below⟩
theorem works3_any (x y:Int)  (w:World) (hxy : -1000000≤x∧x≤1000000∧-1000000≤y∧y≤1000000)  :
  Calls Try.prog 121 #[Zi x,Zi y] w fun e w'=>e=.returned (Zi (x+y))∧Below w.heap.size w w':=by
 refine Zpx noEx Try.func121 Z 8 Z [Zi x,Zi y] Z Z (Mem.init w _) ?_
 intro ac wc T M
 refine Zsr ?_
 refine lq T (Zra Z evc) ?_;intro ac T
 replace T:=T.pick [1,2] rfl
 refine Zln ?_
 refine Zsr ?_
 refine Zg4 T (Zq (Zrm Z (T.e 0 Z))) Z (Zm 2 Z Z) Z (fun _ T=>Zq (rn_add Z (T.e 1 Z) (T.e 0 Z) (by omega))) Z (Za 0 Z Z) Z ?_;intro ac T
 replace T:=T.pick [0] rfl
 refine Zln ?_
 refine wp_ret ?_
 refine rt_1 T Z (T.e 0 Z) ?_
 exact ⟨rfl,M.below⟩
theorem works4_any (x y:Int)  (w:World) (hxy : -1000000≤x∧x≤1000000∧-1000000≤y∧y≤1000000)  :
  Calls Try.prog 122 #[Zi x,Zi y] w fun e w'=>e=.returned (Zi (y - x))∧Below w.heap.size w w':=by
 refine Zpx noEx Try.func122 Z 8 Z [Zi x,Zi y] Z Z (Mem.init w _) ?_
 intro ac wc T M
 refine Zsr ?_
 refine lq T (Zra Z evc) ?_;intro ac T
 replace T:=T.pick [1,2] rfl
 refine Zln ?_
 refine Zsr ?_
 refine Zg4 T (Zq (Zrm Z (T.e 1 Z))) Z (Zm 1 Z Z) Z (fun _ T=>Zq (rn_sub Z (T.e 1 Z) (T.e 0 Z) (by omega))) Z (Za 0 Z Z) Z ?_;intro ac T
 replace T:=T.pick [0] rfl
 refine Zln ?_
 refine wp_ret ?_
 refine rt_1 T Z (T.e 0 Z) ?_
 exact ⟨rfl,M.below⟩
theorem works_any (way:Int)  (w:World)  :
   Calls Try.prog 80 #[Zi way] w fun e w'=>e=.returned (worksV way)∧Below w.heap.size w w':=by
 refine Zpx noEx Try.func80 Z 7 Z [Zi way] Z Z (Mem.init w _) ?_
 intro ac wc T M
 refine Zsr ?_
 refine Zl2 ?_
 refine Zoa M T Z Z Z Z ?_;clear M T;intro g1 wc ac M T
 refine Zln ?_
 refine wp_seq ?_
 refine Zsr ?_
 refine Zg2 T (Zq (Zrm Z (T.e 1 Z))) Z (fun _ T=>Zq (rn_eql Z (T.e 0 Z) evc)) Z ?_;intro ac T
 replace T:=T.pick [0,2] rfl
 refine Zln ?_
 refine wp_if (T.e 0 Z) ?_ ?_
 ·intro h1
  refine Zsr ?_
  refine lq (v:=(.agg #[.func (.func 119) #[] #[],.func (.func 120) #[] #[]])) T (rn_build Z (.cons evf (.cons evf .nil)) (fun _=>by kernel_rfl)) ?_;intro ac T
  refine Zl2 ?_
  refine Zot M T Z Z (T.e 2 Z) (T.e 0 Z) Z .head Z Z ?_;clear M T;intro wc ac M T
  replace T:=T.pick [2] rfl
  refine Zln ?_
  refine wp_ret ?_
  refine Zrt ?_
  refine rt_c M T Z (T.e 0 Z) (Zne (i:=0) Z) Z ?_
  exact ⟨congrArg Ending.returned (by unfold worksV;first | rw [if_pos (by omega)] | rw [if_neg (by omega)]),M.below⟩
 intro h1
 refine Zsk ?_
 refine Zsr ?_
 refine lq (v:=(.agg #[.func (.func 121) #[] #[],.func (.func 122) #[] #[]])) T (rn_build Z (.cons evf (.cons evf .nil)) (fun _=>by kernel_rfl)) ?_;intro ac T
 refine Zl2 ?_
 refine Zot M T Z Z (T.e 2 Z) (T.e 0 Z) Z .head Z Z ?_;clear M T;intro wc ac M T
 replace T:=T.pick [2] rfl
 refine Zln ?_
 refine wp_ret ?_
 refine rt_c M T Z (T.e 0 Z) (Zne (i:=0) Z) Z ?_
 exact ⟨congrArg Ending.returned (by unfold worksV;first | rw [if_pos (by omega)] | rw [if_neg (by omega)]),M.below⟩
theorem turns_any (G:Option Addr) (n:Nat) (g:List Int)  (w:World) (hG:Rd w w.heap.size 1 G g.length (ic g)) (nG:g.length≤1000)  :
   Calls Try.prog 127 #[.slice G g.length n] w fun e w'=>e=.returned (Zi (turnW g))∧Below w.heap.size w w':=by
 obtain ⟨bG,oG,SG⟩:=Sp.old hG
 refine Zpx noEx Try.func127 Z 24 Z [.slice G g.length n] Z Z (Mem.init w _) ?_
 intro ac wc T M
 refine Zsr ?_
 refine lq T (Zra Z evc) ?_;intro ac T
 replace T:=T.pick [1] rfl
 refine Zln ?_
 refine Zsr ?_
 refine lq T (Zra Z evc) ?_;intro ac T
 refine Zln ?_
 refine wp_seq ?_
 refine Zsr ?_
 refine lq T (Zra Z evc) ?_;intro ac T
 refine Zln ?_
 refine wp_block ?_
 refine wp_loop_n (fun mz ac wc=>∃ (k:Nat) (n9:Int),mz=g.length - k∧(k≤g.length)∧(n9=turnW (g.take (k+1)))∧Tm ac 24 [(0,.slice G g.length n),(3,Zi n9),(4,Zi ((k:Int)+1))]∧Mem w noEx wc []) ?_ ?_
 ·exact ⟨_,0,0,Z,(Nat.zero_le _),(by cases g <;> rfl),T.pick [2,1,0] Z,M.mask [] Z⟩
 clear T M
 rintro mz ac wc ⟨k,n9,hmm1,hk,hn,T,M⟩
 refine wp_seq ?_
 refine Zsr ?_
 refine Zg4 T (Zq (Zrm Z (T.e 2 Z))) Z (Zm 1 Z Z) Z (Zl Try.underlying28 0 Z Z) Z (fun _ T=>Zq (rn_lss Z (T.e 2 Z) (T.e 0 Z))) Z ?_;intro ac T
 replace T:=T.pick [0,4,5,6] rfl
 refine Zln ?_
 refine wp_if (T.e 0 Z) ?_ ?_
 ·intro h1
  obtain ⟨x,hkx,-⟩:=ic_next (l:=g) (k:=k) (by omega)
  obtain ⟨y,hky,-⟩:=ic_next (l:=g) (k:=k+1) (by omega)
  have htk:=turnW_take hkx hky
  have hnn:=turnW_nonneg (g.take (k+1))
  have hnl:(g.take (k+1)).length≤1000:=by rw [List.length_take];omega
  refine Zsk ?_
  refine wp_seq ?_
  refine wp_block ?_
  refine wp_seq ?_
  refine Zgs M (M.mask [] Z) 10 (by kernel_rfl) Z (by kernel_rfl) ?_
  clear M;intro wc M
  refine Zgq T 0 1 Z (fun _=>(Zrm Z (T.e 1 Z))) ?_;intro ac T
  refine Zgq T 1 3 Z (fun _=>(Zrm Z (T.e 4 Z))) ?_;intro ac T
  refine Zgq T 2 7 Z (fun _=>(Zri (size:=1) (k+1) Z (T.e 1 Z) (T.e 0 Z) ⟨_,Try.underlying28,by kernel_rfl⟩ (by omega) (by omega) (SG.at0 (by omega)))) ?_;intro ac T
  refine gq T 3 15 Z (fun B w' hD hl hS=>(rn_cell (Sp.ic0 SG (show Mem w noEx w' _ from hS) (Zz9 _) hky) Z (T.e 0 Z))) ?_;intro ac T
  refine Zgq T 4 31 Z (fun _=>(Zrm Z (T.e 5 Z))) ?_;intro ac T
  refine Zgq T 5 63 Z (fun _=>(Zrm Z (T.e 8 Z))) ?_;intro ac T
  refine Zgq T 6 127 Z (fun _=>(rn_sub Z (T.e 0 Z) evc (by omega))) ?_;intro ac T
  refine Zgq T 7 255 Z (fun _=>(Zri (size:=1) k Z (T.e 2 Z) (T.e 0 Z) ⟨_,Try.underlying28,by kernel_rfl⟩ (by omega) (by omega) (SG.at0 (by omega)))) ?_;intro ac T
  refine gq T 8 511 Z (fun B w' hD hl hS=>(rn_cell (Sp.ic0 SG (show Mem w noEx w' _ from hS) (Zz9 _) hkx) Z (T.e 0 Z))) ?_;intro ac T
  refine Zgq T 9 1023 Z (fun _=>(rn_neq Z (T.e 5 Z) (T.e 0 Z))) ?_;intro ac T
  refine Zgd (by kernel_rfl) ?_
  replace T:=T.pick [0,11,12,13] rfl
  refine nm_then ?_
  refine wp_ifn (T.e 0 Z) ?_ ?_
  ·intro h2
   refine wp_region_lit ?_
   refine Zg2 T (Zq (Zrm Z (T.e 2 Z))) Z (fun _ T=>Zq (rn_add Z (T.e 0 Z) evc (by omega))) Z ?_;intro ac T
   refine l_q (v:=(Zi (n9+1))) (T.pick [0,1,2,3,5] Z) Z Z Z Z (Zra Z (T.e 0 Z)) ?_;intro ac T
   refine wpList_nil ?_
   replace T:=T.pick [0,4,5] rfl
   refine Znb ?_
   refine nm_then ?_
   refine wp_region_lit ?_
   refine Zg2 T (Zq (Zrm Z (T.e 2 Z))) Z (fun _ T=>Zq (rn_add Z (T.e 0 Z) evc (by omega))) Z ?_;intro ac T
   refine l_q (v:=(Zi (((k:Int)+1)+1))) (T.pick [0,1,2,3] Z) Z Z Z Z (Zra Z (T.e 0 Z)) ?_;intro ac T
   replace T:=T.pick [0,3,4] rfl
   refine Zln ?_
   exact ⟨_,by omega,k+1,(n9+1),Z,(by omega),(by rw [htk,hn];(try split) <;> simp_all),T.pick [2,1,0] Z,M.mask [] Z⟩
  intro h2
  refine wp_skip ?_
  refine Znb ?_
  refine nm_then ?_
  refine wp_region_lit ?_
  refine Zg2 T (Zq (Zrm Z (T.e 3 Z))) Z (fun _ T=>Zq (rn_add Z (T.e 0 Z) evc (by omega))) Z ?_;intro ac T
  refine l_q (v:=(Zi (((k:Int)+1)+1))) (T.pick [0,1,2,3,4] Z) Z Z Z Z (Zra Z (T.e 0 Z)) ?_;intro ac T
  replace T:=T.pick [0,4,5] rfl
  refine Zln ?_
  exact ⟨_,by omega,k+1,n9,Z,(by omega),(by rw [htk,hn];(try split) <;> simp_all),T.pick [1,2,0] Z,M.mask [] Z⟩
 intro h1
 rw [List.take_of_length_le (by omega)] at hn
 refine wp_exit ?_
 refine Zet ?_
 refine Zet ?_
 refine ex_hit ?_
 refine nm_then ?_
 refine Zsr ?_
 refine Zg2 T (Zq (Zrm Z (T.e 2 Z))) Z (Za 0 Z Z) Z ?_;intro ac T
 replace T:=T.pick [0] rfl
 refine Zln ?_
 refine wp_ret ?_
 refine rt_1 T Z (T.e 0 Z) ?_
 refine ⟨ret_int hn,M.below⟩
structure Pd where
 b:Bw
 A:Option Addr
 c:Nat
 D:Option Addr
 d:Nat
 P:Option Addr
 e:Nat
 l:List Nt
 s:Int
def pdcE (p:Pd):List Value:=[Zi p.b.full,Zi p.b.a0,Zi p.b.a1,.slice p.A p.b.cs.length p.c,.slice p.D p.b.ts.length p.d,.slice p.P p.l.length p.e,Zi p.s]
def pdc (l:List Pd):List Value:=l.flatMap pdcE
theorem pdc_length (l:List Pd):(pdc l).length=l.length * 7:=by
 induction l with
 | nil=>rfl
 | cons x l ih =>
  show (pdcE x++pdc l).length=_
  rw [Zx3,ih,Zx1]
  show 7+_=_
  omega
theorem pdc_get:∀ (l:List Pd) (k:Nat) {x:Pd},l[k]? = some x→∀ (i:Nat) (v:Value),(pdcE x)[i]? = some v→(pdc l)[k * 7+i]? = some v
 | [],k,x,h=>by simp at h
 | y::l,0,x,h=>by
  intro i v hv
  simp only [List.getElem?_cons_zero,Option.some.injEq] at h
  subst h
  show (pdcE y++pdc l)[0 * 7+i]? = some v
  rw [Nat.zero_mul,Zxa,List.getElem?_append_left (List.getElem?_eq_some_iff.1 hv).1]
  exact hv
 | y::l,k+1,x,h=>by
  intro i v hv
  have:=pdc_get l k (by simpa using h) i v hv
  show (pdcE y++pdc l)[(k+1) * 7+i]? = some v
  have e:(pdcE y).length=7:=rfl
  rw [List.getElem?_append_right (by rw [e];omega),e,show (k+1) * 7+i - 7=k * 7+i by omega]
  exact this
theorem pdc_snoc (l:List Pd) (p:Pd):pdc l++[Zi p.b.full,Zi p.b.a0,Zi p.b.a1,.slice p.A p.b.cs.length p.c,.slice p.D p.b.ts.length p.d,.slice p.P p.l.length p.e,Zi p.s]=pdc (l++[p]):=by simp [pdc,pdcE]
theorem pdc_next {l:List Pd} {k:Nat} (h:k < l.length):∃ x,l[k]? = some x∧l.drop k=x::l.drop (k+1):=⟨l[k],List.getElem?_eq_getElem h,List.drop_eq_getElem_cons h⟩
section
variable {w w':World} {ex:Nat→Prop} {I L:List (Nat×BA)} {n b o k:Nat} {A:Option Addr} {l:List Pd} {p:Pd}
theorem Sp.pdcA (S:Sp w ex I A n 7 b o (pdc l)) (M:Mem w ex w' L) (hI:I.Sublist L) (h:l[k]? = some p) (f:Nat) (v:Value) (hv:(pdcE p)[f]? = some v):w'.cell? ⟨b,o+k * 7+f,none⟩=some v:=by
 have:=S.cell w' L M hI _ _ (pdc_get l k h f v hv)
 rwa [← Nat.add_assoc] at this
theorem Sp.pdcR (S:Sp w ex I A n 7 b o (pdc l)) (M:Mem w ex w' L) (hI:I.Sublist L) (h:l[k]? = some p):w'.rangeAt b (o+k * 7) [Zi p.b.full,Zi p.b.a0,Zi p.b.a1,.slice p.A p.b.cs.length p.c,.slice p.D p.b.ts.length p.d,.slice p.P p.l.length p.e,Zi p.s]:=fun j v hv=>S.pdcA M hI h j v hv
end
def mkP (b:Bw) (A:Option Addr) (c:Nat) (D:Option Addr) (d:Nat) (P:Option Addr) (e:Nat) (l:List Nt) (s:Int):Pd:=⟨b,A,c,D,d,P,e,l,s⟩
structure NtGood (p:List Nt):Prop where
 n6:p.length≤6
 ok:∀ q∈p,(1≤q.sec∧q.sec≤20)∧0≤q.lo∧q.lo≤q.hi∧q.hi≤9
theorem pieceE_good {p:List Nt} (h:pieceE p=0):NtGood p:=by
 unfold pieceE at h
 split at h
 ·cases h
 ·refine ⟨by omega,?_⟩
  have:∀ (l:List Nt),ntsE l=0→∀ q∈l,ntE q=0:=fun l=>by
   induction l with
   | nil=>intro _ q hq;cases hq
   | cons x l ih =>
    intro h q hq
    unfold ntsE at h
    split at h
    ·rename_i h1
     rcases Zx7.1 hq with rfl | hq
     ·exact h1
     ·exact ih h q hq
    ·rename_i h1;exact absurd h h1
  intro q hq
  have h2:=this p h q hq
  unfold ntE at h2
  split at h2
  ·cases h2
  ·rename_i h3
   have:=chkR0 h2
   exact ⟨withinB_iff.1 (by simpa using h3),this.1,this.2.1,this.2.2⟩
structure BwAir (b:Bw):Prop where
 full:1≤b.full∧b.full≤200
 air:0≤b.a0∧b.a0≤b.a1∧b.a1≤b.full
theorem BwGood.airs {b:Bw} (h:BwGood b):BwAir b:=⟨h.full,h.air⟩
theorem secM {s q:Int} (hs:1≤s∧s≤20) (hq:0≤q∧q≤29):0≤s * q∧s * q≤580 :=
 ⟨Int.mul_nonneg (by omega) hq.1,by
  have h1:=Int.mul_le_mul hs.2 hq.2 hq.1 (by omega)
  omega⟩
def lv1 (w:Int) (r:Int×Int) (n:Nt) (s:Int):Int×Int:=(min (aft w r.1 (n.sec * (n.lo+s))) (aft w r.1 (n.sec * (n.hi+s))),max (aft w r.2 (n.sec * (n.lo+s))) (aft w r.2 (n.sec * (n.hi+s))))
def levs (s:Int):Int×Int→List Nt→List Int→List (Int×Int)
 | r,n::p,w::ws=>lv1 w r n s::levs s (lv1 w r n s) p ws
 | _,_,_=>[]
theorem levs_nil (s:Int) (r:Int×Int) (ws:List Int):levs s r [] ws=[]:=by unfold levs;rfl
def mustB (b:Bw) (p:List Nt) (g:List Int) (s:Int):Bool:=(levs s (b.a0,b.a1) p g).all fun y=>decide (0≤y.1) && decide (y.2≤b.full)
def alwB (b:Bw) (p:List Nt) (ss:List Int) (g:List Int):Bool:=ss.all (mustB b p g)
def FnI (F : FuncId) (g : Int → Int → Int) : Prop := ∃ fn, Try.prog.funcs[F]? = some fn ∧ (fn.name == "runtime.NumGoroutine") = false ∧ fn.body.isNone = false ∧
 ∀ (x y:Int) (w:World),(-1000000≤x∧x≤1000000∧-1000000≤y∧y≤1000000)→Calls Try.prog F ([]++[Value.int .i64 x,Value.int .i64 y]++[]).toArray w fun e w'=>e=.returned (Zi (g x y))∧Below w.heap.size w w'
def WorksPost (way:Int) (w:World) (e:Ending) (w':World):Prop:=∃ FA FR,e=.returned (.agg #[.func (.func FA) #[] [].toArray,.func (.func FR) #[] [].toArray])∧FnI FA (aft way)∧FnI FR (roomW way)∧Below w.heap.size w w'
theorem works_fn (way:Int) (w:World):Calls Try.prog 80 #[Zi way] w (WorksPost way w):=by
 refine Calls.mono (works_any way w) ?_
 rintro e w' ⟨rfl,hb⟩
 unfold worksV
 by_cases h:way=1
 ·rw [if_pos h]
  refine ⟨_,_,Z,⟨_,Try.func119,Z,Z,fun x y w hxy=>?_⟩,⟨_,Try.func120,Z,Z,fun x y w hxy=>?_⟩,hb⟩
  ·unfold aft;rw [if_pos h];exact works1_any x y w hxy
  ·unfold roomW;rw [if_pos h];exact works2_any x y w
 ·rw [if_neg h]
  refine ⟨_,_,Z,⟨_,Try.func121,Z,Z,fun x y w hxy=>?_⟩,⟨_,Try.func122,Z,Z,fun x y w hxy=>?_⟩,hb⟩
  ·unfold aft;rw [if_neg h];exact works3_any x y w hxy
  ·unfold roomW;rw [if_neg h];exact works4_any x y w hxy
def addS (ss:List Int) (s:Int):List Int:=if s∈ss then ss else ss++[s]
def sumsB (rest:List Int) (l:List L4):List Int:=l.foldl (fun ss x=>addS ss (totL x.l rest)) []
theorem sumsB_succ {rest:List Int} {l:List L4} {k:Nat} {x:L4} (h:l[k]? = some x):sumsB rest (l.take (k+1))=addS (sumsB rest (l.take k)) (totL x.l rest):=by
 unfold sumsB
 rw [List.take_add_one,h]
 simp
theorem addS_mem {ss:List Int} {s t:Int}:t∈addS ss s↔t∈ss∨t=s:=by
 unfold addS
 split
 ·constructor
  ·exact .inl
  ·rintro (h | rfl)
   ·exact h
   ·assumption
 ·simp
theorem sumsB_mem {rest:List Int} {t:Int}:∀ {l:List L4},t∈sumsB rest l↔∃ x∈l,totL x.l rest=t:=by
 have h:∀ (l:List L4) (ss:List Int),t∈l.foldl (fun ss x=>addS ss (totL x.l rest)) ss↔t∈ss∨∃ x∈l,totL x.l rest=t:=fun l=>by
  induction l with
  | nil=>intro ss;simp
  | cons x l ih =>
   intro ss
   rw [List.foldl_cons,ih,addS_mem]
   simp only [Zx7,exists_eq_or_imp]
   constructor
   ·rintro ((h | h) | h)
    ·exact .inl h
    ·exact .inr (.inl h.symm)
    ·exact .inr (.inr h)
   ·rintro (h | h | h)
    ·exact .inl (.inl h)
    ·exact .inl (.inr h.symm)
    ·exact .inr h
 intro l
 unfold sumsB
 rw [h]
 simp
theorem sumsB_len {rest:List Int}:∀ (l:List L4),(sumsB rest l).length≤l.length:=by
 have h:∀ (l:List L4) (ss:List Int),(l.foldl (fun ss x=>addS ss (totL x.l rest)) ss).length≤ss.length+l.length:=fun l=>by
  induction l with
  | nil=>intro ss;simp
  | cons x l ih =>
   intro ss
   rw [List.foldl_cons]
   refine Nat.le_trans (ih _) ?_
   unfold addS
   split <;> simp <;> omega
 intro l
 have:=h l []
 unfold sumsB
 simpa using this
def LevPost (l:List (Int×Int)) (w:World) (e:Ending) (w':World):Prop:=∃ A c I,e=.returned (.slice A l.length c)∧Cl 23 2 A l.length c (rc l) I∧Mem w noEx w' I
set_option maxHeartbeats 4000000 in
theorem levels_any (b:Bw) (A:Option Addr) (c:Nat) (D:Option Addr) (d:Nat) (p:List Nt) (P:Option Addr) (pc:Nat) (s:Int) (G:Option Addr) (n:Nat) (g:List Int)  (w:World) (hP9:Rd w w.heap.size 4 P p.length (ntc p)) (hG:Rd w w.heap.size 1 G g.length (ic g)) (hgp:NtGood p) (hgb:BwAir b) (hs:0≤s∧s≤20) (hgl:g.length=p.length)  :
   Calls Try.prog 92 #[.agg #[Zi b.full,Zi b.a0,Zi b.a1,.slice A b.cs.length c,.slice D b.ts.length d,.slice P p.length pc,Zi s],.slice G g.length n] w (LevPost (levs s (b.a0,b.a1) p g) w):=by
 obtain ⟨bP,oP,SP⟩:=Sp.old hP9
 obtain ⟨bG,oG,SG⟩:=Sp.old hG
 have hp6:=hgp.n6
 have hbf:=hgb.full
 have hba:=hgb.air
 refine Zpx noEx Try.func92 Z 76 Z [.agg #[Zi b.full,Zi b.a0,Zi b.a1,.slice A b.cs.length c,.slice D b.ts.length d,.slice P p.length pc,Zi s],.slice G g.length n] Z Z (Mem.init w _) ?_
 intro ac wc T M
 refine Zsr ?_
 refine Zl2 ?_
 refine Zob M T Z Z Z Z (T.e 0 Z) Z ?_;clear M T;intro g1 wc ac M T
 refine lq T (Zra Z evc) ?_;intro ac T
 replace T:=T.pick [1,3] rfl
 refine Zln ?_
 refine Zsr ?_
 refine Zg3 (v1:=(Zj g1)) (v2:=(.pointer (some ⟨g1,1,none⟩))) T (Zq (Zrg 0 Z (T.e 0 Z))) Z (Zf 1 0 Z Z) Z (Zr M 0 0 Z Z Z Z) Z ?_;intro ac T
 refine Zl2 ?_
 refine Zoa M T Z Z Z Z ?_;clear M T;intro g2 wc ac M T
 refine Zl2 ?_
 refine Zot M T Z Z (T.e 0 Z) (T.e 1 Z) Z .head Z Z ?_;clear M T;intro wc ac M T
 replace T:=T.pick [0,4,5] rfl
 refine Zln ?_
 refine Zsr ?_
 refine lq T (Zra Z evc) ?_;intro ac T
 refine Zln ?_
 refine wp_seq ?_
 refine Zsr ?_
 refine Zg4 (v1:=(.pointer (some ⟨g1,5,none⟩))) T (Zq (Zrg 5 Z (T.e 2 Z))) Z (Zo M 1 0 Z Z Z Z) Z (Zl Try.underlying44 0 Z Z) Z (fun _ T=>Zq (Zrm Z evc)) Z ?_;intro ac T
 replace T:=T.pick [0,1,2,4,5,6,7] rfl
 refine Zln ?_
 refine wp_block ?_
 refine wp_loop_n (fun mz ac wc=>∃ (k:Nat) (m0 m1:Int) (OL:List (Int×Int)) (A3:Option Addr) (c3:Nat) (Io:List (Nat×BA)),mz=p.length - k∧(k≤p.length)∧(levs s (b.a0,b.a1) p g=OL++levs s (m0,m1) (p.drop k) (g.drop k))∧(OL.length=k)∧((-(200+580 * (k:Int))≤m0∧m0≤200+580 * (k:Int))∧-(200+580 * (k:Int))≤m1∧m1≤200+580 * (k:Int))∧(Sl 23 2 (.slice A3 OL.length c3) OL.length (rc OL) Io)∧Tm ac 76 [(1,.slice G g.length n),(2,Zj g1),(5,Zj g2),(6,.slice A3 OL.length c3),(16,.slice P p.length pc),(17,Zi ((p.length:Nat):Int)),(18,Zi (k:Int))]∧Mem w noEx wc ((g2,.cells [Zi m0,Zi m1])::(g1,.cells [Zi b.full,Zi b.a0,Zi b.a1,.slice A b.cs.length c,.slice D b.ts.length d,.slice P p.length pc,Zi s])::Io)) ?_ ?_
 ·exact ⟨_,0,b.a0,b.a1,[],none,0,[],Z,(Nat.zero_le _),Z,Z,(by omega),(Sl.nil _ _),T.pick [6,5,4,3,2,1,0] Z,M.mask [true,true] Z⟩
 clear T M
 rintro mz ac wc ⟨k,m0,m1,OL,A3,c3,Io,hmm1,hk,hO,hOl,hB,hsl,T,M⟩
 refine Zsr ?_
 refine lq T (rn_lss Z (T.e 6 Z) (T.e 5 Z)) ?_;intro ac T
 refine Zln ?_
 refine wp_seq ?_
 refine wp_if (T.e 0 Z) ?_ ?_
 ·intro h1
  obtain ⟨q,hkq,hd⟩:=ntc_next (l:=p) (k:=k) (by omega)
  obtain ⟨wy,hky,hd2⟩:=ic_next (l:=g) (k:=k) (by omega)
  rw [hd,hd2,levs] at hO
  have hgq:=hgp.ok q (List.mem_of_getElem? hkq)
  have hm1:=secM (s:=q.sec) (q:=q.lo+s) (by omega) (by omega)
  have hm2:=secM (s:=q.sec) (q:=q.hi+s) (by omega) (by omega)
  refine Zsk ?_
  refine wp_seq ?_
  refine wp_block ?_
  refine Zsr ?_
  refine Zg3 (v3:=(.agg #[Zi q.sec,Zi q.lo,Zi q.hi,.bool q.rest])) T (Zq (Zrm Z (T.e 7 Z))) Z (fun _ T=>Zq (Zri (size:=4) k Z (T.e 6 Z) (T.e 8 Z) ⟨_,Try.underlying44,by kernel_rfl⟩ Z (by omega) (SP.at0 (by omega)))) Z (fun _ T=>Zq (rn_rowat (Sp.ntcR SP M (Zz9 _) hkq) Z (T.e 0 Z) Z)) Z ?_;intro ac T
  refine Zl2 ?_
  refine Zoa M T Z Z Z Z ?_;clear M T;intro g3 wc ac M T
  refine lq T (Zra Z (T.e 3 Z)) ?_;intro ac T
  refine Zl2 ?_
  refine Zot M T Z Z (T.e 1 Z) (T.e 2 Z) Z .head Z Z ?_;clear M T;intro wc ac M T
  replace T:=T.pick [0,1,6,7,8,9,10,11,12] rfl
  refine Zln ?_
  refine Zsr ?_
  refine Zg4 T (Zq (Zrm Z (T.e 2 Z))) Z (Zm 1 Z Z) Z (fun _ T=>Zq (Zri (size:=1) k Z (T.e 1 Z) (T.e 0 Z) ⟨_,Try.underlying28,by kernel_rfl⟩ Z (by omega) (SG.at0 (by omega)))) Z (fun _ T=>Zq (rn_cell (Sp.ic0 SG M (Zz9 _) hky) Z (T.e 0 Z))) Z ?_;intro ac T
  refine Zl2 ?_
  refine Zod T Z Z Z Z evf (.cons (T.e 0 Z) .nil) Try.func80 Z Z ?_
  refine Calls.mono (works_fn wy _) ?_
  clear T;rintro e wc ⟨FAu1,FRu1,rfl,hfau1,hfru1,hb⟩ ac T
  replace M:=M.call hb;clear hb
  obtain ⟨fau1,ha1u1,ha2u1,ha3u1,ha4u1⟩:=hfau1
  obtain ⟨fru1,hr1u1,hr2u1,hr3u1,hr4u1⟩:=hfru1
  refine Zg2 (v1:=(.func (.func FAu1) #[] [].toArray)) T (Zq (rn_field Z (T.e 0 Z) (by kernel_rfl))) Z (Za 0 Z Z) Z ?_;intro ac T
  replace T:=T.pick [0,8,9,10,11,12,13,14,15] rfl
  refine Zln ?_
  refine wp_seq ?_
  refine Zgs M (M.mask [true,true,true] Z) 20 (by kernel_rfl) Z (by kernel_rfl) ?_
  clear M;intro wc M
  refine Zgq (v:=(Zj g3)) T 0 1 Z (fun _=>(Zrg 0 Z (T.e 1 Z))) ?_;intro ac T
  refine gq T 1 3 Z (fun B w' hD hl hS=>(Zro (Mem.nth (show Mem w noEx w' _ from hS) 0 Z) Z (T.e 0 Z) Z)) ?_;intro ac T
  refine Zgq (v:=(.pointer (some ⟨g3,1,none⟩))) T 2 7 Z (fun _=>(Zrg 1 Z (T.e 3 Z))) ?_;intro ac T
  refine Zgq (v:=(.pointer (some ⟨g3,1,none⟩))) T 3 15 Z (fun _=>(Zrg 0 Z (T.e 0 Z))) ?_;intro ac T
  refine gq T 4 31 Z (fun B w' hD hl hS=>(Zro (Mem.nth (show Mem w noEx w' _ from hS) 0 Z) Z (T.e 0 Z) Z)) ?_;intro ac T
  refine Zgq (v:=(.pointer (some ⟨g1,6,none⟩))) T 5 63 Z (fun _=>(Zrg 6 Z (T.e 8 Z))) ?_;intro ac T
  refine gq T 6 127 Z (fun B w' hD hl hS=>(Zro (Mem.nth (show Mem w noEx w' _ from hS) 2 Z) Z (T.e 0 Z) Z)) ?_;intro ac T
  refine Zgq T 7 255 Z (fun _=>(rn_add Z (T.e 2 Z) (T.e 0 Z) (by omega))) ?_;intro ac T
  refine Zgq T 8 511 Z (fun _=>(rn_mul Z (T.e 6 Z) (T.e 0 Z) (by omega))) ?_;intro ac T
  refine Zgq (v:=(Zj g3)) T 9 1023 Z (fun _=>(Zrg 0 Z (T.e 10 Z))) ?_;intro ac T
  refine gq T 10 2047 Z (fun B w' hD hl hS=>(Zro (Mem.nth (show Mem w noEx w' _ from hS) 0 Z) Z (T.e 0 Z) Z)) ?_;intro ac T
  refine Zgq (v:=(.pointer (some ⟨g3,1,none⟩))) T 11 4095 Z (fun _=>(Zrg 1 Z (T.e 12 Z))) ?_;intro ac T
  refine Zgq (v:=(.pointer (some ⟨g3,2,none⟩))) T 12 8191 Z (fun _=>(Zrg 1 Z (T.e 0 Z))) ?_;intro ac T
  refine gq T 13 16383 Z (fun B w' hD hl hS=>(Zro (Mem.nth (show Mem w noEx w' _ from hS) 0 Z) Z (T.e 0 Z) Z)) ?_;intro ac T
  refine Zgq (v:=(.pointer (some ⟨g1,6,none⟩))) T 14 32767 Z (fun _=>(Zrg 6 Z (T.e 17 Z))) ?_;intro ac T
  refine gq T 15 65535 Z (fun B w' hD hl hS=>(Zro (Mem.nth (show Mem w noEx w' _ from hS) 2 Z) Z (T.e 0 Z) Z)) ?_;intro ac T
  refine Zgq T 16 131071 Z (fun _=>(rn_add Z (T.e 2 Z) (T.e 0 Z) (by omega))) ?_;intro ac T
  refine Zgq T 17 262143 Z (fun _=>(rn_mul Z (T.e 6 Z) (T.e 0 Z) (by omega))) ?_;intro ac T
  refine Zgq T 18 524287 Z (fun _=>(Zra Z (T.e 9 Z))) ?_;intro ac T
  refine Zgq T 19 1048575 Z (fun _=>(Zra Z (T.e 1 Z))) ?_;intro ac T
  refine Zgd (by kernel_rfl) ?_
  replace T:=T.pick [0,1,20,22,23,24,25,26,27,28] rfl
  replace M:=M.mask [false,true,true] rfl
  refine Zns ?_
  refine Zgs M (M.mask [false,true] Z) 24 (by kernel_rfl) Z (by kernel_rfl) ?_
  clear M;intro wc M
  refine g_addG 23 M ?_
  refine Zgq T 0 1 Z (fun _=>(Zrm Z (T.e 2 Z))) ?_;intro ac T
  refine Zgq (v:=(Zj g2)) T 1 3 Z (fun _=>(Zrg 0 Z (T.e 6 Z))) ?_;intro ac T
  refine gq T 2 7 Z (fun B w' hD hl hS=>(Zro (Mem.nth (show Mem w noEx w' _ from ((MA.lft hS) (hD.wait (i:=2) (m:=23) (by kernel_rfl) hl))) 0 Z) Z (T.e 0 Z) Z)) ?_;intro ac T
  refine Zgq T 3 15 Z (fun _=>(Zrm Z (T.e 4 Z))) ?_;intro ac T
  refine Zgq T 5 47 Z (fun _=>(Zrm Z (T.e 6 Z))) ?_;intro ac T
  refine Zgq (v:=(Zj g2)) T 6 111 Z (fun _=>(Zrg 0 Z (T.e 10 Z))) ?_;intro ac T
  refine gq T 7 239 Z (fun B w' hD hl hS=>(Zro (Mem.nth (show Mem w noEx w' _ from ((MA.lft hS) (hD.wait (i:=7) (m:=23) (by kernel_rfl) hl))) 0 Z) Z (T.e 0 Z) Z)) ?_;intro ac T
  refine Zgq T 8 495 Z (fun _=>(Zrm Z (T.e 7 Z))) ?_;intro ac T
  refine Zgq T 11 2543 Z (fun _=>(Zrm Z (T.e 10 Z))) ?_;intro ac T
  refine Zgq (v:=(.pointer (some ⟨g2,1,none⟩))) T 12 6639 Z (fun _=>(Zrg 1 Z (T.e 14 Z))) ?_;intro ac T
  refine gq T 13 14831 Z (fun B w' hD hl hS=>(Zro (Mem.nth (show Mem w noEx w' _ from ((MA.lft hS) (hD.wait (i:=13) (m:=23) (by kernel_rfl) hl))) 0 Z) Z (T.e 0 Z) Z)) ?_;intro ac T
  refine Zgq T 14 31215 Z (fun _=>(Zrm Z (T.e 12 Z))) ?_;intro ac T
  refine Zgq T 16 96751 Z (fun _=>(Zrm Z (T.e 14 Z))) ?_;intro ac T
  refine Zgq (v:=(.pointer (some ⟨g2,1,none⟩))) T 17 227823 Z (fun _=>(Zrg 1 Z (T.e 18 Z))) ?_;intro ac T
  refine gq T 18 489967 Z (fun B w' hD hl hS=>(Zro (Mem.nth (show Mem w noEx w' _ from ((MA.lft hS) (hD.wait (i:=18) (m:=23) (by kernel_rfl) hl))) 0 Z) Z (T.e 0 Z) Z)) ?_;intro ac T
  refine Zgq T 19 1014255 Z (fun _=>(Zrm Z (T.e 15 Z))) ?_;intro ac T
  refine gw 4 1014271 ?_;intro K hK
  refine Zod T Z Z Z Z (T.e 15 Z) (.cons (T.e 13 Z) (.cons (T.e 12 Z) .nil)) ha1u1 ha2u1 ha3u1 ?_
  refine Calls.mono (ha4u1 m0 (q.sec * (q.lo+s)) _ (by omega)) ?_
  clear T;rintro e wc ⟨rfl,hb⟩ ac T
  replace M:=M.call hb;clear hb
  refine Zso hK _ _ (MA.mk (fun _=>M.mask [true,true] Z) (M.mask [false,true] Z)) ?_;clear hK K
  refine gw 9 1014783 ?_;intro K hK
  refine Zod T Z Z Z Z (T.e 12 Z) (.cons (T.e 10 Z) (.cons (T.e 9 Z) .nil)) ha1u1 ha2u1 ha3u1 ?_
  refine Calls.mono (ha4u1 m0 (q.sec * (q.hi+s)) _ (by omega)) ?_
  clear T;rintro e wc ⟨rfl,hb⟩ ac T
  replace M:=M.call hb;clear hb
  refine Zso hK _ _ (MA.mk (fun _=>M.mask [true,true] Z) (M.mask [false,true] Z)) ?_;clear hK K
  refine Zgq T 10 1015807 Z (fun _=>(rn_min2 Z (T.e 1 Z) (T.e 0 Z))) ?_;intro ac T
  refine gw 15 1048575 ?_;intro K hK
  refine Zod T Z Z Z Z (T.e 10 Z) (.cons (T.e 8 Z) (.cons (T.e 7 Z) .nil)) ha1u1 ha2u1 ha3u1 ?_
  refine Calls.mono (ha4u1 m1 (q.sec * (q.lo+s)) _ (by omega)) ?_
  clear T;rintro e wc ⟨rfl,hb⟩ ac T
  replace M:=M.call hb;clear hb
  refine Zso hK _ _ (MA.mk (fun _=>M.mask [true,true] Z) (M.mask [false,true] Z)) ?_;clear hK K
  refine gw 20 2097151 ?_;intro K hK
  refine Zod T Z Z Z Z (T.e 7 Z) (.cons (T.e 5 Z) (.cons (T.e 4 Z) .nil)) ha1u1 ha2u1 ha3u1 ?_
  refine Calls.mono (ha4u1 m1 (q.sec * (q.hi+s)) _ (by omega)) ?_
  clear T;rintro e wc ⟨rfl,hb⟩ ac T
  replace M:=M.call hb;clear hb
  refine Zso hK _ _ (MA.mk (fun _=>M.mask [true,true] Z) (M.mask [false,true] Z)) ?_;clear hK K
  refine Zgq T 21 4194303 Z (fun _=>(rn_max2 Z (T.e 1 Z) (T.e 0 Z))) ?_;intro ac T
  refine Zgq (v:=(.agg #[Zi (min (aft wy m0 (q.sec * (q.lo+s))) (aft wy m0 (q.sec * (q.hi+s)))),Zi (max (aft wy m1 (q.sec * (q.lo+s))) (aft wy m1 (q.sec * (q.hi+s))))])) T 22 8388607 Z (fun _=>(rn_build Z (.cons (T.e 3 Z) (.cons (T.e 0 Z) .nil)) (fun _=>by kernel_rfl))) ?_;intro ac T
  refine gw 23 16777215 ?_;intro K hK
  refine Zot M T Z Z (T.e 28 Z) (T.e 0 Z) Z .head Z Z ?_;clear M T;intro wc ac M T
  refine Zso hK _ _ (MA.mk (fun h=>(no_of (by kernel_rfl) h).elim) (M.mask [false,true] Z)) ?_;clear hK K
  refine Zgd (by kernel_rfl) ?_
  replace T:=T.pick [26,27,28,29,30,31,32] rfl
  refine nm_then ?_
  refine wp_region_lit ?_
  refine Zg2 T (Zq (Zrm Z (T.e 3 Z))) Z (Zr M 0 3 Z Z Z Z) Z ?_;intro ac T
  refine Zl2 ?_
  refine ow_bs (e:=23) [Zi (min (aft wy m0 (q.sec * (q.lo+s))) (aft wy m0 (q.sec * (q.hi+s)))),Zi (max (aft wy m1 (q.sec * (q.lo+s))) (aft wy m1 (q.sec * (q.hi+s))))] M T Z Z Z Z (.cons (T.e 0 Z) .nil) (fun _=>by kernel_rfl) ?_;clear M T;intro g4 wc ac M T
  refine Zl2 ?_
  refine ow_app ([(g4,.cells [Zi (min (aft wy m0 (q.sec * (q.lo+s))) (aft wy m0 (q.sec * (q.hi+s)))),Zi (max (aft wy m1 (q.sec * (q.lo+s))) (aft wy m1 (q.sec * (q.hi+s))))]),(g2,.cells [Zi (min (aft wy m0 (q.sec * (q.lo+s))) (aft wy m0 (q.sec * (q.hi+s)))),Zi (max (aft wy m1 (q.sec * (q.lo+s))) (aft wy m1 (q.sec * (q.hi+s))))]),(g1,.cells [Zi b.full,Zi b.a0,Zi b.a1,.slice A b.cs.length c,.slice D b.ts.length d,.slice P p.length pc,Zi s])]) Try.info23 hsl M (by first | rfl | simp) T Z Z Z Z Try.underlying24 Z Z Z (by omega) (T.e 2 Z) (T.e 0 Z) (Zne (i:=0) Z) Z Z ?_;clear M T;intro ga1 cga1 wc ac M T
  refine l_q (v:=(.slice (some ⟨ga1,0,none⟩) (OL.length+1) cga1)) (T.pick [0,1,2,3,4,5,6,8,9,10] Z) Z Z Z Z (Zra Z (T.e 0 Z)) ?_;intro ac T
  refine wpList_nil ?_
  replace T:=T.pick [0,5,6,7,8,9,10] rfl
  replace M:=M.mask [true,false,true,true] rfl
  refine Znb ?_
  refine nm_then ?_
  refine wp_region_lit ?_
  refine lq T (rn_add Z (T.e 6 Z) evc (by omega)) ?_;intro ac T
  refine l_q (v:=(Zi ((k:Int)+1))) (T.pick [0,1,2,3,4,5,6] Z) Z Z Z Z (Zrm Z (T.e 0 Z)) ?_;intro ac T
  replace T:=T.pick [0,2,3,4,5,6,7] rfl
  refine Zln ?_
  have hlv:lv1 wy (m0,m1) q s=((min (aft wy m0 (q.sec * (q.lo+s))) (aft wy m0 (q.sec * (q.hi+s)))),(max (aft wy m1 (q.sec * (q.lo+s))) (aft wy m1 (q.sec * (q.hi+s))))):=rfl
  have e9:OL.length+1=(OL++[((min (aft wy m0 (q.sec * (q.lo+s))) (aft wy m0 (q.sec * (q.hi+s)))),(max (aft wy m1 (q.sec * (q.lo+s))) (aft wy m1 (q.sec * (q.hi+s)))))]).length:=by simp
  have e8:((rc OL)++[Zi (min (aft wy m0 (q.sec * (q.lo+s))) (aft wy m0 (q.sec * (q.hi+s)))),Zi (max (aft wy m1 (q.sec * (q.lo+s))) (aft wy m1 (q.sec * (q.hi+s))))])=rc (OL++[((min (aft wy m0 (q.sec * (q.lo+s))) (aft wy m0 (q.sec * (q.hi+s)))),(max (aft wy m1 (q.sec * (q.lo+s))) (aft wy m1 (q.sec * (q.hi+s)))))]):=by rw [← rc_snoc]
  rw [e9,e8] at M
  rw [e9] at T
  clear e9 e8
  exact ⟨_,by omega,k+1,(min (aft wy m0 (q.sec * (q.lo+s))) (aft wy m0 (q.sec * (q.hi+s)))),(max (aft wy m1 (q.sec * (q.lo+s))) (aft wy m1 (q.sec * (q.hi+s)))),(OL++[((min (aft wy m0 (q.sec * (q.lo+s))) (aft wy m0 (q.sec * (q.hi+s)))),(max (aft wy m1 (q.sec * (q.lo+s))) (aft wy m1 (q.sec * (q.hi+s)))))]),_,_,[(ga1,.row 23 2 (OL++[((min (aft wy m0 (q.sec * (q.lo+s))) (aft wy m0 (q.sec * (q.hi+s)))),(max (aft wy m1 (q.sec * (q.lo+s))) (aft wy m1 (q.sec * (q.hi+s)))))]).length (rc (OL++[((min (aft wy m0 (q.sec * (q.lo+s))) (aft wy m0 (q.sec * (q.hi+s)))),(max (aft wy m1 (q.sec * (q.lo+s))) (aft wy m1 (q.sec * (q.hi+s)))))])) cga1)],Z,(by omega),(by rw [← hlv,List.append_assoc];exact hO),(by simp [hOl]),(by unfold aft;push_cast;split <;> omega),(Sl.row _ _ _ _ _ _),T.pick [2,3,4,1,5,6,0] Z,((M.permT [1,2,0] 3 Z Z Z Z).sub (Zsl ([(g2,.cells [Zi (min (aft wy m0 (q.sec * (q.lo+s))) (aft wy m0 (q.sec * (q.hi+s)))),Zi (max (aft wy m1 (q.sec * (q.lo+s))) (aft wy m1 (q.sec * (q.hi+s))))]),(g1,.cells [Zi b.full,Zi b.a0,Zi b.a1,.slice A b.cs.length c,.slice D b.ts.length d,.slice P p.length pc,Zi s]),(ga1,.row 23 2 (OL++[((min (aft wy m0 (q.sec * (q.lo+s))) (aft wy m0 (q.sec * (q.hi+s)))),(max (aft wy m1 (q.sec * (q.lo+s))) (aft wy m1 (q.sec * (q.hi+s)))))]).length (rc (OL++[((min (aft wy m0 (q.sec * (q.lo+s))) (aft wy m0 (q.sec * (q.hi+s)))),(max (aft wy m1 (q.sec * (q.lo+s))) (aft wy m1 (q.sec * (q.hi+s)))))])) cga1)]:List (Nat×BA)) _))⟩
 intro h1
 rw [List.drop_of_length_le (l:=p) (by omega),levs_nil,Zx4] at hO
 refine wp_exit ?_
 refine Zet ?_
 refine Zet ?_
 refine ex_hit ?_
 refine nm_then ?_
 refine Zsr ?_
 refine Zg2 T (Zq (Zrm Z (T.e 4 Z))) Z (Za 0 Z Z) Z ?_;intro ac T
 refine wpList_nil ?_
 replace T:=T.pick [0] rfl
 replace M:=M.mask [false,false] rfl
 refine Znr ?_
 refine rt_1 T Z (T.e 0 Z) ?_
 obtain ⟨Aq,cq,hq,hCq⟩:=sl_cl hsl
 injection hq with hq1 _ hq2
 subst hq1 hq2
 rw [hO]
 exact ⟨_,_,Io,Z,hCq,M.mask [] Z⟩
theorem levs_len (s:Int):∀ (r:Int×Int) (p:List Nt) (g:List Int),(levs s r p g).length≤p.length
 | _,[],_=>by rw [levs_nil];simp
 | _,_::_,[]=>by unfold levs;simp
 | r,n::p,w::ws=>by
  unfold levs
  have:=levs_len s (lv1 w r n s) p ws
  simp only [Zx1]
  omega
theorem must_any (b:Bw) (A:Option Addr) (c:Nat) (D:Option Addr) (d:Nat) (p:List Nt) (P:Option Addr) (pc:Nat) (s:Int) (G:Option Addr) (n:Nat) (g:List Int)  (w:World) (hP9:Rd w w.heap.size 4 P p.length (ntc p)) (hG:Rd w w.heap.size 1 G g.length (ic g)) (hgp:NtGood p) (hgb:BwAir b) (hs:0≤s∧s≤20) (hgl:g.length=p.length)  :
   Calls Try.prog 130 #[.agg #[Zi b.full,Zi b.a0,Zi b.a1,.slice A b.cs.length c,.slice D b.ts.length d,.slice P p.length pc,Zi s],.slice G g.length n] w fun e w'=>e=.returned (.bool (mustB b p g s))∧Below w.heap.size w w':=by
 obtain ⟨bP,oP,SP⟩:=Sp.old hP9
 obtain ⟨bG,oG,SG⟩:=Sp.old hG
 refine Zpx noEx Try.func130 Z 27 Z [.agg #[Zi b.full,Zi b.a0,Zi b.a1,.slice A b.cs.length c,.slice D b.ts.length d,.slice P p.length pc,Zi s],.slice G g.length n] Z Z (Mem.init w _) ?_
 intro ac wc T M
 refine Zsr ?_
 refine Zl2 ?_
 refine Zob M T Z Z Z Z (T.e 0 Z) Z ?_;clear M T;intro g1 wc ac M T
 refine lq T (Zra Z evc) ?_;intro ac T
 replace T:=T.pick [1,3] rfl
 refine Zln ?_
 refine wp_seq ?_
 refine Zsr ?_
 refine Zg2 T (Zq (Zrr (Mem.nth M 0 Z) Z (T.e 0 Z) Z)) Z (Zm 2 Z Z) Z ?_;intro ac T
 refine Zl2 ?_
 refine Zod T Z Z Z Z evf (.cons (T.e 1 Z) (.cons (T.e 0 Z) .nil)) Try.func92 Z Z ?_
 refine Calls.mono (levels_any b A c D d p P pc s G n g _ (SP.rd M (Zz9 _)) (SG.rd M (Zz9 _)) hgp hgb (by omega) hgl) ?_
 clear T;rintro e wc ⟨Acu1,ccu1,Icu1,rfl,hclu1,N⟩ ac T
 obtain ⟨rlu1,hrlu1⟩:∃ q,q=levs s (b.a0,b.a1) p g:=⟨_,rfl⟩
 rw [← hrlu1] at hclu1 T
 obtain ⟨bRu1,oRu1,SRu1⟩:=hclu1.spV (rc_length _)
 replace SRu1:=SRu1 w noEx
 replace M:=(M.join N).swapI
 clear N
 replace M:Mem w noEx wc ((g1,.cells [Zi b.full,Zi b.a0,Zi b.a1,.slice A b.cs.length c,.slice D b.ts.length d,.slice P p.length pc,Zi s])::Icu1):=M
 refine Zg2 T (Zq (Zrl Z Try.underlying24 (T.e 0 Z))) Z (fun _ T=>Zq (Zrm Z evc)) Z ?_;intro ac T
 replace T:=T.pick [0,1,2,5] rfl
 refine Zln ?_
 refine wp_block ?_
 obtain ⟨MB,hMB⟩:∃ q:Int×Int→Bool,q=fun y:Int×Int=>decide (0≤y.1) && decide (y.2≤b.full):=⟨_,rfl⟩
 have hr6:rlu1.length≤6:=by rw [hrlu1];exact Nat.le_trans (levs_len _ _ _ _) hgp.n6
 refine wp_loop_n (fun mz ac wc=>∃ (k:Nat),mz=rlu1.length - k∧(k≤rlu1.length)∧(rlu1.all MB=(rlu1.drop k).all MB)∧Tm ac 27 [(2,Zj g1),(9,.slice Acu1 rlu1.length ccu1),(10,Zi ((rlu1.length:Nat):Int)),(11,Zi (k:Int))]∧Mem w noEx wc ((g1,.cells [Zi b.full,Zi b.a0,Zi b.a1,.slice A b.cs.length c,.slice D b.ts.length d,.slice P p.length pc,Zi s])::Icu1)) ?_ ?_
 ·exact ⟨_,0,Z,(Nat.zero_le _),Z,T.pick [3,2,1,0] Z,M.mask [true] Z⟩
 clear T M
 rintro mz ac wc ⟨k,hmm1,hk,H,T,M⟩
 refine Zsr ?_
 refine lq T (rn_lss Z (T.e 3 Z) (T.e 2 Z)) ?_;intro ac T
 refine Zln ?_
 refine wp_seq ?_
 refine wp_if (T.e 0 Z) ?_ ?_
 ·intro h1
  obtain ⟨y0,y1,hky,hd⟩:=rc_next (l:=rlu1) (k:=k) (by omega)
  rw [hd,List.all_cons] at H
  refine Zsk ?_
  refine wp_seq ?_
  refine wp_block ?_
  refine Zsr ?_
  refine Zg2 (v2:=(.agg #[Zi y0,Zi y1])) T (Zq (Zri (size:=2) k Z (T.e 2 Z) (T.e 4 Z) ⟨_,Try.underlying24,by kernel_rfl⟩ Z (by omega) (SRu1.at0 (by omega)))) Z (fun _ T=>Zq (rn_rowat (Sp.rcR SRu1 M (.cons _ (List.Sublist.refl _)) hky) Z (T.e 0 Z) Z)) Z ?_;intro ac T
  refine Zl2 ?_
  refine Zoa M T Z Z Z Z ?_;clear M T;intro g2 wc ac M T
  refine Zl2 ?_
  refine Zot M T Z Z (T.e 0 Z) (T.e 1 Z) Z .head Z Z ?_;clear M T;intro wc ac M T
  replace T:=T.pick [0,4,5,6,7] rfl
  refine Zln ?_
  refine cut_seq (fun ac wc=>Tm ac 27 [(2,Zj g1),(9,.slice Acu1 rlu1.length ccu1),(10,Zi ((rlu1.length:Nat):Int)),(11,Zi (k:Int)),(25,.bool ((decide (y0 < 0)) || (decide (b.full < y1))))]∧Mem w noEx wc ((g1,.cells [Zi b.full,Zi b.a0,Zi b.a1,.slice A b.cs.length c,.slice D b.ts.length d,.slice P p.length pc,Zi s])::Icu1)) ?_ ?_
  ·refine wp_region_lit ?_
   refine Zg4 (v1:=(Zj g2)) T (Zq (Zrg 0 Z (T.e 0 Z))) Z (Zo M 0 0 Z Z Z Z) Z (fun _ T=>Zq (rn_lss Z (T.e 0 Z) evc)) Z (Zm 0 Z Z) Z ?_;intro ac T
   rcases Zx9 (decide (y0 < 0)) with h2 | h2
   ·replace h2:=of_decide_eq_true h2
    refine Zg7 T (Zp (Zwn Z Z (T.e 0 Z) (Zdt h2))) Z (fun _ T=>Zp (Zwn Z Z (T.e 1 Z) (Zdt h2))) Z (fun _ T=>Zp (Zwn Z Z (T.e 2 Z) (Zdt h2))) Z (fun _ T=>Zp (Zwn Z Z (T.e 3 Z) (Zdt h2))) Z (fun _ T=>Zp (Zwn Z Z (T.e 4 Z) (Zdt h2))) Z (fun _ T=>Zp (Zwn Z Z (T.e 5 Z) (Zdt h2))) Z (fun _ T=>Zq (Zr1 Z (T.e 6 Z) (Zdt h2) evc)) Z ?_;intro ac T
    refine wpList_nil ?_
    replace T:=T.pick [0,1,2,3,4,5,6,12,13,14,15] rfl
    replace M:=M.mask [false,true] rfl
    exact ⟨(T.pick (E':=[(2,Zj g1),(9,.slice Acu1 rlu1.length ccu1),(10,Zi ((rlu1.length:Nat):Int)),(11,Zi (k:Int)),(25,.bool true)]) [7,8,9,10,0] Z).as (by (try rw [show (decide (y0 < 0))=true from (Zdt h2)]);(try rfl)),M.mask [true] Z⟩
   replace h2:=of_decide_eq_false h2
   refine Zg7 (v1:=(.pointer (some ⟨g2,1,none⟩))) (v3:=(Zj g1)) (v4:=(Zj g1)) T (Zw (Zwy Z Z (T.e 0 Z) (Zdf h2)) (Zrg 1 Z (T.e 4 Z))) Z (fun _ T=>Zw (Zwy Z Z (T.e 1 Z) (Zdf h2)) (Zro (Mem.nth M 0 Z) Z (T.e 0 Z) Z)) Z (fun _ T=>Zw (Zwy Z Z (T.e 2 Z) (Zdf h2)) (Zrg 0 Z (T.e 7 Z))) Z (fun _ T=>Zw (Zwy Z Z (T.e 3 Z) (Zdf h2)) (Zrg 0 Z (T.e 0 Z))) Z (fun _ T=>Zw (Zwy Z Z (T.e 4 Z) (Zdf h2)) (Zro (Mem.nth M 1 Z) Z (T.e 0 Z) Z)) Z (fun _ T=>Zw (Zwy Z Z (T.e 5 Z) (Zdf h2)) (rn_gtr Z (T.e 3 Z) (T.e 0 Z))) Z (fun _ T=>Zq (Zr0 Z (T.e 6 Z) (Zdf h2) (T.e 0 Z))) Z ?_;intro ac T
   refine wpList_nil ?_
   replace T:=T.pick [0,1,2,3,4,5,6,12,13,14,15] rfl
   exact ⟨(T.pick (E':=[(2,Zj g1),(9,.slice Acu1 rlu1.length ccu1),(10,Zi ((rlu1.length:Nat):Int)),(11,Zi (k:Int)),(25,.bool (decide (b.full < y1)))]) [7,8,9,10,0] Z).as (by (try rw [show (decide (y0 < 0))=false from (Zdf h2)]);(try rfl)),M.mask [false,true] Z⟩
  clear T M
  rintro ac wc ⟨T,M⟩
  refine wp_cond_split (T.e 4 Z) ?_ ?_
  ·intro h3
   (have h3':=h3;try simp only [Zb1,Zb2,Zb3,Zb4,Zb5,Zb6,Zb7] at h3')
   refine Zsr ?_
   refine lq T (Zra Z evc) ?_;intro ac T
   refine wpList_nil ?_
   replace T:=T.pick [0] rfl
   replace M:=M.mask [false] rfl
   refine Znr ?_
   refine Zrb ?_
   refine Zrt ?_
   refine Zrt ?_
   refine Zrb ?_
   refine Zrt ?_
   refine rt_1 T Z (T.e 0 Z) ?_
   rw [show MB (y0,y1)=false by rw [hMB];dsimp only;rw [Bool.and_eq_false_iff,decide_eq_false_iff_not,decide_eq_false_iff_not];omega,Bool.false_and] at H
   refine ⟨ret_bool ?_,M.below⟩
   unfold mustB
   rw [← hrlu1,← hMB,H]
  intro h3
  (have h3':=h3;try simp only [Zb1,Zb2,Zb3,Zb4,Zb5,Zb6,Zb7] at h3')
  refine wp_skip ?_
  refine Znb ?_
  refine nm_then ?_
  refine wp_region_lit ?_
  refine lq T (rn_add Z (T.e 3 Z) evc (by omega)) ?_;intro ac T
  refine l_q (v:=(Zi ((k:Int)+1))) (T.pick [0,1,2,3,5] Z) Z Z Z Z (Zrm Z (T.e 0 Z)) ?_;intro ac T
  replace T:=T.pick [0,2,3,4] rfl
  refine Zln ?_
  rw [show MB (y0,y1)=true by rw [hMB];dsimp only;rw [Bool.and_eq_true,decide_eq_true_eq,decide_eq_true_eq];omega,Bool.true_and] at H
  exact ⟨_,by omega,k+1,Z,(by omega),H,T.pick [1,2,3,0] Z,M.mask [true] Z⟩
 intro h1
 rw [List.drop_of_length_le (by omega),List.all_nil] at H
 refine wp_exit ?_
 refine Zet ?_
 refine Zet ?_
 refine ex_hit ?_
 refine nm_then ?_
 refine Zsr ?_
 refine lq T (Zra Z evc) ?_;intro ac T
 refine wpList_nil ?_
 replace T:=T.pick [0] rfl
 replace M:=M.mask [false] rfl
 refine Znr ?_
 refine rt_1 T Z (T.e 0 Z) ?_
 refine ⟨ret_bool ?_,M.below⟩
 unfold mustB
 rw [← hrlu1,← hMB,H]
theorem always1_any (b:Bw) (A:Option Addr) (c:Nat) (D:Option Addr) (d:Nat) (p:List Nt) (P:Option Addr) (pc:Nat) (s:Int) (G:Option Addr) (n:Nat) (g:List Int) (gw:Nat)  (w:World) (hP9:Rd w w.heap.size 4 P p.length (ntc p)) (hG:Rd w w.heap.size 1 G g.length (ic g)) (hgp:NtGood p) (hgb:BwAir b) (hs:0≤s∧s≤20) (hgl:g.length=p.length) (q1:Bk w gw #[.slice G g.length n])  :
  Calls Try.prog 129 #[.agg #[Zi b.full,Zi b.a0,Zi b.a1,.slice A b.cs.length c,.slice D b.ts.length d,.slice P p.length pc,Zi s],Zj gw] w fun e w'=>e=.returned (.bool (!mustB b p g s))∧Below w.heap.size w w':=by
 obtain ⟨bP,oP,SP⟩:=Sp.old hP9
 obtain ⟨bG,oG,SG⟩:=Sp.old hG
 refine Zpx noEx Try.func129 Z 8 Z [.agg #[Zi b.full,Zi b.a0,Zi b.a1,.slice A b.cs.length c,.slice D b.ts.length d,.slice P p.length pc,Zi s],Zj gw] Z Z (Mem.init w _) ?_
 intro ac wc T M
 refine Zsr ?_
 refine Zl2 ?_
 refine Zob M T Z Z Z Z (T.e 0 Z) Z ?_;clear M T;intro g1 wc ac M T
 refine lq T (Zra Z evc) ?_;intro ac T
 replace T:=T.pick [1,3] rfl
 refine Zln ?_
 refine Zsr ?_
 refine Zg2 T (Zq (Zrr (Mem.nth M 0 Z) Z (T.e 0 Z) Z)) Z (fun _ T=>Zq (Zro (Mem.old M q1 (fun h=>h)) Z (T.e 2 Z) Z)) Z ?_;intro ac T
 refine Zl2 ?_
 refine Zod T Z Z Z Z evf (.cons (T.e 1 Z) (.cons (T.e 0 Z) .nil)) Try.func130 Z Z ?_
 refine Calls.mono (must_any b A c D d p P pc s G n g _ (SP.rd M (Zz9 _)) (SG.rd M (Zz9 _)) hgp hgb (by omega) hgl) ?_
 clear T;rintro e wc ⟨rfl,hb⟩ ac T
 replace M:=M.call hb;clear hb
 refine Zg2 T (Zq (rn_not Z (T.e 0 Z))) Z (Za 0 Z Z) Z ?_;intro ac T
 refine wpList_nil ?_
 replace T:=T.pick [0] rfl
 replace M:=M.mask [false] rfl
 refine Znr ?_
 refine rt_1 T Z (T.e 0 Z) ?_
 exact ⟨rfl,M.below⟩
theorem indexF_any (F : FuncId) (fn : Func) (cap : List Value) (pr : Pd → Bool) (l : List Pd) (B : Option Addr) (lc : Nat)  (w : World) (hL : Rd w w.heap.size 7 B l.length (pdc l)) (nL : l.length ≤ 1000000) (hF1 : Try.prog.funcs[F]? = some fn) (hF2 : (fn.name == "runtime.NumGoroutine") = false) (hF3 : fn.body.isNone = false) (hF : ∀ x ∈ l, ∀ w1, Below w.heap.size w w1 → Calls Try.prog F ([] ++ [(.agg #[Zi x.b.full, Zi x.b.a0, Zi x.b.a1, .slice x.A x.b.cs.length x.c, .slice x.D x.b.ts.length x.d, .slice x.P x.l.length x.e, Zi x.s] : Value)] ++ cap).toArray w1 fun e w2 => e = .returned (.bool (pr x)) ∧ Below w1.heap.size w1 w2)  :
   Calls Try.prog 144 #[.slice B l.length lc,.func (.func F) #[] cap.toArray] w fun e w'=>∃ k:Int,e=.returned (Zi k)∧(0≤k↔l.any pr=true)∧Below w.heap.size w w':=by
 obtain ⟨bL,oL,SL⟩:=Sp.old hL
 refine Zpx noEx Try.func144 Z 19 Z [.slice B l.length lc,.func (.func F) #[] cap.toArray] Z Z (Mem.init w _) ?_
 intro ac wc T M
 refine Zsr ?_
 refine lq T (Zra Z evc) ?_;intro ac T
 replace T:=T.pick [1,2] rfl
 refine Zln ?_
 refine wp_seq ?_
 refine Zsr ?_
 refine Zg3 T (Zq (Zrm Z (T.e 0 Z))) Z (Zl Try.underlying115 0 Z Z) Z (fun _ T=>Zq (Zrm Z evc)) Z ?_;intro ac T
 replace T:=T.pick [0,1,3,4] rfl
 refine Zln ?_
 refine wp_block ?_
 refine wp_loop_n (fun mz ac wc=>∃ (k:Nat),mz=l.length - k∧(k≤l.length)∧(l.any pr=(l.drop k).any pr)∧Tm ac 19 [(0,.slice B l.length lc),(1,.func (.func F) #[] cap.toArray),(7,Zi ((l.length:Nat):Int)),(8,Zi (k:Int))]∧Mem w noEx wc []) ?_ ?_
 ·exact ⟨_,0,Z,(Nat.zero_le _),Z,T.pick [2,3,1,0] Z,M.mask [] Z⟩
 clear T M
 rintro mz ac wc ⟨k,hmm1,hk,H,T,M⟩
 refine Zsr ?_
 refine lq T (rn_lss Z (T.e 3 Z) (T.e 2 Z)) ?_;intro ac T
 refine Zln ?_
 refine wp_seq ?_
 refine wp_if (T.e 0 Z) ?_ ?_
 ·intro h1
  obtain ⟨x,hkx,hd⟩:=pdc_next (l:=l) (k:=k) (by omega)
  rw [hd,List.any_cons] at H
  refine Zsk ?_
  refine wp_seq ?_
  refine wp_block ?_
  refine Zsr ?_
  refine Zg2 T (Zq (Zrm Z (T.e 4 Z))) Z (Za 0 Z Z) Z ?_;intro ac T
  replace T:=T.pick [0,3,4,5,6] rfl
  refine Zln ?_
  refine Zsr ?_
  refine Zg5 (v5:=(.agg #[Zi x.b.full,Zi x.b.a0,Zi x.b.a1,.slice x.A x.b.cs.length x.c,.slice x.D x.b.ts.length x.d,.slice x.P x.l.length x.e,Zi x.s])) T (Zq (Zrm Z (T.e 2 Z))) Z (Zm 2 Z Z) Z (Zm 2 Z Z) Z (fun _ T=>Zq (Zri (size:=7) k Z (T.e 1 Z) (T.e 0 Z) ⟨_,Try.underlying115,by kernel_rfl⟩ Z (by omega) (SL.at0 (by omega)))) Z (fun _ T=>Zq (rn_rowat (Sp.pdcR SL M (Zz9 _) hkx) Z (T.e 0 Z) Z)) Z ?_;intro ac T
  refine Zl2 ?_
  refine Zoc (first:=[]) (cap:=cap) T Z Z Z Z (T.e 4 Z) (.cons (T.e 0 Z) .nil) hF1 hF2 hF3 ?_
  refine Calls.mono (hF x (List.mem_of_getElem? hkx) _ M.below) ?_
  clear T;rintro e wc ⟨rfl,hb⟩ ac T
  replace M:=M.call hb;clear hb
  replace T:=T.pick [0,6,7,8,9,10] rfl
  refine Zln ?_
  refine wp_cond_split (T.e 0 Z) ?_ ?_
  ·intro h2
   refine Zsr ?_
   refine Zg2 T (Zq (Zrm Z (T.e 1 Z))) Z (Za 0 Z Z) Z ?_;intro ac T
   replace T:=T.pick [0] rfl
   refine Zln ?_
   refine wp_ret ?_
   refine Zrb ?_
   refine Zrt ?_
   refine Zrt ?_
   refine Zrb ?_
   refine Zrt ?_
   refine rt_1 T Z (T.e 0 Z) ?_
   exact ⟨_,Z,⟨fun _=>by rw [H,show pr x=true by simp_all,Bool.true_or],fun _=>by omega⟩,M.below⟩
  intro h2
  refine wp_skip ?_
  refine Znb ?_
  refine nm_then ?_
  refine wp_region_lit ?_
  refine lq T (rn_add Z (T.e 5 Z) evc (by omega)) ?_;intro ac T
  refine l_q (v:=(Zi ((k:Int)+1))) (T.pick [0,1,2,3,4,5] Z) Z Z Z Z (Zrm Z (T.e 0 Z)) ?_;intro ac T
  replace T:=T.pick [0,4,5,6] rfl
  refine Zln ?_
  rw [show pr x=false by simp_all,Bool.false_or] at H
  exact ⟨_,by omega,k+1,Z,(by omega),H,T.pick [1,2,3,0] Z,M.mask [] Z⟩
 intro h1
 rw [List.drop_of_length_le (by omega),List.any_nil] at H
 refine wp_exit ?_
 refine Zet ?_
 refine Zet ?_
 refine ex_hit ?_
 refine nm_then ?_
 refine Zsr ?_
 refine lq T (Zra Z evc) ?_;intro ac T
 replace T:=T.pick [0] rfl
 refine Zln ?_
 refine wp_ret ?_
 refine rt_1 T Z (T.e 0 Z) ?_
 exact ⟨-1,Z,⟨fun h9=>by omega,fun h9=>by rw [H] at h9;cases h9⟩,M.below⟩
theorem containsF_any (F : FuncId) (fn : Func) (cap : List Value) (pr : Pd → Bool) (l : List Pd) (B : Option Addr) (lc : Nat)  (w : World) (hL : Rd w w.heap.size 7 B l.length (pdc l)) (nL : l.length ≤ 1000000) (hF1 : Try.prog.funcs[F]? = some fn) (hF2 : (fn.name == "runtime.NumGoroutine") = false) (hF3 : fn.body.isNone = false) (hF : ∀ x ∈ l, ∀ w1, Below w.heap.size w w1 → Calls Try.prog F ([] ++ [(.agg #[Zi x.b.full, Zi x.b.a0, Zi x.b.a1, .slice x.A x.b.cs.length x.c, .slice x.D x.b.ts.length x.d, .slice x.P x.l.length x.e, Zi x.s] : Value)] ++ cap).toArray w1 fun e w2 => e = .returned (.bool (pr x)) ∧ Below w1.heap.size w1 w2)  :
  Calls Try.prog 128 #[.slice B l.length lc,.func (.func F) #[] cap.toArray] w fun e w'=>e=.returned (.bool (l.any pr))∧Below w.heap.size w w':=by
 obtain ⟨bL,oL,SL⟩:=Sp.old hL
 refine Zpx noEx Try.func128 Z 9 Z [.slice B l.length lc,.func (.func F) #[] cap.toArray] Z Z (Mem.init w _) ?_
 intro ac wc T M
 refine Zsr ?_
 refine lq T (Zra Z evc) ?_;intro ac T
 replace T:=T.pick [1,2] rfl
 refine Zln ?_
 refine Zsr ?_
 refine Zg2 T (Zq (Zrm Z (T.e 0 Z))) Z (Zm 2 Z Z) Z ?_;intro ac T
 refine Zl2 ?_
 refine Zod T Z Z Z Z evf (.cons (T.e 1 Z) (.cons (T.e 0 Z) .nil)) Try.func144 Z Z ?_
 refine Calls.mono (indexF_any F fn cap pr l B lc _ (SL.rd M (Zz9 _)) nL hF1 hF2 hF3 (fun x hx w1 hb1=>hF x hx w1 (M.below.trans (hb1.mono M.size)))) ?_
 clear T;rintro e wc ⟨ku1,rfl,hku1,hb⟩ ac T
 replace M:=M.call hb;clear hb
 refine Zg2 T (Zq (rn_geq Z (T.e 0 Z) evc)) Z (Za 0 Z Z) Z ?_;intro ac T
 replace T:=T.pick [0] rfl
 refine Zln ?_
 refine wp_ret ?_
 refine rt_1 T Z (T.e 0 Z) ?_
 refine ⟨ret_bool ?_,M.below⟩
 rw [Bool.eq_iff_iff,decide_eq_true_eq]
 exact hku1
theorem alw_any {b:Bw} {A:Option Addr} {c:Nat} {D:Option Addr} {d:Nat} {P:Option Addr} {pc:Nat} {p:List Nt} {g:List Int}:∀ ss:List Int,(!((ss.map (mkP b A c D d P pc p)).any fun x=>!mustB x.b x.l g x.s))=alwB b p ss g
 | []=>rfl
 | s::ss=>by
  have ih:=alw_any (b:=b) (A:=A) (c:=c) (D:=D) (d:=d) (P:=P) (pc:=pc) (p:=p) (g:=g) ss
  unfold alwB at ih ⊢
  rw [List.map_cons,List.any_cons,List.all_cons,← ih]
  show (!(!mustB b p g s || _))=_
  rw [Bool.not_or,Bool.not_not]
theorem always_any (b:Bw) (A:Option Addr) (c:Nat) (D:Option Addr) (d:Nat) (p:List Nt) (P:Option Addr) (pc:Nat) (ss:List Int) (B:Option Addr) (lc:Nat) (G:Option Addr) (n:Nat) (g:List Int)  (w:World) (hP9:Rd w w.heap.size 4 P p.length (ntc p)) (hG:Rd w w.heap.size 1 G g.length (ic g)) (hL:Rd w w.heap.size 7 B ss.length (pdc (ss.map (mkP b A c D d P pc p)))) (nL:ss.length≤1000000) (hgp:NtGood p) (hgb:BwAir b) (hss:∀ s∈ss,0≤s∧s≤20) (hgl:g.length=p.length)  :
  Calls Try.prog 87 #[.slice B ss.length lc,.slice G g.length n] w fun e w'=>e=.returned (.bool (alwB b p ss g))∧Below w.heap.size w w':=by
 obtain ⟨bP,oP,SP⟩:=Sp.old hP9
 obtain ⟨bG,oG,SG⟩:=Sp.old hG
 obtain ⟨bL,oL,SL⟩:=Sp.old hL
 refine Zpx noEx Try.func87 Z 9 Z [.slice B ss.length lc,.slice G g.length n] Z Z (Mem.init w _) ?_
 intro ac wc T M
 refine Zsr ?_
 refine Zl2 ?_
 refine Zob M T Z Z Z Z (T.e 1 Z) Z ?_;clear M T;intro g1 wc ac M T
 refine lq T (Zra Z evc) ?_;intro ac T
 replace T:=T.pick [1,2] rfl
 refine Zln ?_
 refine Zsr ?_
 refine Zg2 (v2:=(.func (.func 129) #[] #[Zj g1])) T (Zq (Zrm Z (T.e 1 Z))) Z (fun _ T=>Zq (rn_makeFunc Z .nil (.cons (T.e 1 Z) .nil))) Z ?_;intro ac T
 refine Zl2 ?_
 obtain ⟨l9,hl9⟩:∃ q,q=ss.map (mkP b A c D d P pc p):=⟨_,rfl⟩
 have hL9:=SL.rd M (Zz9 _)
 rw [← hl9,show ss.length=l9.length by rw [hl9,List.length_map]] at hL9
 rw [show ss.length=l9.length by rw [hl9,List.length_map]] at T
 have q9:=M.nth 0 rfl
 have hP8:=SP.rd M (Zz9 _)
 have hG8:=SG.rd M (Zz9 _)
 refine Zod T Z Z Z Z evf (.cons (T.e 1 Z) (.cons (T.e 0 Z) .nil)) Try.func128 Z Z ?_
 refine Calls.mono (containsF_any 129 _ [Zj g1] (fun x=>!mustB x.b x.l g x.s) l9 B lc _ hL9 (by rw [hl9,List.length_map];exact nL) Try.func129 rfl rfl (fun x hx w1 hb1=>by rw [hl9] at hx;obtain ⟨s,hs9,rfl⟩:=List.mem_map.1 hx;exact always1_any b A c D d p P pc s G n g g1 w1 ((hP8.below hb1).more hb1.size) ((hG8.below hb1).more hb1.size) hgp hgb (hss s hs9) hgl (q9.below hb1))) ?_
 clear T;rintro e wc ⟨rfl,hb⟩ ac T
 replace M:=M.call hb;clear hb
 refine Zg2 T (Zq (rn_not Z (T.e 0 Z))) Z (Za 0 Z Z) Z ?_;intro ac T
 refine wpList_nil ?_
 replace T:=T.pick [0] rfl
 replace M:=M.mask [false] rfl
 refine Znr ?_
 refine rt_1 T Z (T.e 0 Z) ?_
 refine ⟨ret_bool ?_,M.below⟩
 rw [hl9]
 exact alw_any ss
theorem Try.info122:(Try.prog.info? 122).map (fun i=>(i.zero,i.size,i.bytes))=some (some (.agg #[Zi 0,Zi 0,Zi 0,.slice none 0 0,.slice none 0 0,.slice none 0 0,Zi 0]),7,104):=by kernel_rfl
def PlayPost (b:Bw) (A:Option Addr) (c:Nat) (D:Option Addr) (d:Nat) (p:List Nt) (P:Option Addr) (pc:Nat) (ss:List Int) (w:World) (e:Ending) (w':World):Prop:=∃ A' c' I,e=.returned (.slice A' ss.length c')∧Cl 122 7 A' ss.length c' (pdc (ss.map (mkP b A c D d P pc p))) I∧Mem w noEx w' I
theorem playedBy_any (b:Bw) (A:Option Addr) (c:Nat) (D:Option Addr) (d:Nat) (l:List L4) (B:Option Addr) (lc:Nat) (p:List Nt) (P:Option Addr) (pc:Nat) (G:Option Addr) (n:Nat) (g:List Int)  (w:World) (hL:Rd w w.heap.size 4 B l.length (l4c l)) (nL:l.length≤1000000) (hl4:∀ x∈l,x.ok) (h4:b.cs.length≤4) (hG:Rd w w.heap.size 1 G g.length (ic g)) (nG:g.length≤1000)  :
   Calls Try.prog 85 #[.agg #[Zi b.full,Zi b.a0,Zi b.a1,.slice A b.cs.length c,.slice D b.ts.length d],.slice B l.length lc,.slice P p.length pc,.slice G g.length n] w (PlayPost b A c D d p P pc (sumsB (cornL b.cs.length g) l) w):=by
 obtain ⟨bL,oL,SL⟩:=Sp.old hL
 obtain ⟨bG,oG,SG⟩:=Sp.old hG
 refine Zpx noEx Try.func85 Z 43 Z [.agg #[Zi b.full,Zi b.a0,Zi b.a1,.slice A b.cs.length c,.slice D b.ts.length d],.slice B l.length lc,.slice P p.length pc,.slice G g.length n] Z Z (Mem.init w _) ?_
 intro ac wc T M
 refine Zsr ?_
 refine Zl2 ?_
 refine Zob M T Z Z Z Z (T.e 0 Z) Z ?_;clear M T;intro g1 wc ac M T
 refine lq T (Zra Z evc) ?_;intro ac T
 replace T:=T.pick [1,3,4,5] rfl
 refine Zln ?_
 refine Zsr ?_
 refine Zl2 ?_
 refine ow_mmN M T Z Try.underlying145 Z Z Z ?_;clear M T;intro g2 wc ac M T
 refine lq T (Zra Z (T.e 0 Z)) ?_;intro ac T
 replace T:=T.pick [0,2,3,4,5] rfl
 refine Zln ?_
 refine Zsr ?_
 refine Zg2 T (Zq (Zrr (Mem.nth M 1 Z) Z (T.e 1 Z) Z)) Z (Zm 5 Z Z) Z ?_;intro ac T
 refine Zl2 ?_
 refine Zod T Z Z Z Z evf (.cons (T.e 1 Z) (.cons (T.e 0 Z) .nil)) Try.func78 Z Z ?_
 refine Calls.mono (corners_any b A c D d G n g _ (by omega) (SG.rd M (Zz9 _)) (by omega)) ?_
 clear T;rintro e wc ⟨Acu1,ccu1,Icu1,rfl,hclu1,N⟩ ac T
 obtain ⟨rlu1,hrlu1⟩:∃ q,q=cornL b.cs.length g:=⟨_,rfl⟩
 rw [← hrlu1] at hclu1 T
 have hnrlu1:rlu1.length≤b.cs.length:=by rw [hrlu1];exact cornL_len _ _
 have hgrlu1:∀ c∈rlu1,0≤c∧c < 4:=fun c hc=>by rw [hrlu1] at hc;have:=cornL_mem hc;omega
 obtain ⟨bRu1,oRu1,SRu1⟩:=hclu1.spV (by simp [ic_length])
 replace SRu1:=SRu1 w noEx
 replace M:=(M.join N).swapI
 clear N
 replace M:Mem w noEx wc ((g2,.any (numQ []))::(g1,.cells [Zi b.full,Zi b.a0,Zi b.a1,.slice A b.cs.length c,.slice D b.ts.length d])::Icu1):=M
 refine lq T (Zra Z (T.e 0 Z)) ?_;intro ac T
 replace T:=T.pick [0,4,5,6,7] rfl
 refine Zln ?_
 refine Zsr ?_
 refine lq T (Zra Z evc) ?_;intro ac T
 refine Zln ?_
 refine wp_seq ?_
 refine Zsr ?_
 refine Zg3 T (Zq (Zrm Z (T.e 4 Z))) Z (Zl Try.underlying104 0 Z Z) Z (fun _ T=>Zq (Zrm Z evc)) Z ?_;intro ac T
 replace T:=T.pick [0,1,2,3,4,5,6,8] rfl
 refine Zln ?_
 refine wp_block ?_
 refine wp_loop_n (fun mz ac wc=>∃ (k:Nat) (ss:List Int) (A3:Option Addr) (c3:Nat) (Io:List (Nat×BA)),mz=l.length - k∧(k≤l.length)∧(ss=sumsB rlu1 (l.take k))∧(ss.length≤k)∧(Sl 122 7 (.slice A3 ss.length c3) ss.length (pdc (ss.map (mkP b A c D d P pc p))) Io)∧Tm ac 43 [(2,.slice P p.length pc),(4,Zj g1),(9,.map (some g2)),(10,.slice Acu1 rlu1.length ccu1),(11,.slice A3 ss.length c3),(19,.slice B l.length lc),(20,Zi ((l.length:Nat):Int)),(21,Zi (k:Int))]∧Mem w noEx wc ((g2,.any (numQ ss))::(g1,.cells [Zi b.full,Zi b.a0,Zi b.a1,.slice A b.cs.length c,.slice D b.ts.length d])::(Icu1++Io))) ?_ ?_
 ·exact ⟨_,0,[],none,0,[],Z,(Nat.zero_le _),Z,(Nat.zero_le _),(Sl.nil _ _),T.pick [7,6,5,4,3,2,1,0] Z,(by simp only [Zx4];exact M)⟩
 clear T M
 rintro mz ac wc ⟨k,ss,A3,c3,Io,hmm1,hk,hss,hsn,hsl,T,M⟩
 refine Zsr ?_
 refine lq T (rn_lss Z (T.e 7 Z) (T.e 6 Z)) ?_;intro ac T
 refine Zln ?_
 refine wp_seq ?_
 refine wp_if (T.e 0 Z) ?_ ?_
 ·intro h1
  obtain ⟨x,hkx,-⟩:=l4c_next (l:=l) (k:=k) (by omega)
  have hxx:=hl4 x (List.mem_of_getElem? hkx)
  refine Zsk ?_
  refine wp_seq ?_
  refine wp_block ?_
  refine Zsr ?_
  refine Zg2 (v2:=(.agg #[Zi x.a,Zi x.b,Zi x.c,Zi x.d])) T (Zq (Zri (size:=4) k Z (T.e 6 Z) (T.e 8 Z) ⟨_,Try.underlying104,by kernel_rfl⟩ Z (by omega) (SL.at0 (by omega)))) Z (fun _ T=>Zq (rn_rowat (Sp.l4cR SL M (Zz9 _) hkx) Z (T.e 0 Z) Z)) Z ?_;intro ac T
  refine Zl2 ?_
  refine Zoa M T Z Z Z Z ?_;clear M T;intro g3 wc ac M T
  refine Zl2 ?_
  refine Zot M T Z Z (T.e 0 Z) (T.e 1 Z) Z .head Z Z ?_;clear M T;intro wc ac M T
  replace T:=T.pick [0,4,5,6,7,8,9,10,11] rfl
  refine Zln ?_
  refine Zsr ?_
  refine Zg2 T (Zq (Zrr (Mem.nth M 0 Z) Z (T.e 0 Z) Z)) Z (Zm 5 Z Z) Z ?_;intro ac T
  refine Zl2 ?_
  refine Zod T Z Z Z Z evf (.cons (T.e 1 Z) (.cons (T.e 0 Z) .nil)) Try.func79 Z Z ?_
  refine Calls.mono (total_any x Acu1 ccu1 rlu1 _ hxx (SRu1.rd M (.cons _ (.cons _ (.cons _ (subL (List.Sublist.refl _)))))) (by omega) (hgrlu1)) ?_
  clear T;rintro e wc ⟨rfl,hb⟩ ac T
  replace M:=M.call hb;clear hb
  have hBu2:=totL_bound (op:=rlu1) hxx.all
  refine lq T (Zra Z (T.e 0 Z)) ?_;intro ac T
  refine wpList_nil ?_
  replace T:=T.pick [0,5,6,7,8,9,10,11,12] rfl
  replace M:=M.mask [false,true,true] rfl
  refine nm_then ?_
  refine Zsr ?_
  refine Zg2 T (Zq (Zrm Z (T.e 3 Z))) Z (Zm 1 Z Z) Z ?_;intro ac T
  refine Zl2 ?_
  refine ow_lkN M T Try.underlying3 Try.underlying145 Try.zeroBool (Zne (i:=0) Z) Z Z Z Z (T.e 1 Z) (T.e 0 Z) (by omega) ?_;clear T;intro ac T
  refine lq T (rn_not Z (T.e 0 Z)) ?_;intro ac T
  replace T:=T.pick [0,4,5,6,7,8,9,10,11,12] rfl
  refine Zln ?_
  refine wp_ifn (T.e 0 Z) ?_ ?_
  ·intro h2
   refine Zsr ?_
   refine Zg2 T (Zq (Zrm Z (T.e 4 Z))) Z (Zm 2 Z Z) Z ?_;intro ac T
   refine Zl2 ?_
   refine ow_muN M T Try.underlying3 Try.underlying145 Z Z (T.e 1 Z) (T.e 0 Z) evc .head (by omega) ?_;clear M T;intro wc ac M T
   replace T:=T.pick [3,4,5,6,7,8,9,10,11] rfl
   refine Zln ?_
   refine wp_region_lit ?_
   refine Zg5 (v5:=(.agg #[Zi b.full,Zi b.a0,Zi b.a1,.slice A b.cs.length c,.slice D b.ts.length d,.slice P p.length pc,Zi (totL x.l rlu1)])) T (Zq (Zrm Z (T.e 5 Z))) Z (Zr M 1 3 Z Z Z Z) Z (Zm 3 Z Z) Z (Zm 3 Z Z) Z (fun _ T=>Zq (rn_build Z (.cons (T.e 2 Z) (.cons (T.e 1 Z) (.cons (T.e 0 Z) .nil))) (fun _=>by kernel_rfl))) Z ?_;intro ac T
   refine Zl2 ?_
   refine ow_bs (e:=122) [Zi b.full,Zi b.a0,Zi b.a1,.slice A b.cs.length c,.slice D b.ts.length d,.slice P p.length pc,Zi (totL x.l rlu1)] M T Z Z Z Z (.cons (T.e 0 Z) .nil) (fun _=>by kernel_rfl) ?_;clear M T;intro g4 wc ac M T
   refine Zl2 ?_
   refine ow_app (((g4,.cells [Zi b.full,Zi b.a0,Zi b.a1,.slice A b.cs.length c,.slice D b.ts.length d,.slice P p.length pc,Zi (totL x.l rlu1)])::(g2,.any (numQ (ss++[(totL x.l rlu1)])))::(g1,.cells [Zi b.full,Zi b.a0,Zi b.a1,.slice A b.cs.length c,.slice D b.ts.length d])::Icu1)) Try.info122 hsl M (by first | rfl | simp) T Z Z Z Z Try.underlying115 Z Z Z (by omega) (T.e 5 Z) (T.e 0 Z) (Zne (i:=0) Z) Z Z ?_;clear M T;intro ga1 cga1 wc ac M T
   refine l_q (v:=(.slice (some ⟨ga1,0,none⟩) (ss.length+1) cga1)) (T.pick [0,1,2,3,4,5,6,7,8,9,10,11,13,14,15] Z) Z Z Z Z (Zra Z (T.e 0 Z)) ?_;intro ac T
   refine wpList_nil ?_
   replace T:=T.pick [0,9,10,11,12,13,14,15] rfl
   replace M:=M.mask [true,false,true,true] rfl
   refine Znb ?_
   refine nm_then ?_
   refine wp_region_lit ?_
   refine lq T (rn_add Z (T.e 7 Z) evc (by omega)) ?_;intro ac T
   refine l_q (v:=(Zi ((k:Int)+1))) (T.pick [0,1,2,3,4,5,6,7] Z) Z Z Z Z (Zrm Z (T.e 0 Z)) ?_;intro ac T
   replace T:=T.pick [0,2,3,4,5,6,7,8] rfl
   refine Zln ?_
   have e9:ss.length+1=(ss++[totL x.l rlu1]).length:=by simp
   have e8:((pdc (ss.map (mkP b A c D d P pc p)))++[Zi b.full,Zi b.a0,Zi b.a1,.slice A b.cs.length c,.slice D b.ts.length d,.slice P p.length pc,Zi (totL x.l rlu1)])=pdc ((ss++[totL x.l rlu1]).map (mkP b A c D d P pc p)):=by rw [List.map_append];exact pdc_snoc (ss.map (mkP b A c D d P pc p)) (mkP b A c D d P pc p (totL x.l rlu1))
   rw [e9,e8] at M
   rw [e9] at T
   clear e9 e8
   exact ⟨_,by omega,k+1,(ss++[totL x.l rlu1]),_,_,[(ga1,.row 122 7 (ss++[totL x.l rlu1]).length (pdc ((ss++[totL x.l rlu1]).map (mkP b A c D d P pc p))) cga1)],Z,(by omega),(by rw [sumsB_succ hkx,← hss,addS,if_neg (by assumption)]),(by simp;omega),(Sl.row _ _ _ _ _ _),T.pick [2,3,4,5,1,6,7,0] Z,(Mem.swapI (I:=[(ga1,.row 122 7 (ss++[totL x.l rlu1]).length (pdc ((ss++[totL x.l rlu1]).map (mkP b A c D d P pc p))) cga1)]) (L:=((g2,.any (numQ (ss++[(totL x.l rlu1)])))::(g1,.cells [Zi b.full,Zi b.a0,Zi b.a1,.slice A b.cs.length c,.slice D b.ts.length d])::Icu1)) (M.permT [0,1,2] 3 Z Z Z Z))⟩
  intro h2
  refine wp_skip ?_
  refine Znb ?_
  refine nm_then ?_
  refine wp_region_lit ?_
  refine lq T (rn_add Z (T.e 9 Z) evc (by omega)) ?_;intro ac T
  refine l_q (v:=(Zi ((k:Int)+1))) (T.pick [0,1,2,3,4,5,6,7,8,9] Z) Z Z Z Z (Zrm Z (T.e 0 Z)) ?_;intro ac T
  replace T:=T.pick [0,4,5,6,7,8,9,10] rfl
  refine Zln ?_
  exact ⟨_,by omega,k+1,ss,A3,c3,Io,Z,(by omega),(by rw [sumsB_succ hkx,← hss,addS,if_pos (by assumption)]),(by omega),hsl,T.pick [1,2,3,4,5,6,7,0] Z,M.permT [0,1] 2 Z Z Z Z⟩
 intro h1
 rw [List.take_of_length_le (by omega)] at hss
 refine wp_exit ?_
 refine Zet ?_
 refine Zet ?_
 refine ex_hit ?_
 refine nm_then ?_
 refine Zsr ?_
 refine Zg2 T (Zq (Zrm Z (T.e 5 Z))) Z (Za 0 Z Z) Z ?_;intro ac T
 refine wpList_nil ?_
 replace T:=T.pick [0] rfl
 replace M:=M.mask [true,false] rfl
 refine Znr ?_
 refine rt_1 T Z (T.e 0 Z) ?_
 obtain ⟨Aq,cq,hq,hCq⟩:=sl_cl hsl
 injection hq with hq1 _ hq2
 subst hq1 hq2
 rw [← hrlu1,← hss]
 exact ⟨_,_,Io,Z,hCq,M.sub ((.cons _ (Zsq _ _)))⟩
theorem eqlS28 {x:Operand} (A:Option Addr) (m c:Nat) (w:World):(do eqGuard .eql 28 x (.const (.slice none 0 0)) (.slice A m c) (.slice none 0 0);binOp .eql 28 (.slice A m c) (.slice none 0 0):Sem Value).run Try.prog w=.ok (.bool (!A.isSome)) w:=by
 cases A <;> kernel_rfl
theorem Try.append0_28 (A:Option Addr) (c g:Nat) (ty:TypeId) (w:World):(Builtin.append_ #[28,28] ty #[.slice (some ⟨g,0,none⟩) 0 0,.slice A 0 c]).run Try.prog w=.ok (.slice (some ⟨g,0,none⟩) 0 0) w:=by
 cases A <;> kernel_rfl
theorem Try.info70:(Try.prog.info? 70).map (fun i=>(i.zero,i.size,i.bytes))=some (some (.agg #[Zi 0,Zi 0,Zi 0,.bool false]),4,32):=by kernel_rfl
theorem Try.info75:(Try.prog.info? 75).map (fun i=>(i.zero,i.size,i.bytes))=some (some (.agg #[.slice none 0 0,Zi 0,Zi 0,Zi 0]),4,48):=by kernel_rfl
def CloPost (e size:Nat) (n:Nat) (xs:List Value) (w:World) (e9:Ending) (w':World):Prop:=∃ A c I,e9=.returned (.slice A n c)∧Cl e size A n c xs I∧Mem w noEx w' I
theorem Rd.nil0 {w:World} {B size n:Nat} {xs:List Value} (h:Rd w B size none n xs):n=0:=by
 rcases Nat.eq_zero_or_pos n with h0 | h0
 ·exact h0
 ·obtain ⟨b,o,h1,-,-⟩:=h.2 h0
  cases h1
theorem icl_one (l:List Int):∀ u∈ic l,u.oneCell'=true:=fun u hu=>by
 obtain ⟨x,-,rfl⟩:=List.mem_map.1 hu
 rfl
structure LsX where
 l:List Int
 A:Option Addr
 c:Nat
def lsV (x:LsX):List Value:=[.slice x.A x.l.length x.c]
def RdF (B:Nat) (w:World) (A:Option Addr) (n:Nat) (xs:List Value):Prop:=Rd w w.heap.size 1 A n xs∧∀ b o,A=some ⟨b,o,none⟩→0 < n→B≤b
def LsOx (B:Nat) (Pr:List Int→Prop) (x:LsX) (W:World):Prop:=RdF B W x.A x.l.length (ic x.l)∧x.l.length≤x.c∧Pr x.l
theorem RdF.kpN {B B' n:Nat} {W W':World} {A:Option Addr} {xs:List Value} (r:RdF B W A n xs) (hK:KpN B' W W'):RdF B W' A n xs:=⟨hK.rdS r.1,r.2⟩
theorem RdF.le {B B' n:Nat} {W:World} {A:Option Addr} {xs:List Value} (r:RdF B W A n xs) (h:B'≤B):RdF B' W A n xs:=⟨r.1,fun b o h1 h2=>Nat.le_trans h (r.2 b o h1 h2)⟩
theorem LsOx.calm (B0:Nat) (Pr:List Int→Prop) (B:Nat):Calm B (LsOx B0 Pr):=fun x W W' h hk=>⟨h.1.kpN hk,h.2⟩
theorem KpB.of {l:Nat} {eb:Nat→Prop} {w wc:World} {L:List (Nat×BA)} (M:Mem w noEx wc L):KpB l eb w wc :=
 ⟨M.os,M.tape,M.output,M.size,fun b hb _=>M.block b hb (fun h=>h),fun p hp=>absurd hp Zx8,List.nodup_nil⟩
theorem KpB.trans {l:Nat} {eb:Nat→Prop} {x y z:World} (h:KpB l eb x y) (k:KpB l eb y z):KpB l eb x z :=
 ⟨k.os.trans h.os,k.tape.trans h.tape,k.output.trans h.output,Nat.le_trans h.size k.size,fun b hb he=>(k.block b (Nat.lt_of_lt_of_le hb h.size) he).trans (h.block b hb he),fun p hp=>absurd hp Zx8,List.nodup_nil⟩
theorem KpB.rdF {l B n:Nat} {eb:Nat→Prop} {w w':World} {A:Option Addr} {xs:List Value} (h:KpB l eb w w') (hl:l < B) (he:∀ b,eb b→b < B) (r:RdF B w A n xs):RdF B w' A n xs :=
 ⟨⟨r.1.1,fun hn=>by
  obtain ⟨b,o,h1,h2,h3⟩:=r.1.2 hn
  have hb:=r.2 b o h1 hn
  refine ⟨b,o,h1,Nat.lt_of_lt_of_le h2 h.size,fun j u hu=>(World.cell?_of_block (w:=w) (a:=⟨b,o+j,none⟩) (h.block b h2 fun hh=>?_)).trans (h3 j u hu)⟩
  rcases hh with hh | hh
  ·omega
  ·have:=he b hh
   omega⟩,r.2⟩
theorem RdF.mem {B n:Nat} {w w':World} {A:Option Addr} {xs:List Value} {L:List (Nat×BA)} (r:RdF B w A n xs) (M:Mem w noEx w' L):RdF B w' A n xs :=
 ⟨⟨r.1.1,fun hn=>by
  obtain ⟨b,o,h1,h2,h3⟩:=r.1.2 hn
  exact ⟨b,o,h1,Nat.lt_of_lt_of_le h2 M.size,fun j u hu=>(World.cell?_of_block (w:=w) (a:=⟨b,o+j,none⟩) (M.block b h2 fun hh=>hh)).trans (h3 j u hu)⟩⟩,r.2⟩
def nt0:Nt:=⟨0,0,0,false⟩
def stepW (p:List Nt) (b:List Int) (w:Int):Bool:=decide (b.length=0) || (p.getD b.length nt0).rest || decide (w=b.getD (b.length - 1) 0)
theorem stepW_eq {p:List Nt} {b:List Int} {q:Nt} {z:Int} (w:Int) (hq:p[b.length]? = some q) (hz:0 < b.length→b[b.length - 1]? = some z):stepW p b w=true↔b.length=0∨q.rest=true∨w=z:=by
 unfold stepW
 rw [List.getD_eq_getElem?_getD,hq]
 rcases Nat.eq_zero_or_pos b.length with h | h
 ·simp [h]
 ·rw [List.getD_eq_getElem?_getD (l:=b),hz h]
  simp [show ¬ b.length=0 by omega]
def wayK (p:List Nt) (many:Int):Nat→List Int→List (List Int)
 | 0,b=>if turnW b=many then [b] else []
 | k+1,b=>(List.range 2).flatMap fun j:Nat=>if stepW p b ((j:Int)+1)=true then wayK p many k (b++[(j:Int)+1]) else []
def wyN (p:List Nt) (many:Int) (k:Nat) (b:List Int) (x:Nat):List (List Int):=(List.range x).flatMap fun j:Nat=>if stepW p b ((j:Int)+1)=true then wayK p many k (b++[(j:Int)+1]) else []
theorem wyN_succ (p:List Nt) (many:Int) (k:Nat) (b:List Int) (x:Nat):wyN p many k b (x+1)=wyN p many k b x++if stepW p b ((x:Int)+1)=true then wayK p many k (b++[(x:Int)+1]) else []:=by
 unfold wyN
 rw [List.range_succ,List.flatMap_append]
 simp
theorem wyN_end (p:List Nt) (many:Int) (k:Nat) (b:List Int):wayK p many (k+1) b=wyN p many k b 2:=rfl
theorem wyN_mono {p:List Nt} {many:Int} {k:Nat} {b:List Int} {x:Nat}:∀ y,wyN p many k b x <+: wyN p many k b (x+y)
 | 0=>List.prefix_refl _
 | y+1=>(wyN_mono y).trans (by rw [← Nat.add_assoc,wyN_succ];exact List.prefix_append _ _)
theorem wyN_pre {p:List Nt} {many:Int} {k:Nat} {b:List Int} {x:Nat} {t:List (List Int)} (hx:x < 2) (hs:stepW p b ((x:Int)+1)=true) (h:t <+: wayK p many k (b++[(x:Int)+1])):wyN p many k b x++t <+: wayK p many (k+1) b:=by
 have h1:wyN p many k b x++t <+: wyN p many k b (x+1):=by rw [wyN_succ,if_pos hs];exact (List.prefix_append_right_inj _).2 h
 have h2:=wyN_mono (p:=p) (many:=many) (k:=k) (b:=b) (x:=x+1) (2 - (x+1))
 rw [show x+1+(2 - (x+1))=2 by omega] at h2
 exact h1.trans h2
def choK (n:Nat):Nat→Nat→List Int→List (List Int)
 | 0,_,b=>[b]
 | k+1,f,b=>(List.range (n - f)).flatMap fun j:Nat=>choK n k (f+j+1) (b++[((f+j:Nat):Int)])
def chN (n k f:Nat) (b:List Int) (x:Nat):List (List Int):=(List.range x).flatMap fun j:Nat=>choK n k (f+j+1) (b++[((f+j:Nat):Int)])
theorem chN_succ (n k f:Nat) (b:List Int) (x:Nat):chN n k f b (x+1)=chN n k f b x++choK n k (f+x+1) (b++[((f+x:Nat):Int)]):=by
 unfold chN
 rw [List.range_succ,List.flatMap_append]
 simp
theorem chN_end (n k f:Nat) (b:List Int):choK n (k+1) f b=chN n k f b (n - f):=rfl
theorem chN_mono {n k f:Nat} {b:List Int} {x:Nat}:∀ y,chN n k f b x <+: chN n k f b (x+y)
 | 0=>List.prefix_refl _
 | y+1=>(chN_mono y).trans (by rw [← Nat.add_assoc,chN_succ];exact List.prefix_append _ _)
theorem chN_pre {n k f:Nat} {b:List Int} {x:Nat} {t:List (List Int)} (hx:x < n - f) (h:t <+: choK n k (f+x+1) (b++[((f+x:Nat):Int)])):chN n k f b x++t <+: choK n (k+1) f b:=by
 have h1:chN n k f b x++t <+: chN n k f b (x+1):=by rw [chN_succ];exact (List.prefix_append_right_inj _).2 h
 have h2:=chN_mono (n:=n) (k:=k) (f:=f) (b:=b) (x:=x+1) (n - f - (x+1))
 rw [show x+1+(n - f - (x+1))=n - f by omega] at h2
 exact h1.trans h2
def NextR (J Jx:List LsX→World→Prop) (all:List (List Int)) (pre:List LsX) (r:Bool) (xs:List LsX) (W:World):Prop:=(r=true→xs.map LsX.l=all∧J (pre++xs) W)∧(r=false→xs.map LsX.l <+: all∧Jx (pre++xs) W)
def NextPost (J Jx:List LsX→World→Prop) (lr:Nat) (eb:Nat→Prop) (all:List (List Int)) (pre:List LsX) (w0:World) (e:Ending) (W:World):Prop:=∃ (r:Bool) (xs:List LsX),e=.returned (.bool r)∧KpB lr eb w0 W∧NextR J Jx all pre r xs W
theorem cloneI_any (G:Option Addr) (n:Nat) (g:List Int)  (w:World) (hG:Rd w w.heap.size 1 G g.length (ic g)) (nG:g.length≤1000000) :
   Calls Try.prog 111 #[.slice G g.length n] w (CloPost 3 1 g.length (ic g) w):=by
 obtain ⟨bG,oG,SG⟩:=Sp.old hG
 refine Zpx noEx Try.func111 Z 8 Z [.slice G g.length n] Z Z (Mem.init w _) ?_
 intro ac wc T M
 refine Zsr ?_
 refine lq T (Zra Z evc) ?_;intro ac T
 replace T:=T.pick [1] rfl
 refine Zln ?_
 refine wp_seq ?_
 refine Zsr ?_
 refine Zg2 (v2:=(.bool (!G.isSome))) T (Zq (Zrm Z (T.e 0 Z))) Z (fun _ T=>Zq (rn_bin Z (T.e 0 Z) evc (eqlS28 _ _ _ _))) Z ?_;intro ac T
 replace T:=T.pick [0,2] rfl
 refine Zln ?_
 refine wp_cond_split (T.e 0 Z) ?_ ?_
 ·intro h1
  (have h1':=h1;try simp only [Zb1,Zb2,Zb3,Zb4,Zb5,Zb6,Zb7] at h1')
  refine Zsr ?_
  refine lq T (Zra Z evc) ?_;intro ac T
  replace T:=T.pick [0] rfl
  refine Zln ?_
  refine wp_ret ?_
  refine Zrt ?_
  refine rt_1 T Z (T.e 0 Z) ?_
  have hA9:G=none:=by cases G;rfl;simp at h1
  have hn9:g.length=0:=Rd.nil0 (hA9 ▸ hG)
  have hx9:ic g=[]:=List.eq_nil_of_length_eq_zero (by rw [(hG).1,hn9] <;> simp)
  rw [hn9,hx9]
  exact ⟨none,0,[],Z,.inl ⟨rfl,Z,Z,Z,Z⟩,M.mask [] Z⟩
 intro h1
 (have h1':=h1;try simp only [Zb1,Zb2,Zb3,Zb4,Zb5,Zb6,Zb7] at h1')
 refine Zsk ?_
 refine Zsr ?_
 refine Zl2 ?_
 refine ow_bs0 (e:=3) M T Z Z Z Z (fun _=>by kernel_rfl) ?_;clear M T;intro g1 wc ac M T
 refine lq T (Zrm Z (T.e 2 Z)) ?_;intro ac T
 refine Zl2 ?_
 refine ow_appS Try.info3 M T Z Z Z Z (fun g w=>Try.append0_28 _ _ g _ w) Try.underlying28 Z Z Z (by omega) (T.e 1 Z) (T.e 0 Z) (SG.rd M (Zz9 _)) (icl_one _) ?_;clear M T;intro Augo1 cugo1 Iugo1 wc ac hSmgo1 M T
 replace M:Mem w noEx wc (Iugo1):=M.swapI
 refine lq T (Zra Z (T.e 0 Z)) ?_;intro ac T
 replace T:=T.pick [0] rfl
 refine Zln ?_
 refine wp_ret ?_
 refine rt_1 T Z (T.e 0 Z) ?_
 exact ⟨Augo1,cugo1,Iugo1,Z,.inr hSmgo1,M.sub (Zsq [] _)⟩
def NextW (lr gp gy gn B:Nat) (Pr:List Int→Prop) (eb:Nat→Prop) (J Jx:List LsX→World→Prop) (p:List Nt) (P:Option Addr) (pc:Nat) (many:Int) (k:Nat):Prop:=∀ (b:List Int) (A:Option Addr) (m c:Nat) (pre:List LsX) (w0 w:World),m=b.length→m≤c→b.length+k=p.length→KpB lr eb w0 w→B≤w.heap.size→RdF B w A m (ic b)→J pre w→Rd w w.heap.size 4 P p.length (ntc p) →
 Bk w gp #[.slice P p.length pc]→Bk w gy #[.func (.yield lr) #[] #[]]→Bk w gn #[.func (.func 143) #[] #[Zj gp,Zj gy,Zj gn]] →
 Calls Try.prog 143 #[.slice A m c,Zi many,Zj gp,Zj gy,Zj gn] w (NextPost J Jx lr eb (wayK p many k b) pre w0)
theorem pre_nil {J:List LsX→World→Prop} {pre:List LsX} {w:World} (h:J pre w):J (pre++[]) w:=by simpa using h
set_option maxHeartbeats 4000000 in
theorem nextW_step (lr gp gy gn B : Nat) (Pr : List Int → Prop) (eb : Nat → Prop) (J Jx : List LsX → World → Prop) (p : List Nt) (P : Option Addr) (pc : Nat) (many : Int) (k : Nat) (b : List Int) (A : Option Addr) (c : Nat) (pre : List LsX) (w0 : World)  (w : World) (hlr : lr < B) (heb : ∀ b, eb b → b < B) (hxm : ¬ (gp = lr ∨ eb gp)) (hxy : ¬ (gy = lr ∨ eb gy)) (hxn : ¬ (gn = lr ∨ eb gn)) (hJ : Calm B J) (hJx : Calm B Jx)
   (hY:∀ pre x W1,J pre W1→LsOx B Pr x W1→YieldAt Fence.wide 6 Try.prog lr (lsV x).toArray W1 fun e W' =>
     (e=.returned (.bool true)∧J (pre++[x]) W'∧KpB lr eb W1 W')∨(e=.returned (.bool false)∧Jx (pre++[x]) W'∧KpB lr eb W1 W'))
   (hpk:∀ W W',KpB lr eb W W'→Rd W W.heap.size 4 P p.length (ntc p)→Rd W' W'.heap.size 4 P p.length (ntc p)) (hPr:∀ b:List Int,b.length=p.length→Pr b) (h6:p.length≤6)
   (ih:∀ k1,k=k1+1→NextW lr gp gy gn B Pr eb J Jx p P pc many k1) (hbc:b.length≤c) (hm:b.length+k=p.length) (hk0:KpB lr eb w0 w) (hB:B≤w.heap.size) (hb:RdF B w A b.length (ic b)) (hj:J pre w) (hP:Rd w w.heap.size 4 P p.length (ntc p)) (qm:Bk w gp #[.slice P p.length pc]) (qy:Bk w gy #[.func (.yield lr) #[] #[]]) (qn:Bk w gn #[.func (.func 143) #[] #[Zj gp,Zj gy,Zj gn]])  :
   Calls Try.prog 143 #[.slice A b.length c,Zi many,Zj gp,Zj gy,Zj gn] w (NextPost J Jx lr eb (wayK p many k b) pre w0):=by
 obtain ⟨bG,oG,SG⟩:=Sp.old hb.1
 obtain ⟨bP,oP,SP⟩:=Sp.old hP
 refine Zpx noEx Try.func143 Z 56 Z [.slice A b.length c,Zi many,Zj gp,Zj gy,Zj gn] Z Z (Mem.init w _) ?_
 intro ac wc T M
 refine Zsr ?_
 refine lq T (Zra Z evc) ?_;intro ac T
 replace T:=T.pick [1,2,3,4,5] rfl
 refine Zln ?_
 refine Zsr ?_
 refine Zg3 T (Zq (Zrm Z (T.e 0 Z))) Z (Zl Try.underlying28 0 Z Z) Z (Za 0 Z Z) Z ?_;intro ac T
 replace T:=T.pick [0,3,4,5,6,7] rfl
 refine Zln ?_
 refine wp_seq ?_
 refine Zsr ?_
 refine Zg4 T (Zq (Zrm Z (T.e 0 Z))) Z (fun _ T=>Zq (Zro (Mem.old M qm (fun h=>h)) Z (T.e 4 Z) Z)) Z (Zl Try.underlying44 0 Z Z) Z (fun _ T=>Zq (rn_eql Z (T.e 2 Z) (T.e 0 Z))) Z ?_;intro ac T
 replace T:=T.pick [0,4,5,6,7,8,9] rfl
 refine Zln ?_
 refine wp_if (T.e 0 Z) ?_ ?_
 ·intro h1
  obtain rfl:k=0:=by omega
  refine wp_seq ?_
  refine fr_lit ?_
  refine fl_q T Z Z Z Z (Zrm Z (T.e 2 Z)) ?_;intro ac T
  refine fl_w Z ?_;intro K hK
  refine Zod T Z Z Z Z evf (.cons (T.e 0 Z) .nil) Try.func127 Z Z ?_
  refine Calls.mono (turns_any A c b _ (SG.rd M (Zz9 _)) (by omega)) ?_
  clear T;rintro e wc ⟨rfl,hb⟩ ac T
  replace M:=M.call hb;clear hb
  refine Zso hK _ _ ?_;clear hK K
  refine fl_q T Z Z Z Z (Zrm Z (T.e 5 Z)) ?_;intro ac T
  refine fl_q T Z Z Z Z (rn_neq Z (T.e 1 Z) (T.e 0 Z)) ?_;intro ac T
  refine fl_q T Z Z Z Z (Zrm Z (T.e 0 Z)) ?_;intro ac T
  rcases Zx9 (!(decide ((turnW b)=many))) with h2 | h2
  ·replace h2 : ¬ ((turnW b)=many):=by first | (rw [Bool.not_eq_true'] at h2;exact of_decide_eq_false h2) | simpa using h2
   refine fl_pass T (Zwn Z Z (T.e 0 Z) (by simp [h2])) Z Z Z ?_;intro ac T
   refine fl_pass T (Zwn Z Z (T.e 1 Z) (by simp [h2])) Z Z Z ?_;intro ac T
   refine fl_pass T (Zwn Z Z (T.e 2 Z) (by simp [h2])) Z Z Z ?_;intro ac T
   refine fl_q T Z Z Z Z (Zr1 Z (T.e 3 Z) (by simp [h2]) evc) ?_;intro ac T
   refine fl_q T Z Z Z Z (Zra Z (T.e 0 Z)) ?_;intro ac T
   refine fl_nil ?_
   replace T:=T.pick [0] rfl
   refine Znr ?_
   refine Zrt ?_
   refine rt_1 T Z (T.e 0 Z) ?_
   refine ⟨true,[],Z,hk0.trans (KpB.of M),fun _=>⟨?_,pre_nil (hJ _ _ _ hj ((KpN.of_below M.below).mono hB))⟩,fun h=>by cases h⟩
   unfold wayK
   rw [if_neg (by assumption)]
   rfl
  replace h2:(turnW b)=many:=by first | (rw [Bool.not_eq_false'] at h2;exact of_decide_eq_true h2) | simpa using h2
  refine fl_q T (Zwy Z Z (T.e 0 Z) (by simp [h2])) Z Z Z (Zro (Mem.old M qy (fun h=>h)) Z (T.e 10 Z) Z) ?_;intro ac T
  refine fl_q T (Zwy Z Z (T.e 1 Z) (by simp [h2])) Z Z Z (Zrm Z (T.e 8 Z)) ?_;intro ac T
  refine fl_y (Zwy Z Z (T.e 2 Z) (by simp [h2])) ?_;intro K hK
  have hj9:=hJ _ _ _ hj ((KpN.of_below M.below).mono hB)
  have hb9:=hb.mem M
  have hk9:=hk0.trans (KpB.of M)
  have hB9:=Nat.le_trans hB M.size
  refine ow_yield T Z Z Z Z (T.e 1 Z) (.cons (T.e 0 Z) .nil) (hY pre ⟨b,A,c⟩ _ hj9 ⟨hb9,hbc,hPr b (by omega)⟩) ?_
  clear T M
  rintro e wc (⟨rfl,hj8,hkp⟩ | ⟨rfl,hj8,hkp⟩)
  ·refine ⟨_,Z,?_⟩
   intro ac T
   have M:Mem wc noEx wc []:=Mem.init wc _
   refine Zso hK _ _ ?_;clear hK K
   refine fl_q T Z Z Z Z (Zr0 Z (T.e 3 Z) (by simp [h2]) (T.e 0 Z)) ?_;intro ac T
   refine fl_q T Z Z Z Z (Zra Z (T.e 0 Z)) ?_;intro ac T
   refine fl_nil ?_
   replace T:=T.pick [0] rfl
   refine Znr ?_
   refine Zrt ?_
   refine rt_1 T Z (T.e 0 Z) ?_
   have hw9:wayK p many 0 b=[b]:=by unfold wayK;rw [if_pos (by omega)]
   rw [hw9]
   refine ⟨true,[⟨b,A,c⟩],Z,(hk9.trans hkp).trans (KpB.of M),?_,?_⟩
   exact fun _=>⟨rfl,hJ _ _ _ hj8 ((KpN.of_below M.below).mono (Nat.le_trans hB9 hkp.size))⟩
   exact fun h=>by cases h
  refine ⟨_,Z,?_⟩
  intro ac T
  have M:Mem wc noEx wc []:=Mem.init wc _
  refine Zso hK _ _ ?_;clear hK K
  refine fl_q T Z Z Z Z (Zr0 Z (T.e 3 Z) (by simp [h2]) (T.e 0 Z)) ?_;intro ac T
  refine fl_q T Z Z Z Z (Zra Z (T.e 0 Z)) ?_;intro ac T
  refine fl_nil ?_
  replace T:=T.pick [0] rfl
  refine Znr ?_
  refine Zrt ?_
  refine rt_1 T Z (T.e 0 Z) ?_
  have hw9:wayK p many 0 b=[b]:=by unfold wayK;rw [if_pos (by omega)]
  rw [hw9]
  refine ⟨false,[⟨b,A,c⟩],Z,(hk9.trans hkp).trans (KpB.of M),?_,?_⟩
  exact fun h=>by cases h
  exact fun _=>⟨List.prefix_refl _,hJx _ _ _ hj8 ((KpN.of_below M.below).mono (Nat.le_trans hB9 hkp.size))⟩
 intro h1
 obtain ⟨k1,rfl⟩:∃ k1,k=k1+1:=⟨k - 1,by omega⟩
 refine Zsk ?_
 refine wp_seq ?_
 refine Zsr ?_
 refine lq T (Zra Z evc) ?_;intro ac T
 replace T:=T.pick [0,2,3,4,5,7] rfl
 refine Zln ?_
 refine wp_block ?_
 refine wp_loop_n (fun mz ac wc=>∃ (w:World) (x:Nat) (xs:List LsX),mz=2 - x∧(x≤2)∧(xs.map LsX.l=wyN p many k1 b x)∧(J (pre++xs) w)∧(KpB lr eb w0 w)∧(B≤w.heap.size)∧(RdF B w A b.length (ic b))∧(Rd w w.heap.size 4 P p.length (ntc p))∧(Bk w gp #[.slice P p.length pc])∧(Bk w gy #[.func (.yield lr) #[] #[]])∧(Bk w gn #[.func (.func 143) #[] #[Zj gp,Zj gy,Zj gn]])∧Tm ac 56 [(0,.slice A b.length c),(1,Zi many),(2,Zj gp),(4,Zj gn),(8,Zi ((b.length:Nat):Int)),(9,Zi ((x:Int)+1))]∧Mem w noEx wc []) ?_ ?_
 ·exact ⟨_,w,0,[],Z,(by omega),Z,(by simpa using hj),hk0,hB,hb,hP,qm,qy,qn,T.pick [2,3,4,5,1,0] Z,M.mask [] Z⟩
 clear T M
 rintro mz ac wc ⟨w,x,xs,hmm1,hx,hp,hj,hk0,hB,hb,hP,qm,qy,qn,T,M⟩
 refine wp_seq ?_
 refine Zsr ?_
 refine Zg2 T (Zq (Zrm Z (T.e 5 Z))) Z (fun _ T=>Zq (rn_leq Z (T.e 0 Z) evc)) Z ?_;intro ac T
 replace T:=T.pick [0,2,3,4,5,6,7] rfl
 refine Zln ?_
 refine wp_if (T.e 0 Z) ?_ ?_
 ·intro h3
  obtain ⟨bG,oG,SG⟩:=Sp.old hb.1
  obtain ⟨bP,oP,SP⟩:=Sp.old hP
  obtain ⟨q,hkq,-⟩:=ntc_next (l:=p) (k:=b.length) (by omega)
  obtain ⟨z,hkz⟩:∃ z,0 < b.length→b[b.length - 1]? = some z:=⟨b.getD (b.length - 1) 0,fun h=>by rw [List.getD_eq_getElem?_getD,List.getElem?_eq_getElem (by omega:b.length - 1 < b.length)];rfl⟩
  have hste:=stepW_eq ((x:Int)+1) hkq hkz
  refine Zsk ?_
  refine wp_seq ?_
  refine wp_block ?_
  refine cut_seq (fun ac wc=>Tm ac 56 [(0,.slice A b.length c),(1,Zi many),(2,Zj gp),(4,Zj gn),(8,Zi ((b.length:Nat):Int)),(9,Zi ((x:Int)+1)),(46,.bool ((decide (((b.length:Nat):Int)=0)) || (q.rest || (decide (((x:Int)+1)=z)))))]∧Mem w noEx wc []) ?_ ?_
  ·refine wp_region_lit ?_
   refine Zg3 T (Zq (Zrm Z (T.e 5 Z))) Z (fun _ T=>Zq (rn_eql Z (T.e 0 Z) evc)) Z (Zm 0 Z Z) Z ?_;intro ac T
   rcases Zx9 (decide (((b.length:Nat):Int)=0)) with h4 | h4
   ·replace h4:=of_decide_eq_true h4
    refine Zg8 T (Zp (Zwn Z Z (T.e 0 Z) (Zdt h4))) Z (fun _ T=>Zp (Zwn Z Z (T.e 1 Z) (Zdt h4))) Z (fun _ T=>Zp (Zwn Z Z (T.e 2 Z) (Zdt h4))) Z (fun _ T=>Zp (Zwn Z Z (T.e 3 Z) (Zdt h4))) Z (fun _ T=>Zp (Zwn Z Z (T.e 4 Z) (Zdt h4))) Z (fun _ T=>Zq (Zr1 Z (T.e 5 Z) (Zdt h4) evc)) Z (Zm 0 Z Z) Z (fun _ T=>Zp (Zwn Z Z (T.e 0 Z) Z)) Z ?_;intro ac T
    refine Zg7 T (Zp (Zwn Z Z (T.e 1 Z) Z)) Z (fun _ T=>Zp (Zwn Z Z (T.e 2 Z) Z)) Z (fun _ T=>Zp (Zwn Z Z (T.e 3 Z) Z)) Z (fun _ T=>Zp (Zwn Z Z (T.e 4 Z) Z)) Z (fun _ T=>Zp (Zwn Z Z (T.e 5 Z) Z)) Z (fun _ T=>Zp (Zwn Z Z (T.e 6 Z) Z)) Z (fun _ T=>Zq (Zr1 Z (T.e 7 Z) Z evc)) Z ?_;intro ac T
    refine wpList_nil ?_
    replace T:=T.pick [0,1,2,3,4,5,6,7,10,11,12,13,14,19,20,21,22,23,24] rfl
    exact ⟨(T.pick (E':=[(0,.slice A b.length c),(1,Zi many),(2,Zj gp),(4,Zj gn),(8,Zi ((b.length:Nat):Int)),(9,Zi ((x:Int)+1)),(46,.bool true)]) [13,14,15,16,17,18,0] Z).as (by (try rw [show (decide (((b.length:Nat):Int)=0))=true from (Zdt h4)]);(try rfl)),M.mask [] Z⟩
   replace h4:=of_decide_eq_false h4
   refine Zg7 T (Zw (Zwy Z Z (T.e 0 Z) (Zdf h4)) (Zro (Mem.old M qm (fun h=>h)) Z (T.e 6 Z) Z)) Z (fun _ T=>Zw (Zwy Z Z (T.e 1 Z) (Zdf h4)) (Zrm Z (T.e 9 Z))) Z (fun _ T=>Zw (Zwy Z Z (T.e 2 Z) (Zdf h4)) (Zri (size:=4) b.length Z (T.e 1 Z) (T.e 0 Z) ⟨_,Try.underlying44,by kernel_rfl⟩ Z (by omega) (SP.at0 (by omega)))) Z (fun _ T=>Zw (Zwy Z Z (T.e 3 Z) (Zdf h4)) (Zrg 3 Z (T.e 0 Z))) Z (fun _ T=>Zw (Zwy Z Z (T.e 4 Z) (Zdf h4)) (rn_cell (Sp.ntcC3 SP M (Zz9 _) hkq) Z (T.e 0 Z))) Z (fun _ T=>Zq (Zr0 Z (T.e 5 Z) (Zdf h4) (T.e 0 Z))) Z (Zm 0 Z Z) Z ?_;intro ac T
   rcases Zx9 q.rest with h5 | h5
   ·refine Zg8 T (Zp (Zwn Z Z (T.e 0 Z) h5)) Z (fun _ T=>Zp (Zwn Z Z (T.e 1 Z) h5)) Z (fun _ T=>Zp (Zwn Z Z (T.e 2 Z) h5)) Z (fun _ T=>Zp (Zwn Z Z (T.e 3 Z) h5)) Z (fun _ T=>Zp (Zwn Z Z (T.e 4 Z) h5)) Z (fun _ T=>Zp (Zwn Z Z (T.e 5 Z) h5)) Z (fun _ T=>Zp (Zwn Z Z (T.e 6 Z) h5)) Z (fun _ T=>Zq (Zr1 Z (T.e 7 Z) h5 evc)) Z ?_;intro ac T
    refine wpList_nil ?_
    replace T:=T.pick [0,1,2,3,4,5,6,7,10,11,12,13,14,19,20,21,22,23,24] rfl
    exact ⟨(T.pick (E':=[(0,.slice A b.length c),(1,Zi many),(2,Zj gp),(4,Zj gn),(8,Zi ((b.length:Nat):Int)),(9,Zi ((x:Int)+1)),(46,.bool true)]) [13,14,15,16,17,18,0] Z).as (by (try rw [show (decide (((b.length:Nat):Int)=0))=false from (Zdf h4)]);(try rw [show q.rest=true from h5]);(try rfl)),M.mask [] Z⟩
   refine Zg8 T (Zw (Zwy Z Z (T.e 0 Z) h5) (Zrm Z (T.e 16 Z))) Z (fun _ T=>Zw (Zwy Z Z (T.e 1 Z) h5) (Zrm Z (T.e 12 Z))) Z (fun _ T=>Zw (Zwy Z Z (T.e 2 Z) h5) (Zrm Z (T.e 17 Z))) Z (fun _ T=>Zw (Zwy Z Z (T.e 3 Z) h5) (rn_sub Z (T.e 0 Z) evc (by omega))) Z (fun _ T=>Zw (Zwy Z Z (T.e 4 Z) h5) (Zri (size:=1) (b.length - 1) Z (T.e 2 Z) (T.e 0 Z) ⟨_,Try.underlying28,by kernel_rfl⟩ (by omega) (by omega) (SG.at0 (by omega)))) Z (fun _ T=>Zw (Zwy Z Z (T.e 5 Z) h5) (rn_cell (Sp.ic0 SG M (Zz9 _) (hkz (by omega))) Z (T.e 0 Z))) Z (fun _ T=>Zw (Zwy Z Z (T.e 6 Z) h5) (rn_eql Z (T.e 5 Z) (T.e 0 Z))) Z (fun _ T=>Zq (Zr0 Z (T.e 7 Z) h5 (T.e 0 Z))) Z ?_;intro ac T
   refine wpList_nil ?_
   replace T:=T.pick [0,1,2,3,4,5,6,7,10,11,12,13,14,19,20,21,22,23,24] rfl
   exact ⟨(T.pick (E':=[(0,.slice A b.length c),(1,Zi many),(2,Zj gp),(4,Zj gn),(8,Zi ((b.length:Nat):Int)),(9,Zi ((x:Int)+1)),(46,.bool (decide (((x:Int)+1)=z)))]) [13,14,15,16,17,18,0] Z).as (by (try rw [show (decide (((b.length:Nat):Int)=0))=false from (Zdf h4)]);(try rw [show q.rest=false from h5]);(try rfl)),M.mask [] Z⟩
  clear T M
  rintro ac wc ⟨T,M⟩
  refine wp_cond_split (T.e 6 Z) ?_ ?_
  ·intro h6
   (have h6':=h6;try simp only [Zb1,Zb2,Zb3,Zb4,Zb5,Zb6,Zb7] at h6')
   refine wp_seq ?_
   refine g_startT M 9 (by kernel_rfl) Z (by kernel_rfl) ?_
   clear M;intro wc M
   refine g_addG 7 M ?_
   refine g_have (fun ac wc=>∃ (Acur8_2:Option Addr),∃ (ccur8_2:Nat),∃ (Icur8_2:List (Nat×BA)),(Cl 3 1 Acur8_2 b.length ccur8_2 (ic b) Icur8_2)∧∃ (gr8_4:Nat),Tm ac 56 [(51,.slice (some ⟨gr8_4,0,none⟩) 1 1),(49,.slice Acur8_2 b.length ccur8_2),(53,Zi many),(50,Zi ((x:Int)+1)),(48,.slice A b.length c),(47,.func (.func 143) #[] #[Zj gp,Zj gy,Zj gn]),(0,.slice A b.length c),(1,Zi many),(2,Zj gp),(4,Zj gn),(8,Zi ((b.length:Nat):Int)),(9,Zi ((x:Int)+1)),(46,.bool ((decide (((b.length:Nat):Int)=0)) || (q.rest || (decide (((x:Int)+1)=z)))))]∧Mem w noEx wc ((gr8_4,.cells [Zi ((x:Int)+1)])::Icur8_2)) (Zpb 9 95) 3 ?_ ?_
   ·clear T M
    rintro ac wc ⟨Acur8_2,ccur8_2,Icur8_2,hclur8_2,gr8_4,T,M⟩
    refine gw 5 127 ?_;intro K hK
    refine ow_appC ([(gr8_4,.cells [Zi ((x:Int)+1)])]) Try.info3 hclur8_2 M (by first | rfl | simp) T Z Z Z Z Try.underlying28 Z Z Z (by omega) (T.e 1 Z) (T.e 0 Z) (Zne (i:=0) Z) Z Z ?_;clear M T;intro ga1 cga1 wc ac M T
    refine Zso hK _ _ (MA.mk (fun _=>M.mask [false,false] Z) trivial) ?_;clear hK K
    refine gw 7 255 ?_;intro K hK
    refine Zoc (first:=[]) (cap:=[Zj gp,Zj gy,Zj gn]) T Z Z Z Z (T.e 6 Z) (.cons (T.e 0 Z) (.cons (T.e 3 Z) .nil)) Try.func143 Z Z ?_
    refine Calls.mono (ih k1 Z (b++[(x:Int)+1]) _ _ _ (pre++xs) _ _ (by simp) ((Cl.row _ _ ga1 _ _ _).capLe M (List.Sublist.cons_cons _ (Zz9 _))) (by simp;omega) (KpB.of (Mem.init _ _)) (Nat.le_trans hB M.size) ⟨by rw [← ic_snoc];exact M.rdRow (Zne (i:=0) Z),fun b9 o9 h9 _=>by injection h9 with h9;injection h9 with h9 _ _;rw [← h9];exact Nat.le_trans hB (M.ge (Zne (i:=0) Z))⟩ (hJ _ _ _ hj ((KpN.of_below M.below).mono hB)) (hpk _ _ (KpB.of M) hP) (M.old qm (fun h=>h)) (M.old qy (fun h=>h)) (M.old qn (fun h=>h))) ?_
    clear T;rintro e wc ⟨rur8_7,xsur8_7,rfl,hkpur8_7,hnrur8_7⟩ ac T
    have hkpur8_7:=(KpB.of M).trans hkpur8_7
    clear M
    have qm:=Mem.old hkpur8_7 qm hxm
    have qy:=Mem.old hkpur8_7 qy hxy
    have qn:=Mem.old hkpur8_7 qn hxn
    have hP:=hpk _ _ hkpur8_7 hP
    have hb:=hkpur8_7.rdF hlr heb hb
    have hk0:=hk0.trans hkpur8_7
    have hB:=Nat.le_trans hB hkpur8_7.size
    obtain ⟨w,hwe⟩:∃ q:World,q=wc:=⟨_,rfl⟩
    have M:Mem w noEx wc []:=by rw [hwe];exact Mem.init wc _
    rw [← hwe] at qm qy qn hP hb hB hk0 hnrur8_7
    clear hwe hkpur8_7
    refine Zso hK _ _ (MA.mk (fun h=>(no_of (by kernel_rfl) h).elim) trivial) ?_;clear hK K
    refine g_q (T:=T) (i:=8) Z (by kernel_rfl) (by kernel_rfl:(Zpb 9 255).setIfInBounds 8 true=Zpb 9 511) (si_and (si_G Z) si_T) (fun _ _ _ h=>h) Z Z Z Z (fun _ _ _ _ _=>(rn_not Z (T.e 0 Z))) ?_;intro ac T
    refine Zgd (by kernel_rfl) ?_
    replace T:=T.pick [0,9,10,11,12,13,14] rfl
    refine nm_then ?_
    refine wp_cond_split (T.e 0 Z) ?_ ?_
    ·intro h7
     (have h7':=h7;try simp only [Zb1,Zb2,Zb3,Zb4,Zb5,Zb6,Zb7] at h7')
     refine Zsr ?_
     refine lq T (Zra Z evc) ?_;intro ac T
     replace T:=T.pick [0] rfl
     refine Zln ?_
     refine wp_ret ?_
     refine Zrb ?_
     refine Zrt ?_
     refine Zrt ?_
     refine Zrb ?_
     refine Zrt ?_
     refine rt_1 T Z (T.e 0 Z) ?_
     have hr9:rur8_7=false:=by simp_all
     have h8:=hnrur8_7.2 hr9
     refine ⟨false,xs++xsur8_7,rfl,hk0.trans (KpB.of M),(fun h=>by cases h),fun _=>⟨(by rw [List.map_append,hp];exact wyN_pre (by omega) (hste.2 (by rcases h6' with h9 | h9 | h9;exact .inl (by omega);exact .inr (.inl h9);exact .inr (.inr h9))) h8.1),?_⟩⟩
     rw [← List.append_assoc]
     exact hJx _ _ _ h8.2 ((KpN.of_below M.below).mono hB)
    intro h7
    (have h7':=h7;try simp only [Zb1,Zb2,Zb3,Zb4,Zb5,Zb6,Zb7] at h7')
    refine wp_skip ?_
    refine Znb ?_
    refine nm_then ?_
    refine wp_region_lit ?_
    refine Zg2 T (Zq (Zrm Z (T.e 6 Z))) Z (fun _ T=>Zq (rn_add Z (T.e 0 Z) evc (by omega))) Z ?_;intro ac T
    refine l_q (v:=(Zi (((x:Int)+1)+1))) (T.pick [0,1,2,3,4,5,6,7] Z) Z Z Z Z (Zra Z (T.e 0 Z)) ?_;intro ac T
    replace T:=T.pick [0,4,5,6,7,8] rfl
    refine Zln ?_
    exact ⟨_,by omega,_,x+1,(xs++xsur8_7),rfl,(by omega),(by rw [List.map_append,hp,(hnrur8_7.1 (by simp_all)).1,wyN_succ,if_pos (hste.2 (by rcases h6' with h9 | h9 | h9;exact .inl (by omega);exact .inr (.inl h9);exact .inr (.inr h9)))]),(by rw [← List.append_assoc];exact (hnrur8_7.1 (by simp_all)).2),hk0,hB,hb,hP,qm,qy,qn,T.pick [1,2,3,4,5,0] rfl,M.mask [] rfl⟩
   intro H0
   refine g_q (T:=T) (i:=0) Z (by kernel_rfl) (by kernel_rfl:(Zpb 9 0).setIfInBounds 0 true=Zpb 9 1) (si_and (si_G Z) si_T) (fun _ _ _ h=>h) Z Z Z Z (fun B w' hD hl hS=>(Zro (Mem.old (show Mem w noEx w' _ from ((MA.lft hS) (hD.wait (i:=0) (m:=7) (by kernel_rfl) hl))) qn (fun h=>h)) Z (T.e 3 Z) Z)) ?_;intro ac T
   refine g_q (T:=T) (i:=1) Z (by kernel_rfl) (by kernel_rfl:(Zpb 9 1).setIfInBounds 1 true=Zpb 9 3) (si_and (si_G Z) si_T) (fun _ _ _ h=>h) Z Z Z Z (fun _ _ _ _ _=>(Zrm Z (T.e 1 Z))) ?_;intro ac T
   refine g_q (T:=T) (i:=3) Z (by kernel_rfl) (by kernel_rfl:(Zpb 9 3).setIfInBounds 3 true=Zpb 9 11) (si_and (si_G Z) si_T) (fun _ _ _ h=>h) Z Z Z Z (fun _ _ _ _ _=>(Zrm Z (T.e 7 Z))) ?_;intro ac T
   refine g_q (T:=T) (i:=6) Z (by kernel_rfl) (by kernel_rfl:(Zpb 9 11).setIfInBounds 6 true=Zpb 9 75) (si_and (si_G Z) si_T) (fun _ _ _ h=>h) Z Z Z Z (fun _ _ _ _ _=>(Zrm Z (T.e 4 Z))) ?_;intro ac T
   refine g_m2 (i:=2) (j:=4) (by kernel_rfl) ?_ ?_
   ·refine gi 79 ?_;intro K hK
    refine Zod T Z Z Z Z evf (.cons (T.e 2 Z) .nil) Try.func111 Z Z ?_
    refine Calls.mono (cloneI_any A c b _ (SG.rd M (Zz9 _)) (by omega)) ?_
    clear T;rintro e wc ⟨Acur8_2,ccur8_2,Icur8_2,rfl,hclur8_2,N⟩ ac T
    replace M:=(M.join N).swapI
    clear N
    replace M:Mem w noEx wc (Icur8_2):=M
    refine Zso hK _ _ (MA.mk (fun _=>M.perm [] Z Z) trivial) ?_;clear hK K
    refine gw 4 95 ?_;intro K hK
    refine ow_bs (e:=3) [Zi ((x:Int)+1)] M T Z Z Z Z (.cons (T.e 2 Z) .nil) (fun _=>by kernel_rfl) ?_;clear M T;intro gr8_4 wc ac M T
    refine Zso hK _ _ (MA.mk (fun _=>M.perm [] Z Z) trivial) ?_;clear hK K
    exact H0 _ _ ⟨Acur8_2,ccur8_2,Icur8_2,hclur8_2,gr8_4,T,M⟩
   refine gi 91 ?_;intro K hK
   refine ow_bs (e:=3) [Zi ((x:Int)+1)] M T Z Z Z Z (.cons (T.e 1 Z) .nil) (fun _=>by kernel_rfl) ?_;clear M T;intro gr8_4 wc ac M T
   refine Zso hK _ _ (MA.mk (fun _=>M.mask [false] Z) trivial) ?_;clear hK K
   refine gw 2 95 ?_;intro K hK
   refine Zod T Z Z Z Z evf (.cons (T.e 3 Z) .nil) Try.func111 Z Z ?_
   refine Calls.mono (cloneI_any A c b _ (SG.rd M (Zz9 _)) (by omega)) ?_
   clear T;rintro e wc ⟨Acur8_2,ccur8_2,Icur8_2,rfl,hclur8_2,N⟩ ac T
   replace M:=(M.join N).swapI
   clear N
   replace M:Mem w noEx wc ((gr8_4,.cells [Zi ((x:Int)+1)])::Icur8_2):=M
   refine Zso hK _ _ (MA.mk (fun _=>M.perm [] Z Z) trivial) ?_;clear hK K
   exact H0 _ _ ⟨Acur8_2,ccur8_2,Icur8_2,hclur8_2,gr8_4,T.pick [1,0,2,3,4,5,6,7,8,9,10,11,12] Z,M⟩
  intro h6
  (have h6':=h6;try simp only [Zb1,Zb2,Zb3,Zb4,Zb5,Zb6,Zb7] at h6')
  refine wp_skip ?_
  refine Znb ?_
  refine nm_then ?_
  refine wp_region_lit ?_
  refine Zg2 T (Zq (Zrm Z (T.e 5 Z))) Z (fun _ T=>Zq (rn_add Z (T.e 0 Z) evc (by omega))) Z ?_;intro ac T
  refine l_q (v:=(Zi (((x:Int)+1)+1))) (T.pick [0,1,2,3,4,5,6,8] Z) Z Z Z Z (Zra Z (T.e 0 Z)) ?_;intro ac T
  replace T:=T.pick [0,3,4,5,6,7] rfl
  refine Zln ?_
  exact ⟨_,by omega,w,x+1,xs,rfl,(by omega),(by rw [hp,wyN_succ,if_neg (fun h9=>by rw [hste] at h9;rw [Bool.or_eq_false_iff,Bool.or_eq_false_iff,decide_eq_false_iff_not,decide_eq_false_iff_not] at h6;obtain ⟨k1,k2,k3⟩:=h6;rcases h9 with h9 | h9 | h9;exact k1 (by omega);rw [k2] at h9;cases h9;exact k3 h9),Zx4]),hj,hk0,hB,hb,hP,qm,qy,qn,T.pick [1,2,3,4,5,0] rfl,M.mask [] rfl⟩
 intro h3
 refine wp_exit ?_
 refine Zet ?_
 refine Zet ?_
 refine ex_hit ?_
 refine nm_then ?_
 refine Zsr ?_
 refine lq T (Zra Z evc) ?_;intro ac T
 replace T:=T.pick [0] rfl
 refine Zln ?_
 refine wp_ret ?_
 refine rt_1 T Z (T.e 0 Z) ?_
 refine ⟨true,xs,Z,hk0.trans (KpB.of M),fun _=>⟨(by rw [wyN_end,hp,show x=2 by omega]),hJ _ _ _ hj ((KpN.of_below M.below).mono hB)⟩,(fun h=>by cases h)⟩
def NextL (lr gp gy gn B:Nat) (Pr:List Int→Prop) (eb:Nat→Prop) (J Jx:List LsX→World→Prop) (n:Nat) (k:Nat):Prop:=∀ (f:Nat) (b:List Int) (A:Option Addr) (m c:Nat) (pre:List LsX) (w0 w:World),f≤n→m=b.length→m≤c→(∀ x∈b,0≤x∧x < (n:Int))→b.length+k≤n→KpB lr eb w0 w→B≤w.heap.size→RdF B w A m (ic b)→J pre w →
 Bk w gp #[Zi (n:Int)]→Bk w gy #[.func (.yield lr) #[] #[]]→Bk w gn #[.func (.func 146) #[] #[Zj gy,Zj gp,Zj gn]] →
 Calls Try.prog 146 #[.slice A m c,Zi (f:Int),Zi (k:Int),Zj gy,Zj gp,Zj gn] w (NextPost J Jx lr eb (choK n k f b) pre w0)
set_option maxHeartbeats 4000000 in
theorem nextL_step (lr gp gy gn B : Nat) (Pr : List Int → Prop) (eb : Nat → Prop) (J Jx : List LsX → World → Prop) (n : Nat) (k f : Nat) (b : List Int) (A : Option Addr) (c : Nat) (pre : List LsX) (w0 : World)  (w : World) (hlr : lr < B) (heb : ∀ b, eb b → b < B) (hxm : ¬ (gp = lr ∨ eb gp)) (hxy : ¬ (gy = lr ∨ eb gy)) (hxn : ¬ (gn = lr ∨ eb gn)) (hJ : Calm B J) (hJx : Calm B Jx)
   (hY:∀ pre x W1,J pre W1→LsOx B Pr x W1→YieldAt Fence.wide 6 Try.prog lr (lsV x).toArray W1 fun e W' =>
     (e=.returned (.bool true)∧J (pre++[x]) W'∧KpB lr eb W1 W')∨(e=.returned (.bool false)∧Jx (pre++[x]) W'∧KpB lr eb W1 W'))
   (hPr:∀ b:List Int,(∀ x∈b,0≤x∧x < (n:Int))→b.length≤n→Pr b) (h6:n≤1000)
   (ih:∀ k1,k=k1+1→NextL lr gp gy gn B Pr eb J Jx n k1) (hbc:b.length≤c) (hbe:∀ x∈b,0≤x∧x < (n:Int)) (hm:b.length+k≤n) (hf:f≤n) (hk0:KpB lr eb w0 w) (hB:B≤w.heap.size) (hb:RdF B w A b.length (ic b)) (hj:J pre w) (qm:Bk w gp #[Zi (n:Int)]) (qy:Bk w gy #[.func (.yield lr) #[] #[]]) (qn:Bk w gn #[.func (.func 146) #[] #[Zj gy,Zj gp,Zj gn]])  :
   Calls Try.prog 146 #[.slice A b.length c,Zi (f:Int),Zi (k:Int),Zj gy,Zj gp,Zj gn] w (NextPost J Jx lr eb (choK n k f b) pre w0):=by
 obtain ⟨bG,oG,SG⟩:=Sp.old hb.1
 refine Zpx noEx Try.func146 Z 34 Z [.slice A b.length c,Zi (f:Int),Zi (k:Int),Zj gy,Zj gp,Zj gn] Z Z (Mem.init w _) ?_
 intro ac wc T M
 refine Zsr ?_
 refine lq T (Zra Z evc) ?_;intro ac T
 replace T:=T.pick [1,2,3,4,5,6] rfl
 refine Zln ?_
 refine wp_seq ?_
 refine Zsr ?_
 refine Zg2 T (Zq (Zrm Z (T.e 2 Z))) Z (fun _ T=>Zq (rn_eql Z (T.e 0 Z) evc)) Z ?_;intro ac T
 replace T:=T.pick [0,2,3,4,5,6,7] rfl
 refine Zln ?_
 refine wp_if (T.e 0 Z) ?_ ?_
 ·intro h1
  refine wp_seq ?_
  refine fr_lit ?_
  refine fl_q T Z Z Z Z (Zro (Mem.old M qy (fun h=>h)) Z (T.e 4 Z) Z) ?_;intro ac T
  refine fl_q T Z Z Z Z (Zrm Z (T.e 2 Z)) ?_;intro ac T
  refine fl_y Z ?_;intro K hK
  have hj9:=hJ _ _ _ hj ((KpN.of_below M.below).mono hB)
  have hb9:=hb.mem M
  have hk9:=hk0.trans (KpB.of M)
  have hB9:=Nat.le_trans hB M.size
  refine ow_yield T Z Z Z Z (T.e 1 Z) (.cons (T.e 0 Z) .nil) (hY pre ⟨b,A,c⟩ _ hj9 ⟨hb9,hbc,hPr b hbe (by omega)⟩) ?_
  clear T M
  rintro e wc (⟨rfl,hj8,hkp⟩ | ⟨rfl,hj8,hkp⟩)
  ·refine ⟨_,Z,?_⟩
   intro ac T
   have M:Mem wc noEx wc []:=Mem.init wc _
   refine Zso hK _ _ ?_;clear hK K
   refine fl_q T Z Z Z Z (Zra Z (T.e 0 Z)) ?_;intro ac T
   refine fl_nil ?_
   replace T:=T.pick [0] rfl
   refine Znr ?_
   refine Zrt ?_
   refine rt_1 T Z (T.e 0 Z) ?_
   have hw9:choK n k f b=[b]:=by rw [show k=0 by omega];rfl
   rw [hw9]
   refine ⟨true,[⟨b,A,c⟩],Z,(hk9.trans hkp).trans (KpB.of M),?_,?_⟩
   exact fun _=>⟨rfl,hJ _ _ _ hj8 ((KpN.of_below M.below).mono (Nat.le_trans hB9 hkp.size))⟩
   exact fun h=>by cases h
  refine ⟨_,Z,?_⟩
  intro ac T
  have M:Mem wc noEx wc []:=Mem.init wc _
  refine Zso hK _ _ ?_;clear hK K
  refine fl_q T Z Z Z Z (Zra Z (T.e 0 Z)) ?_;intro ac T
  refine fl_nil ?_
  replace T:=T.pick [0] rfl
  refine Znr ?_
  refine Zrt ?_
  refine rt_1 T Z (T.e 0 Z) ?_
  have hw9:choK n k f b=[b]:=by rw [show k=0 by omega];rfl
  rw [hw9]
  refine ⟨false,[⟨b,A,c⟩],Z,(hk9.trans hkp).trans (KpB.of M),?_,?_⟩
  exact fun h=>by cases h
  exact fun _=>⟨List.prefix_refl _,hJx _ _ _ hj8 ((KpN.of_below M.below).mono (Nat.le_trans hB9 hkp.size))⟩
 intro h1
 obtain ⟨k1,hk1⟩:∃ k1,k=k1+1:=⟨k - 1,by omega⟩
 refine Zsk ?_
 refine wp_seq ?_
 refine Zsr ?_
 refine Zg2 T (Zq (Zrm Z (T.e 2 Z))) Z (Za 0 Z Z) Z ?_;intro ac T
 replace T:=T.pick [0,3,5,7,8] rfl
 refine Zln ?_
 refine wp_block ?_
 refine wp_loop_n (fun mz ac wc=>∃ (w:World) (x:Nat) (xs:List LsX),mz=n - f - x∧(x≤n - f)∧(xs.map LsX.l=chN n k1 f b x)∧(J (pre++xs) w)∧(KpB lr eb w0 w)∧(B≤w.heap.size)∧(RdF B w A b.length (ic b))∧(Bk w gp #[Zi (n:Int)])∧(Bk w gy #[.func (.yield lr) #[] #[]])∧(Bk w gn #[.func (.func 146) #[] #[Zj gy,Zj gp,Zj gn]])∧Tm ac 34 [(0,.slice A b.length c),(2,Zi (k:Int)),(4,Zj gp),(5,Zj gn),(10,Zi ((f+x:Nat):Int))]∧Mem w noEx wc []) ?_ ?_
 ·exact ⟨_,w,0,[],Z,(by omega),Z,(by simpa using hj),hk0,hB,hb,qm,qy,qn,T.pick [1,2,3,4,0] Z,M.mask [] Z⟩
 clear T M
 rintro mz ac wc ⟨w,x,xs,hmm1,hx,hp,hj,hk0,hB,hb,qm,qy,qn,T,M⟩
 refine wp_seq ?_
 refine Zsr ?_
 refine Zg3 T (Zq (Zrm Z (T.e 4 Z))) Z (fun _ T=>Zq (Zro (Mem.old M qm (fun h=>h)) Z (T.e 3 Z) Z)) Z (fun _ T=>Zq (rn_lss Z (T.e 1 Z) (T.e 0 Z))) Z ?_;intro ac T
 replace T:=T.pick [0,3,4,5,6,7] rfl
 refine Zln ?_
 refine wp_if (T.e 0 Z) ?_ ?_
 ·intro h2
  obtain ⟨bG,oG,SG⟩:=Sp.old hb.1
  refine Zsk ?_
  refine wp_seq ?_
  refine wp_block ?_
  refine wp_seq ?_
  refine g_startT M 12 (by kernel_rfl) Z (by kernel_rfl) ?_
  clear M;intro wc M
  refine g_addG 10 M ?_
  refine g_have (fun ac wc=>∃ (Acur6_2:Option Addr),∃ (ccur6_2:Nat),∃ (Icur6_2:List (Nat×BA)),(Cl 3 1 Acur6_2 b.length ccur6_2 (ic b) Icur6_2)∧∃ (gr6_4:Nat),Tm ac 34 [(26,.slice (some ⟨gr6_4,0,none⟩) 1 1),(24,.slice Acur6_2 b.length ccur6_2),(31,Zi ((k:Int) - 1)),(30,Zi (k:Int)),(29,Zi (((f+x:Nat):Int)+1)),(28,Zi ((f+x:Nat):Int)),(25,Zi ((f+x:Nat):Int)),(23,.slice A b.length c),(22,.func (.func 146) #[] #[Zj gy,Zj gp,Zj gn]),(19,.bool (decide (((f+x:Nat):Int) < (n:Int)))),(0,.slice A b.length c),(2,Zi (k:Int)),(4,Zj gp),(5,Zj gn),(10,Zi ((f+x:Nat):Int))]∧Mem w noEx wc ((gr6_4,.cells [Zi ((f+x:Nat):Int)])::Icur6_2)) (Zpb 12 991) 3 ?_ ?_
  ·clear T M
   rintro ac wc ⟨Acur6_2,ccur6_2,Icur6_2,hclur6_2,gr6_4,T,M⟩
   refine gw 5 1023 ?_;intro K hK
   refine ow_appC ([(gr6_4,.cells [Zi ((f+x:Nat):Int)])]) Try.info3 hclur6_2 M (by first | rfl | simp) T Z Z Z Z Try.underlying28 Z Z Z (by omega) (T.e 1 Z) (T.e 0 Z) (Zne (i:=0) Z) Z Z ?_;clear M T;intro ga1 cga1 wc ac M T
   refine Zso hK _ _ (MA.mk (fun _=>M.mask [false,false] Z) trivial) ?_;clear hK K
   refine gw 10 2047 ?_;intro K hK
   have e9:((f+x:Nat):Int)+1=((f+x+1:Nat):Int):=by omega
   have e8:(k:Int) - 1=(k1:Int):=by omega
   rw [e9,e8] at T
   refine Zoc (first:=[]) (cap:=[Zj gy,Zj gp,Zj gn]) T Z Z Z Z (T.e 9 Z) (.cons (T.e 0 Z) (.cons (T.e 5 Z) (.cons (T.e 3 Z) .nil))) Try.func146 Z Z ?_
   refine Calls.mono (ih k1 hk1 (f+x+1) (b++[((f+x:Nat):Int)]) _ _ _ (pre++xs) _ _ (by omega) (by simp) ((Cl.row _ _ ga1 _ _ _).capLe M (List.Sublist.cons_cons _ (Zz9 _))) (fun y hy=>by rcases List.mem_append.1 hy with hy | hy;exact hbe y hy;rw [List.mem_singleton.1 hy];omega) (by simp;omega) (KpB.of (Mem.init _ _)) (Nat.le_trans hB M.size) ⟨by rw [← ic_snoc];exact M.rdRow (Zne (i:=0) rfl),fun b9 o9 h9 _=>by injection h9 with h9;injection h9 with h9 _ _;rw [← h9];exact Nat.le_trans hB (M.ge (Zne (i:=0) rfl))⟩ (hJ _ _ _ hj ((KpN.of_below M.below).mono hB)) (M.old qm (fun h=>h)) (M.old qy (fun h=>h)) (M.old qn (fun h=>h))) ?_
   clear T;rintro e wc ⟨rur6_10,xsur6_10,rfl,hkpur6_10,hnrur6_10⟩ ac T
   have hkpur6_10:=(KpB.of M).trans hkpur6_10
   clear M
   have qm:=Mem.old hkpur6_10 qm hxm
   have qy:=Mem.old hkpur6_10 qy hxy
   have qn:=Mem.old hkpur6_10 qn hxn
   have hb:=hkpur6_10.rdF hlr heb hb
   have hk0:=hk0.trans hkpur6_10
   have hB:=Nat.le_trans hB hkpur6_10.size
   obtain ⟨w,hwe⟩:∃ q:World,q=wc:=⟨_,rfl⟩
   have M:Mem w noEx wc []:=by rw [hwe];exact Mem.init wc _
   rw [← hwe] at qm qy qn hb hB hk0 hnrur6_10
   clear hwe hkpur6_10
   refine Zso hK _ _ (MA.mk (fun h=>(no_of (by kernel_rfl) h).elim) trivial) ?_;clear hK K
   refine g_q (T:=T) (i:=11) Z (by kernel_rfl) (by kernel_rfl:(Zpb 12 2047).setIfInBounds 11 true=Zpb 12 4095) (si_and (si_G Z) si_T) (fun _ _ _ h=>h) Z Z Z Z (fun _ _ _ _ _=>(rn_not Z (T.e 0 Z))) ?_;intro ac T
   refine Zgd (by kernel_rfl) ?_
   replace T:=T.pick [0,13,14,15,16,17] rfl
   refine nm_then ?_
   refine wp_cond_split (T.e 0 Z) ?_ ?_
   ·intro h3
    (have h3':=h3;try simp only [Zb1,Zb2,Zb3,Zb4,Zb5,Zb6,Zb7] at h3')
    refine Zsr ?_
    refine lq T (Zra Z evc) ?_;intro ac T
    replace T:=T.pick [0] rfl
    refine Zln ?_
    refine wp_ret ?_
    refine Zrb ?_
    refine Zrt ?_
    refine Zrt ?_
    refine Zrb ?_
    refine Zrt ?_
    refine rt_1 T Z (T.e 0 Z) ?_
    have hr9:rur6_10=false:=by simp_all
    have h8:=hnrur6_10.2 hr9
    rw [hk1]
    refine ⟨false,xs++xsur6_10,Z,hk0.trans (KpB.of M),(fun h=>by cases h),fun _=>⟨(by rw [List.map_append,hp];exact chN_pre (by omega) h8.1),?_⟩⟩
    rw [← List.append_assoc]
    exact hJx _ _ _ h8.2 ((KpN.of_below M.below).mono hB)
   intro h3
   (have h3':=h3;try simp only [Zb1,Zb2,Zb3,Zb4,Zb5,Zb6,Zb7] at h3')
   refine wp_skip ?_
   refine Znb ?_
   refine nm_then ?_
   refine wp_region_lit ?_
   refine Zg2 T (Zq (Zrm Z (T.e 5 Z))) Z (fun _ T=>Zq (rn_add Z (T.e 0 Z) evc (by omega))) Z ?_;intro ac T
   refine l_q (v:=(Zi (((f+x:Nat):Int)+1))) (T.pick [0,1,2,3,4,5,6] Z) Z Z Z Z (Zra Z (T.e 0 Z)) ?_;intro ac T
   replace T:=T.pick [0,4,5,6,7] rfl
   refine Zln ?_
   exact ⟨_,by omega,_,x+1,(xs++xsur6_10),Z,(by omega),(by rw [List.map_append,hp,(hnrur6_10.1 (by simp_all)).1,chN_succ]),(by rw [← List.append_assoc];exact (hnrur6_10.1 (by simp_all)).2),hk0,hB,hb,qm,qy,qn,T.pick [1,2,3,4,0] Z,M.mask [] Z⟩
  intro H0
  refine g_q (T:=T) (i:=0) Z (by kernel_rfl) (by kernel_rfl:(Zpb 12 0).setIfInBounds 0 true=Zpb 12 1) (si_and (si_G Z) si_T) (fun _ _ _ h=>h) Z Z Z Z (fun B w' hD hl hS=>(Zro (Mem.old (show Mem w noEx w' _ from ((MA.lft hS) (hD.wait (i:=0) (m:=10) (by kernel_rfl) hl))) qn (fun h=>h)) Z (T.e 4 Z) Z)) ?_;intro ac T
  refine g_q (T:=T) (i:=1) Z (by kernel_rfl) (by kernel_rfl:(Zpb 12 1).setIfInBounds 1 true=Zpb 12 3) (si_and (si_G Z) si_T) (fun _ _ _ h=>h) Z Z Z Z (fun _ _ _ _ _=>(Zrm Z (T.e 2 Z))) ?_;intro ac T
  refine g_q (T:=T) (i:=3) Z (by kernel_rfl) (by kernel_rfl:(Zpb 12 3).setIfInBounds 3 true=Zpb 12 11) (si_and (si_G Z) si_T) (fun _ _ _ h=>h) Z Z Z Z (fun _ _ _ _ _=>(Zrm Z (T.e 7 Z))) ?_;intro ac T
  refine g_q (T:=T) (i:=6) Z (by kernel_rfl) (by kernel_rfl:(Zpb 12 11).setIfInBounds 6 true=Zpb 12 75) (si_and (si_G Z) si_T) (fun _ _ _ h=>h) Z Z Z Z (fun _ _ _ _ _=>(Zrm Z (T.e 8 Z))) ?_;intro ac T
  refine g_q (T:=T) (i:=7) Z (by kernel_rfl) (by kernel_rfl:(Zpb 12 75).setIfInBounds 7 true=Zpb 12 203) (si_and (si_G Z) si_T) (fun _ _ _ h=>h) Z Z Z Z (fun _ _ _ _ _=>(rn_add Z (T.e 0 Z) evc (by omega))) ?_;intro ac T
  refine g_q (T:=T) (i:=8) Z (by kernel_rfl) (by kernel_rfl:(Zpb 12 203).setIfInBounds 8 true=Zpb 12 459) (si_and (si_G Z) si_T) (fun _ _ _ h=>h) Z Z Z Z (fun _ _ _ _ _=>(Zrm Z (T.e 7 Z))) ?_;intro ac T
  refine g_q (T:=T) (i:=9) Z (by kernel_rfl) (by kernel_rfl:(Zpb 12 459).setIfInBounds 9 true=Zpb 12 971) (si_and (si_G Z) si_T) (fun _ _ _ h=>h) Z Z Z Z (fun _ _ _ _ _=>(rn_sub Z (T.e 0 Z) evc (by omega))) ?_;intro ac T
  refine g_m2 (i:=2) (j:=4) (by kernel_rfl) ?_ ?_
  ·refine gi 975 ?_;intro K hK
   refine Zod T Z Z Z Z evf (.cons (T.e 5 Z) .nil) Try.func111 Z Z ?_
   refine Calls.mono (cloneI_any A c b _ (SG.rd M (Zz9 _)) (by omega)) ?_
   clear T;rintro e wc ⟨Acur6_2,ccur6_2,Icur6_2,rfl,hclur6_2,N⟩ ac T
   replace M:=(M.join N).swapI
   clear N
   replace M:Mem w noEx wc (Icur6_2):=M
   refine Zso hK _ _ (MA.mk (fun _=>M.perm [] Z Z) trivial) ?_;clear hK K
   refine gw 4 991 ?_;intro K hK
   refine ow_bs (e:=3) [Zi ((f+x:Nat):Int)] M T Z Z Z Z (.cons (T.e 5 Z) .nil) (fun _=>by kernel_rfl) ?_;clear M T;intro gr6_4 wc ac M T
   refine Zso hK _ _ (MA.mk (fun _=>M.perm [] Z Z) trivial) ?_;clear hK K
   exact H0 _ _ ⟨Acur6_2,ccur6_2,Icur6_2,hclur6_2,gr6_4,T,M⟩
  refine gi 987 ?_;intro K hK
  refine ow_bs (e:=3) [Zi ((f+x:Nat):Int)] M T Z Z Z Z (.cons (T.e 4 Z) .nil) (fun _=>by kernel_rfl) ?_;clear M T;intro gr6_4 wc ac M T
  refine Zso hK _ _ (MA.mk (fun _=>M.mask [false] Z) trivial) ?_;clear hK K
  refine gw 2 991 ?_;intro K hK
  refine Zod T Z Z Z Z evf (.cons (T.e 6 Z) .nil) Try.func111 Z Z ?_
  refine Calls.mono (cloneI_any A c b _ (SG.rd M (Zz9 _)) (by omega)) ?_
  clear T;rintro e wc ⟨Acur6_2,ccur6_2,Icur6_2,rfl,hclur6_2,N⟩ ac T
  replace M:=(M.join N).swapI
  clear N
  replace M:Mem w noEx wc ((gr6_4,.cells [Zi ((f+x:Nat):Int)])::Icur6_2):=M
  refine Zso hK _ _ (MA.mk (fun _=>M.perm [] Z Z) trivial) ?_;clear hK K
  exact H0 _ _ ⟨Acur6_2,ccur6_2,Icur6_2,hclur6_2,gr6_4,T.pick [1,0,2,3,4,5,6,7,8,9,10,11,12,13,14] Z,M⟩
 intro h2
 refine wp_exit ?_
 refine Zet ?_
 refine Zet ?_
 refine ex_hit ?_
 refine nm_then ?_
 refine Zsr ?_
 refine lq T (Zra Z evc) ?_;intro ac T
 replace T:=T.pick [0] rfl
 refine Zln ?_
 refine wp_ret ?_
 refine rt_1 T Z (T.e 0 Z) ?_
 rw [hk1]
 refine ⟨true,xs,Z,hk0.trans (KpB.of M),fun _=>⟨(by rw [chN_end,hp,show x=n - f by omega]),hJ _ _ _ hj ((KpN.of_below M.below).mono hB)⟩,(fun h=>by cases h)⟩
theorem nextW_any (lr gp gy gn B:Nat) (Pr:List Int→Prop) (eb:Nat→Prop) (J Jx:List LsX→World→Prop) (p:List Nt) (P:Option Addr) (pc:Nat) (many:Int) (hlr:lr < B) (heb:∀ b,eb b→b < B) (hxm : ¬ (gp=lr∨eb gp)) (hxy : ¬ (gy=lr∨eb gy)) (hxn : ¬ (gn=lr∨eb gn)) (hJ:Calm B J) (hJx:Calm B Jx)
  (hY:∀ pre x W1,J pre W1→LsOx B Pr x W1→YieldAt Fence.wide 6 Try.prog lr (lsV x).toArray W1 fun e W' =>
   (e=.returned (.bool true)∧J (pre++[x]) W'∧KpB lr eb W1 W')∨(e=.returned (.bool false)∧Jx (pre++[x]) W'∧KpB lr eb W1 W'))
  (hpk:∀ W W',KpB lr eb W W'→Rd W W.heap.size 4 P p.length (ntc p)→Rd W' W'.heap.size 4 P p.length (ntc p)) (hPr:∀ b:List Int,b.length=p.length→Pr b) (h6:p.length≤6) (k:Nat):NextW lr gp gy gn B Pr eb J Jx p P pc many k:=by
 induction k with
 | zero =>
  intro b A m c pre w0 w hm hc hk hk0 hB hb hj hP qm qy qn
  subst hm
  exact nextW_step lr gp gy gn B Pr eb J Jx p P pc many 0 b A c pre w0 w hlr heb hxm hxy hxn hJ hJx hY hpk hPr h6 (fun k1 h=>by omega) hc hk hk0 hB hb hj hP qm qy qn
 | succ k ih =>
  intro b A m c pre w0 w hm hc hk hk0 hB hb hj hP qm qy qn
  subst hm
  exact nextW_step lr gp gy gn B Pr eb J Jx p P pc many (k+1) b A c pre w0 w hlr heb hxm hxy hxn hJ hJx hY hpk hPr h6 (fun k1 h=>by
   obtain rfl:k=k1:=by omega
   exact ih) hc hk hk0 hB hb hj hP qm qy qn
theorem nextL_any (lr gp gy gn B:Nat) (Pr:List Int→Prop) (eb:Nat→Prop) (J Jx:List LsX→World→Prop) (n:Nat) (hlr:lr < B) (heb:∀ b,eb b→b < B) (hxm : ¬ (gp=lr∨eb gp)) (hxy : ¬ (gy=lr∨eb gy)) (hxn : ¬ (gn=lr∨eb gn)) (hJ:Calm B J) (hJx:Calm B Jx)
  (hY:∀ pre x W1,J pre W1→LsOx B Pr x W1→YieldAt Fence.wide 6 Try.prog lr (lsV x).toArray W1 fun e W' =>
   (e=.returned (.bool true)∧J (pre++[x]) W'∧KpB lr eb W1 W')∨(e=.returned (.bool false)∧Jx (pre++[x]) W'∧KpB lr eb W1 W'))
  (hPr:∀ b:List Int,(∀ x∈b,0≤x∧x < (n:Int))→b.length≤n→Pr b) (h6:n≤1000) (k:Nat):NextL lr gp gy gn B Pr eb J Jx n k:=by
 induction k with
 | zero =>
  intro f b A m c pre w0 w hf hm hc hbe hk hk0 hB hb hj qm qy qn
  subst hm
  exact nextL_step lr gp gy gn B Pr eb J Jx n 0 f b A c pre w0 w hlr heb hxm hxy hxn hJ hJx hY hPr h6 (fun k1 h=>by omega) hc hbe hk hf hk0 hB hb hj qm qy qn
 | succ k ih =>
  intro f b A m c pre w0 w hf hm hc hbe hk hk0 hB hb hj qm qy qn
  subst hm
  exact nextL_step lr gp gy gn B Pr eb J Jx n (k+1) f b A c pre w0 w hlr heb hxm hxy hxn hJ hJx hY hPr h6 (fun k1 h=>by
   obtain rfl:k=k1:=by omega
   exact ih) hc hbe hk hf hk0 hB hb hj qm qy qn
def bysN (p:List Nt) (x:Nat):List (List Int):=(List.range x).flatMap fun m:Nat=>wayK p (m:Int) p.length []
def bysT (p:List Nt):List (List Int):=bysN p (max p.length 1)
theorem bysN_succ (p:List Nt) (x:Nat):bysN p (x+1)=bysN p x++wayK p (x:Int) p.length []:=by
 unfold bysN
 rw [List.range_succ,List.flatMap_append]
 simp
theorem bysN_mono {p:List Nt} {x:Nat}:∀ y,bysN p x <+: bysN p (x+y)
 | 0=>List.prefix_refl _
 | y+1=>(bysN_mono y).trans (by rw [← Nat.add_assoc,bysN_succ];exact List.prefix_append _ _)
theorem bysN_pre {p:List Nt} {x:Nat} {t:List (List Int)} (hx:x < max p.length 1) (h:t <+: wayK p (x:Int) p.length []):bysN p x++t <+: bysT p:=by
 have h1:bysN p x++t <+: bysN p (x+1):=by rw [bysN_succ];exact (List.prefix_append_right_inj _).2 h
 have h2:=bysN_mono (p:=p) (x:=x+1) (max p.length 1 - (x+1))
 rw [show x+1+(max p.length 1 - (x+1))=max p.length 1 by omega] at h2
 exact h1.trans h2
def lisN (n x:Nat):List (List Int):=(List.range x).flatMap fun m:Nat=>choK n m 0 []
def lisT (n:Nat):List (List Int):=lisN n (n+1)
theorem lisN_succ (n x:Nat):lisN n (x+1)=lisN n x++choK n x 0 []:=by
 unfold lisN
 rw [List.range_succ,List.flatMap_append]
 simp
theorem lisN_mono {n x:Nat}:∀ y,lisN n x <+: lisN n (x+y)
 | 0=>List.prefix_refl _
 | y+1=>(lisN_mono y).trans (by rw [← Nat.add_assoc,lisN_succ];exact List.prefix_append _ _)
theorem lisN_pre {n x:Nat} {t:List (List Int)} (hx:x < n+1) (h:t <+: choK n x 0 []):lisN n x++t <+: lisT n:=by
 have h1:lisN n x++t <+: lisN n (x+1):=by rw [lisN_succ];exact (List.prefix_append_right_inj _).2 h
 have h2:=lisN_mono (n:=n) (x:=x+1) (n+1 - (x+1))
 rw [show x+1+(n+1 - (x+1))=n+1 by omega] at h2
 exact h1.trans h2
theorem rd_kpB {l size n:Nat} {eb:Nat→Prop} {W W':World} {P:Option Addr} {xs:List Value} (h:KpB l eb W W') (hx:∀ b o,P=some ⟨b,o,none⟩→0 < n→¬ (b=l∨eb b)) (r:Rd W W.heap.size size P n xs):Rd W' W'.heap.size size P n xs :=
 ⟨r.1,fun hn=>by
  obtain ⟨b,o,h1,h2,h3⟩:=r.2 hn
  exact ⟨b,o,h1,Nat.lt_of_lt_of_le h2 h.size,fun j u hu=>(World.cell?_of_block (w:=W) (a:=⟨b,o+j,none⟩) (h.block b h2 (hx b o h1 hn))).trans (h3 j u hu)⟩⟩
set_option maxHeartbeats 2000000 in
theorem itW_in (lr b1 B : Nat) (Pr : List Int → Prop) (eb : Nat → Prop) (J Jx : List LsX → World → Prop) (p : List Nt) (P : Option Addr) (pc : Nat)  (w : World) (hx1 : ¬ (b1 = lr ∨ eb b1)) (hlr : lr < B) (heb : ∀ b, eb b → b < B) (hB : B ≤ w.heap.size) (hJ : Calm B J) (hJx : Calm B Jx)
   (hY:∀ pre x W1,J pre W1→LsOx B Pr x W1→YieldAt Fence.wide 6 Try.prog lr (lsV x).toArray W1 fun e W' =>
     (e=.returned (.bool true)∧J (pre++[x]) W'∧KpB lr eb W1 W')∨(e=.returned (.bool false)∧Jx (pre++[x]) W'∧KpB lr eb W1 W'))
   (q1:Bk w b1 #[.slice P p.length pc]) (hj:J [] w) (hP:Rd w w.heap.size 4 P p.length (ntc p)) (hpx:∀ b o,P=some ⟨b,o,none⟩→0 < p.length→¬ (b=lr∨eb b)) (hPr:∀ b:List Int,b.length=p.length→Pr b) (h6:p.length≤6)  :
   Calls Try.prog 142 #[.func (.yield lr) #[] #[],Zj b1] w fun e W'=>(∃ v,e=.returned v)∧((∃ xs:List LsX,xs.map LsX.l=bysT p∧J xs W')∨(∃ pre:List LsX,pre.map LsX.l <+: bysT p∧Jx pre W')):=by
 obtain ⟨bP,oP,SP⟩:=Sp.old hP
 refine Zpx noEx Try.func142 Z 17 Z [.func (.yield lr) #[] #[],Zj b1] Z Z (Mem.init w _) ?_
 intro ac wc T M
 refine Zsr ?_
 refine Zl2 ?_
 refine Zob M T Z Z Z Z (T.e 0 Z) Z ?_;clear M T;intro g1 wc ac M T
 replace T:=T.pick [0,2] rfl
 refine Zln ?_
 refine Zsr ?_
 refine Zl2 ?_
 refine Zoa M T Z Z Z Z ?_;clear M T;intro g2 wc ac M T
 refine Zln ?_
 refine Zsr ?_
 refine lq (v:=(.func (.func 143) #[] #[Zj b1,Zj g1,Zj g2])) T (rn_makeFunc Z .nil (.cons (T.e 2 Z) (.cons (T.e 1 Z) (.cons (T.e 0 Z) .nil)))) ?_;intro ac T
 refine Zl2 ?_
 refine Zot M T Z Z (T.e 1 Z) (T.e 0 Z) Z .head Z Z ?_;clear M T;intro wc ac M T
 replace T:=T.pick [1,3] rfl
 refine Zln ?_
 refine Zsr ?_
 refine Zg4 T (Zq (Zro (Mem.old M q1 (fun h=>h)) Z (T.e 1 Z) Z)) Z (Zl Try.underlying44 0 Z Z) Z (fun _ T=>Zq (rn_max2 Z (T.e 0 Z) evc)) Z (fun _ T=>Zq (Zrm Z evc)) Z ?_;intro ac T
 replace T:=T.pick [0,1,4] rfl
 refine Zln ?_
 refine wp_block ?_
 have hgy:=Nat.le_trans hB (M.ge (Zne (i:=1) rfl))
 have hgn:=Nat.le_trans hB (M.ge (Zne (i:=0) rfl))
 have qy:=M.nth 1 rfl
 have qn:=M.nth 0 rfl
 have q1:=M.old q1 (fun h=>h)
 have hj:=hJ _ _ _ hj ((KpN.of_below M.below).mono hB)
 have hP:=SP.rd M (Zz9 _)
 have hB:=Nat.le_trans hB M.size
 clear M
 obtain ⟨w,hwe⟩:∃ q:World,q=wc:=⟨_,rfl⟩
 have M:Mem w noEx wc []:=by rw [hwe];exact Mem.init wc _
 rw [← hwe] at q1 qy qn hj hB hP
 clear hwe
 refine wp_loop_n (fun mz ac wc=>∃ (w:World) (x:Nat) (xs:List LsX),mz=max p.length 1 - x∧(x≤max p.length 1)∧(xs.map LsX.l=bysN p x)∧(J xs w)∧(B≤w.heap.size)∧(Bk w b1 #[.slice P p.length pc])∧(Bk w g1 #[.func (.yield lr) #[] #[]])∧(Bk w g2 #[.func (.func 143) #[] #[Zj b1,Zj g1,Zj g2]])∧(Rd w w.heap.size 4 P p.length (ntc p))∧Tm ac 17 [(3,Zj g2),(8,Zi (max ((p.length:Nat):Int) 1)),(9,Zi (x:Int))]∧Mem w noEx wc []) ?_ ?_
 ·exact ⟨_,w,0,[],Z,(Nat.zero_le _),Z,hj,hB,q1,qy,qn,hP,T.pick [2,1,0] Z,M.mask [] Z⟩
 clear T M
 rintro mz ac wc ⟨w,x,xs,hmm1,hx,hp,hj,hB,q1,qy,qn,hP,T,M⟩
 refine Zsr ?_
 refine lq T (rn_lss Z (T.e 2 Z) (T.e 1 Z)) ?_;intro ac T
 refine Zln ?_
 refine wp_seq ?_
 refine wp_if (T.e 0 Z) ?_ ?_
 ·intro h1
  obtain ⟨bP,oP,SP⟩:=Sp.old hP
  refine Zsk ?_
  refine wp_seq ?_
  refine wp_block ?_
  refine Zsr ?_
  refine Zg2 T (Zq (Zrm Z (T.e 3 Z))) Z (Za 0 Z Z) Z ?_;intro ac T
  replace T:=T.pick [0,3,4,5] rfl
  refine Zln ?_
  refine Zsr ?_
  refine Zg2 T (Zq (Zro (Mem.old M qn (fun h=>h)) Z (T.e 1 Z) Z)) Z (Zm 1 Z Z) Z ?_;intro ac T
  refine Zl2 ?_
  refine Zoc (first:=[]) (cap:=[Zj b1,Zj g1,Zj g2]) T Z Z Z Z (T.e 1 Z) (.cons evc (.cons (T.e 0 Z) .nil)) Try.func143 Z Z ?_
  refine Calls.mono (nextW_any lr b1 g1 g2 B Pr eb J Jx p P pc (x:Int) hlr heb hx1 (fun h9=>h9.elim (fun h9=>by omega) (fun h9=>by have:=heb _ h9;omega)) (fun h9=>h9.elim (fun h9=>by omega) (fun h9=>by have:=heb _ h9;omega)) hJ hJx hY (fun _ _ h r=>rd_kpB h hpx r) hPr h6 p.length [] none 0 0 xs _ _ Z (Nat.le_refl _) (by simp) (KpB.of (Mem.init _ _)) (Nat.le_trans hB M.size) ⟨⟨by simp [ic],fun h=>absurd h (by omega)⟩,fun _ _ h=>by cases h⟩ (hJ _ _ _ hj ((KpN.of_below M.below).mono hB)) (SP.rd M (Zz9 _)) (M.old q1 (fun h=>h)) (M.old qy (fun h=>h)) (M.old qn (fun h=>h))) ?_
  clear T;rintro e wc ⟨ru1,xsu1,rfl,hkpu1,hnru1⟩ ac T
  have hkpu1:=(KpB.of M).trans hkpu1
  clear M
  have q1:=Mem.old hkpu1 q1 hx1
  have qy:=Mem.old hkpu1 qy (fun h9=>h9.elim (fun h9=>by omega) (fun h9=>by have:=heb _ h9;omega))
  have qn:=Mem.old hkpu1 qn (fun h9=>h9.elim (fun h9=>by omega) (fun h9=>by have:=heb _ h9;omega))
  have hP:=rd_kpB hkpu1 hpx hP
  have hB:=Nat.le_trans hB hkpu1.size
  obtain ⟨w,hwe⟩:∃ q:World,q=wc:=⟨_,rfl⟩
  have M:Mem w noEx wc []:=by rw [hwe];exact Mem.init wc _
  rw [← hwe] at q1 qy qn hB hnru1 hP
  clear hwe hkpu1
  refine lq T (rn_not Z (T.e 0 Z)) ?_;intro ac T
  replace T:=T.pick [0,5,6,7] rfl
  refine Zln ?_
  refine wp_cond_split (T.e 0 Z) ?_ ?_
  ·intro h2
   (have h2':=h2;try simp only [Zb1,Zb2,Zb3,Zb4,Zb5,Zb6,Zb7] at h2')
   refine wp_ret ?_
   refine Zrb ?_
   refine Zrt ?_
   refine Zrt ?_
   refine Zrb ?_
   refine rt_0 T Z ?_
   have hr9:ru1=false:=by simp_all
   have h8:=hnru1.2 hr9
   exact ⟨⟨_,Z⟩,.inr ⟨xs++xsu1,(by rw [List.map_append,hp];exact bysN_pre (by omega) h8.1),hJx _ _ _ h8.2 ((KpN.of_below M.below).mono hB)⟩⟩
  intro h2
  (have h2':=h2;try simp only [Zb1,Zb2,Zb3,Zb4,Zb5,Zb6,Zb7] at h2')
  refine wp_skip ?_
  refine Znb ?_
  refine nm_then ?_
  refine wp_region_lit ?_
  refine lq T (rn_add Z (T.e 3 Z) evc (by omega)) ?_;intro ac T
  refine l_q (v:=(Zi ((x:Int)+1))) (T.pick [0,1,2,3] Z) Z Z Z Z (Zrm Z (T.e 0 Z)) ?_;intro ac T
  replace T:=T.pick [0,3,4] rfl
  refine Zln ?_
  exact ⟨_,by omega,_,x+1,(xs++xsu1),Z,(by omega),(by rw [List.map_append,hp,(hnru1.1 (by simp_all)).1,bysN_succ]),(hnru1.1 (by simp_all)).2,hB,q1,qy,qn,hP,T.pick [1,2,0] Z,M.mask [] Z⟩
 intro h1
 refine wp_exit ?_
 refine Zet ?_
 refine Zet ?_
 refine ex_hit ?_
 refine nm_0 T Z ?_
 refine ⟨⟨_,Z⟩,.inl ⟨xs,?_,hJ _ _ _ hj ((KpN.of_below M.below).mono hB)⟩⟩
 rw [hp]
 unfold bysT
 congr 1
 omega
set_option maxHeartbeats 2000000 in
theorem itL_in (lr b1 B : Nat) (Pr : List Int → Prop) (eb : Nat → Prop) (J Jx : List LsX → World → Prop) (n : Nat)  (w : World) (hx1 : ¬ (b1 = lr ∨ eb b1)) (hlr : lr < B) (heb : ∀ b, eb b → b < B) (hB : B ≤ w.heap.size) (hJ : Calm B J) (hJx : Calm B Jx)
   (hY:∀ pre x W1,J pre W1→LsOx B Pr x W1→YieldAt Fence.wide 6 Try.prog lr (lsV x).toArray W1 fun e W' =>
     (e=.returned (.bool true)∧J (pre++[x]) W'∧KpB lr eb W1 W')∨(e=.returned (.bool false)∧Jx (pre++[x]) W'∧KpB lr eb W1 W'))
   (q1:Bk w b1 #[Zi (n:Int)]) (hj:J [] w) (hPr:∀ b:List Int,(∀ x∈b,0≤x∧x < (n:Int))→b.length≤n→Pr b) (h6:n≤1000)  :
   Calls Try.prog 145 #[.func (.yield lr) #[] #[],Zj b1] w fun e W'=>(∃ v,e=.returned v)∧((∃ xs:List LsX,xs.map LsX.l=lisT n∧J xs W')∨(∃ pre:List LsX,pre.map LsX.l <+: lisT n∧Jx pre W')):=by
 refine Zpx noEx Try.func145 Z 16 Z [.func (.yield lr) #[] #[],Zj b1] Z Z (Mem.init w _) ?_
 intro ac wc T M
 refine Zsr ?_
 refine Zl2 ?_
 refine Zob M T Z Z Z Z (T.e 0 Z) Z ?_;clear M T;intro g1 wc ac M T
 replace T:=T.pick [0,2] rfl
 refine Zln ?_
 refine Zsr ?_
 refine Zl2 ?_
 refine Zoa M T Z Z Z Z ?_;clear M T;intro g2 wc ac M T
 refine Zln ?_
 refine Zsr ?_
 refine lq (v:=(.func (.func 146) #[] #[Zj g1,Zj b1,Zj g2])) T (rn_makeFunc Z .nil (.cons (T.e 1 Z) (.cons (T.e 2 Z) (.cons (T.e 0 Z) .nil)))) ?_;intro ac T
 refine Zl2 ?_
 refine Zot M T Z Z (T.e 1 Z) (T.e 0 Z) Z .head Z Z ?_;clear M T;intro wc ac M T
 replace T:=T.pick [1,3] rfl
 refine Zln ?_
 refine Zsr ?_
 refine Zg3 T (Zq (Zro (Mem.old M q1 (fun h=>h)) Z (T.e 1 Z) Z)) Z (fun _ T=>Zq (rn_add Z (T.e 0 Z) evc (by omega))) Z (fun _ T=>Zq (Zrm Z evc)) Z ?_;intro ac T
 replace T:=T.pick [0,1,3] rfl
 refine Zln ?_
 refine wp_block ?_
 have hgy:=Nat.le_trans hB (M.ge (Zne (i:=1) rfl))
 have hgn:=Nat.le_trans hB (M.ge (Zne (i:=0) rfl))
 have qy:=M.nth 1 rfl
 have qn:=M.nth 0 rfl
 have q1:=M.old q1 (fun h=>h)
 have hj:=hJ _ _ _ hj ((KpN.of_below M.below).mono hB)
 have hB:=Nat.le_trans hB M.size
 clear M
 obtain ⟨w,hwe⟩:∃ q:World,q=wc:=⟨_,rfl⟩
 have M:Mem w noEx wc []:=by rw [hwe];exact Mem.init wc _
 rw [← hwe] at q1 qy qn hj hB
 clear hwe
 refine wp_loop_n (fun mz ac wc=>∃ (w:World) (x:Nat) (xs:List LsX),mz=n+1 - x∧(x≤n+1)∧(xs.map LsX.l=lisN n x)∧(J xs w)∧(B≤w.heap.size)∧(Bk w b1 #[Zi (n:Int)])∧(Bk w g1 #[.func (.yield lr) #[] #[]])∧(Bk w g2 #[.func (.func 146) #[] #[Zj g1,Zj b1,Zj g2]])∧Tm ac 16 [(3,Zj g2),(7,Zi ((n:Int)+1)),(8,Zi (x:Int))]∧Mem w noEx wc []) ?_ ?_
 ·exact ⟨_,w,0,[],Z,(Nat.zero_le _),Z,hj,hB,q1,qy,qn,T.pick [2,1,0] Z,M.mask [] Z⟩
 clear T M
 rintro mz ac wc ⟨w,x,xs,hmm1,hx,hp,hj,hB,q1,qy,qn,T,M⟩
 refine Zsr ?_
 refine lq T (rn_lss Z (T.e 2 Z) (T.e 1 Z)) ?_;intro ac T
 refine Zln ?_
 refine wp_seq ?_
 refine wp_if (T.e 0 Z) ?_ ?_
 ·intro h1
  refine Zsk ?_
  refine wp_seq ?_
  refine wp_block ?_
  refine Zsr ?_
  refine Zg2 T (Zq (Zrm Z (T.e 3 Z))) Z (Za 0 Z Z) Z ?_;intro ac T
  replace T:=T.pick [0,3,4,5] rfl
  refine Zln ?_
  refine Zsr ?_
  refine Zg2 T (Zq (Zro (Mem.old M qn (fun h=>h)) Z (T.e 1 Z) Z)) Z (Zm 1 Z Z) Z ?_;intro ac T
  refine Zl2 ?_
  refine Zoc (first:=[]) (cap:=[Zj g1,Zj b1,Zj g2]) T Z Z Z Z (T.e 1 Z) (.cons evc (.cons evc (.cons (T.e 0 Z) .nil))) Try.func146 Z Z ?_
  refine Calls.mono (nextL_any lr b1 g1 g2 B Pr eb J Jx n hlr heb hx1 (fun h9=>h9.elim (fun h9=>by omega) (fun h9=>by have:=heb _ h9;omega)) (fun h9=>h9.elim (fun h9=>by omega) (fun h9=>by have:=heb _ h9;omega)) hJ hJx hY hPr h6 x 0 [] none 0 0 xs _ _ (Nat.zero_le _) Z (Nat.le_refl _) (fun y hy=>by cases hy) (by simp only [Zx2];omega) (KpB.of (Mem.init _ _)) (Nat.le_trans hB M.size) ⟨⟨by simp [ic],fun h=>absurd h (by omega)⟩,fun _ _ h=>by cases h⟩ (hJ _ _ _ hj ((KpN.of_below M.below).mono hB)) (M.old q1 (fun h=>h)) (M.old qy (fun h=>h)) (M.old qn (fun h=>h))) ?_
  clear T;rintro e wc ⟨ru1,xsu1,rfl,hkpu1,hnru1⟩ ac T
  have hkpu1:=(KpB.of M).trans hkpu1
  clear M
  have q1:=Mem.old hkpu1 q1 hx1
  have qy:=Mem.old hkpu1 qy (fun h9=>h9.elim (fun h9=>by omega) (fun h9=>by have:=heb _ h9;omega))
  have qn:=Mem.old hkpu1 qn (fun h9=>h9.elim (fun h9=>by omega) (fun h9=>by have:=heb _ h9;omega))
  have hB:=Nat.le_trans hB hkpu1.size
  obtain ⟨w,hwe⟩:∃ q:World,q=wc:=⟨_,rfl⟩
  have M:Mem w noEx wc []:=by rw [hwe];exact Mem.init wc _
  rw [← hwe] at q1 qy qn hB hnru1
  clear hwe hkpu1
  refine lq T (rn_not Z (T.e 0 Z)) ?_;intro ac T
  replace T:=T.pick [0,5,6,7] rfl
  refine Zln ?_
  refine wp_cond_split (T.e 0 Z) ?_ ?_
  ·intro h2
   (have h2':=h2;try simp only [Zb1,Zb2,Zb3,Zb4,Zb5,Zb6,Zb7] at h2')
   refine wp_ret ?_
   refine Zrb ?_
   refine Zrt ?_
   refine Zrt ?_
   refine Zrb ?_
   refine rt_0 T Z ?_
   have hr9:ru1=false:=by simp_all
   have h8:=hnru1.2 hr9
   exact ⟨⟨_,Z⟩,.inr ⟨xs++xsu1,(by rw [List.map_append,hp];exact lisN_pre (by omega) h8.1),hJx _ _ _ h8.2 ((KpN.of_below M.below).mono hB)⟩⟩
  intro h2
  (have h2':=h2;try simp only [Zb1,Zb2,Zb3,Zb4,Zb5,Zb6,Zb7] at h2')
  refine wp_skip ?_
  refine Znb ?_
  refine nm_then ?_
  refine wp_region_lit ?_
  refine lq T (rn_add Z (T.e 3 Z) evc (by omega)) ?_;intro ac T
  refine l_q (v:=(Zi ((x:Int)+1))) (T.pick [0,1,2,3] Z) Z Z Z Z (Zrm Z (T.e 0 Z)) ?_;intro ac T
  replace T:=T.pick [0,3,4] rfl
  refine Zln ?_
  exact ⟨_,by omega,_,x+1,(xs++xsu1),Z,(by omega),(by rw [List.map_append,hp,(hnru1.1 (by simp_all)).1,lisN_succ]),(hnru1.1 (by simp_all)).2,hB,q1,qy,qn,T.pick [1,2,0] Z,M.mask [] Z⟩
 intro h1
 refine wp_exit ?_
 refine Zet ?_
 refine Zet ?_
 refine ex_hit ?_
 refine nm_0 T Z ?_
 refine ⟨⟨_,Z⟩,.inl ⟨xs,?_,hJ _ _ _ hj ((KpN.of_below M.below).mono hB)⟩⟩
 rw [hp]
 unfold lisT
 congr 1
 omega
section
variable {P:Program} {fn:Func} {R:Ending→World→Prop} {a:Act} {w0 w:World} {ex:Nat→Prop} {L:List (Nat×BA)} {n:Nat} {E:List (Nat×Value)}
theorem rt_cc {t t':Tmp} {ty ty':TypeId} {g g':Nat} {v v':Value} [OneTy P ty] [OneTy P ty'] (M:Mem w0 ex w L) (T:Tm a n E) (hr:fn.results = #[.cell t ty,.cell t' ty'])
  (hx:a.eval (.tmp t)=Zj g) (hx':a.eval (.tmp t')=.pointer (some ⟨g',0,none⟩)) (hm:(g,BA.cells [v])∈L) (hm':(g',BA.cells [v'])∈L)
  (h:R (.returned (.tuple #[v,v'])) w):bodyPost P fn R .ret a w:=by
 refine ⟨T.defers,.tuple #[v,v'],?_,h⟩
 have hl:=run_load_one (P:=P) (ty:=ty) (o:=0) (M.get hm) (cs:=[v]) rfl
 have hl':=run_load_one (P:=P) (ty:=ty') (o:=0) (M.get hm') (cs:=[v']) rfl
 have e:a.tmps[t]?.getD undef=Zj g:=by simpa [Act.eval] using hx
 have e':a.tmps[t']?.getD undef=.pointer (some ⟨g',0,none⟩):=by simpa [Act.eval] using hx'
 simp [results,hr,e,e',asAddr,hl,hl',Sem.run_bind]
end
theorem Mem.other {w0 w:World} {ex:Nat→Prop} {L:List (Nat×BA)} {g:Nat} {p:BA} {bs:List Nat} (M:Mem w0 ex w L) (i:Nat) (h:nthE L i=some (g,p)) (hb:bs=(L.eraseIdx i).map (·.1)):g ∉ bs:=fun hg=>by
 subst hb
 have hnd:=M.nd
 have hL:L=L.take i++(g,p)::L.drop (i+1):=by
   have hi:=(List.getElem?_eq_some_iff.1 (nthE_get h))
   obtain ⟨h1,h2⟩:=hi
   rw [← h2,List.getElem_cons_drop,List.take_append_drop]
 rw [List.eraseIdx_eq_take_drop_succ] at hg
 rw [hL,List.map_append,List.map_cons] at hnd
 obtain ⟨-,h3,h4⟩:=List.nodup_append.1 hnd
 rw [List.map_append,List.mem_append] at hg
 rcases hg with hg | hg
 · exact h4 _ hg _ Zz2 Z
 · exact (List.nodup_cons.1 h3).1 hg
theorem Mem.lts {w0 w:World} {ex:Nat→Prop} {L:List (Nat×BA)} {bs:List Nat} (M:Mem w0 ex w L) (hb:bs=L.map (·.1)):∀ b,b∈bs→b < w.heap.size:=fun b h=>by
 subst hb
 obtain ⟨p,hp,rfl⟩:=List.mem_map.1 h
 exact M.lt hp
theorem Mem.ges {n1:Nat} {w0 w:World} {ex:Nat→Prop} {L:List (Nat×BA)} {bs:List Nat} (M:Mem w0 ex w L) (h0:n1≤w0.heap.size) (hx:∀ b,ex b→n1≤b) (hb:bs=L.map (·.1)):∀ b,b∈bs→n1≤b:=fun b h=>by
 subst hb
 obtain ⟨p,hp,rfl⟩:=List.mem_map.1 h
 rcases (M.blk p hp).1 with h | h
 · omega
 · exact hx _ h
theorem Rd.memR {n1 size n:Nat} {w w':World} {B:Option Addr} {xs:List Value} {ex:Nat→Prop} {L:List (Nat×BA)} (h:Rd w n1 size B n xs) (M:Mem w ex w' L) (hx:∀ b o,B=some ⟨b,o,none⟩→0 < n→¬ ex b) (hle:n1≤w.heap.size):Rd w' n1 size B n xs :=
 ⟨h.1,fun hn=>by
  obtain ⟨b,o,h1,h2,h3⟩:=h.2 hn
  exact ⟨b,o,h1,h2,fun j u hu=>(World.cell?_of_block (w:=w) (a:=⟨b,o+j,none⟩) (M.block b (by omega) (hx b o h1 hn))).trans (h3 j u hu)⟩⟩
theorem RdF.memX {B n:Nat} {w w':World} {A:Option Addr} {xs:List Value} {ex:Nat→Prop} {L:List (Nat×BA)} (r:RdF B w A n xs) (M:Mem w ex w' L) (hx:∀ b,ex b→b < B):RdF B w' A n xs :=
 ⟨(r.1.memR M (fun b o h1 h2 he=>by have:=hx b he;have:=r.2 b o h1 h2;omega) (Nat.le_refl _)).more M.size,r.2⟩
theorem RdF.tail {B n:Nat} {w0 w:World} {A:Option Addr} {xs:List Value} {ex:Nat→Prop} {L:List (Nat×BA)} (r:RdF B w A n xs) (hB:w0.heap.size≤B) (hl:xs.length=n) (M:Mem w0 ex w L) (hL:∀ p∈L,p.1 < B∨p.2=dfA):∃ I:List (Nat×BA),(∃ b o,∀ (w1:World) (ex:Nat→Prop),Sp w1 ex I A n 1 b o xs)∧Mem w0 ex w (L++I):=by
 rcases Nat.eq_zero_or_pos n with rfl | hn
 ·have hx:xs=[]:=List.eq_nil_of_length_eq_zero hl
  subst hx
  exact ⟨[],⟨0,0,fun w1 ex=>Sp.nil⟩,by rw [Zx4];exact M⟩
 ·obtain ⟨b,o,h1,h2,h3⟩:=r.1.2 hn
  have hb:=r.2 b o h1 hn
  refine ⟨[(b,.any fun ob=>ob=w.heap[b])],⟨b,o,fun w1 ex=>⟨fun _=>h1,r.1.1,fun w' L M' hI _=>BA.lt (M'.blk _ (hI.subset Zz2)).2,fun w' L M' hI j u hu=>?_⟩⟩,(M.add (by omega) (p:=.any fun ob=>ob=w.heap[b]) ⟨_,Array.getElem?_eq_getElem h2,Z⟩ (fun q hq e=>?_)).swapI (I:=[(b,.any fun ob=>ob=w.heap[b])])⟩
  ·obtain ⟨ob,ho,he⟩:=M'.at (hI.subset Zz2)
   subst he
   exact (World.cell?_of_block (w:=w) (a:=⟨b,o+j,none⟩) (ho.trans (Array.getElem?_eq_getElem h2).symm)).trans (h3 j u hu)
  ·rcases hL q hq with h | h
   ·omega
   ·have hq2:(q.1,dfA)∈L:=by rw [← h];exact hq
    obtain ⟨ob,ho,he⟩:=M.at hq2
    have hc:=h3 0 xs[0] (List.getElem?_eq_getElem (by omega))
    obtain ⟨ob2,ho2,hc2⟩:=cell_isC hc
    rw [e] at ho
    rw [ho] at ho2
    injection ho2 with ho2
    rw [← ho2,he] at hc2
    cases hc2
theorem Rd.blk {w:World} {B size n:Nat} {A:Option Addr} {xs:List Value} (h:Rd w B size A n xs):∀ b o,A=some ⟨b,o,none⟩→0 < n→b < B:=fun b o ha hn=>by
 obtain ⟨b',o',h1,h2,-⟩:=h.2 hn
 rw [ha] at h1
 injection h1 with h1
 injection h1 with h1 _ _
 omega
theorem belowKpN {B:Nat} {w0 W W':World} (h:Below w0.heap.size w0 W) (hK:KpN B W W') (hB:w0.heap.size≤B):Below w0.heap.size w0 W' :=
 ⟨hK.1.trans h.os,hK.2.1.trans h.tape,hK.2.2.1.trans h.output,Nat.le_trans h.size hK.2.2.2.1,fun b hb=>by
  have h1:b < W.heap.size:=Nat.lt_of_lt_of_le hb h.size
  exact (hK.2.2.2.2 b _ (Array.getElem?_eq_getElem h1) (.inl (by omega))).trans ((Array.getElem?_eq_getElem h1).symm.trans (h.block b hb))⟩
theorem belowMem {w0 W W':World} {ex:Nat→Prop} {L:List (Nat×BA)} (h:Below w0.heap.size w0 W) (M:Mem W ex W' L) (hx:∀ b,ex b→w0.heap.size≤b):Below w0.heap.size w0 W' :=
 ⟨M.os.trans h.os,M.tape.trans h.tape,M.output.trans h.output,Nat.le_trans h.size M.size,fun b hb=>(M.block b (Nat.lt_of_lt_of_le hb h.size) (fun he=>by have:=hx b he;omega)).trans (h.block b hb)⟩
def PrW (p:List Nt) (b:List Int):Prop:=b.length=p.length
def PrL (n:Nat) (b:List Int):Prop:=(∀ x∈b,0≤x∧x < (n:Int))∧b.length≤n
theorem byT_seq (b1:Nat) (eb:Nat→Prop) (p:List Nt) (P:Option Addr) (pc:Nat) (w:World) (h6:p.length≤6) (hx1 : ¬ eb b1) (heb:∀ b,eb b→b < w.heap.size) (q1:Bk w b1 #[.slice P p.length pc]) (hP:Rd w w.heap.size 4 P p.length (ntc p)) (hpx:∀ b o,P=some ⟨b,o,none⟩→0 < p.length→¬ eb b) :
  SeqB (α:=LsX) Try.prog 142 #[Zj b1] (fun x=>(lsV x).toArray) eb (LsOx w.heap.size (PrW p)) (fun xs=>xs.map LsX.l=bysT p) (fun pre=>pre.map LsX.l <+: bysT p) w :=
 fun lr J Jx W hW hl1 hl2 hJ hJx hY hj=>itW_in lr b1 W.heap.size (PrW p) eb J Jx p P pc W (fun h=>h.elim (fun h=>by have:=q1.lt;omega) hx1) hl2 (fun b h=>Nat.lt_of_lt_of_le (heb b h) hW.size) (Nat.le_refl _) hJ hJx (fun pre x W1 h1 h2=>hY pre x W1 h1 ⟨h2.1.le hW.size,h2.2⟩) (q1.below hW) hj ((hP.below hW).more hW.size) (fun b o h1 h2 h=>h.elim (fun h=>by have:=hP.blk b o h1 h2;omega) (hpx b o h1 h2)) (fun _ h=>h) h6
theorem lis_seq (b1:Nat) (eb:Nat→Prop) (n:Nat) (w:World) (h6:n≤1000) (hx1 : ¬ eb b1) (heb:∀ b,eb b→b < w.heap.size) (q1:Bk w b1 #[Zi (n:Int)]) :
  SeqB (α:=LsX) Try.prog 145 #[Zj b1] (fun x=>(lsV x).toArray) eb (LsOx w.heap.size (PrL n)) (fun xs=>xs.map LsX.l=lisT n) (fun pre=>pre.map LsX.l <+: lisT n) w :=
 fun lr J Jx W hW hl1 hl2 hJ hJx hY hj=>itL_in lr b1 W.heap.size (PrL n) eb J Jx n W (fun h=>h.elim (fun h=>by have:=q1.lt;omega) hx1) hl2 (fun b h=>Nat.lt_of_lt_of_le (heb b h) hW.size) (Nat.le_refl _) hJ hJx (fun pre x W1 h1 h2=>hY pre x W1 h1 ⟨h2.1.le hW.size,h2.2⟩) (q1.below hW) hj (fun _ h1 h2=>⟨h1,h2⟩) h6
def ByPost (p:List Nt) (P:Option Addr) (pc:Nat) (w:World) (e:Ending) (w':World):Prop:=∃ g,e=.returned (.func (.func 142) #[] #[Zj g])∧Mem w noEx w' [(g,.cells [.slice P p.length pc])]
def LiPost (n:Nat) (w:World) (e:Ending) (w':World):Prop:=∃ g,e=.returned (.func (.func 145) #[] #[Zj g])∧Mem w noEx w' [(g,.cells [Zi (n:Int)])]
def FirstPost (all:List (List Int)) (Pr:List Int→Prop) (pr:List Int→Bool) (w:World) (e:Ending) (w':World):Prop :=
 ∃ (A:Option Addr) (c:Nat) (rl:List Int) (r:Bool) (I:List (Nat×BA)),e=.returned (.tuple #[.slice A rl.length c,.bool r])∧all.find? pr=(if r=true then some rl else none)∧(r=false→A=none∧rl=[])∧(r=true→Pr rl)∧rl.length≤c∧(∃ b o,∀ (w1:World) (ex:Nat→Prop),Sp w1 ex I A rl.length 1 b o (ic rl))∧Mem w noEx w' I
theorem find_pre {all pre:List (List Int)} {x:List Int} {pr:List Int→Bool} (h:pre++[x] <+: all) (h1:∀ z∈pre,pr z=false) (h2:pr x=true):all.find? pr=some x:=by
 obtain ⟨t,rfl⟩:=h
 rw [List.append_assoc,List.find?_append,List.find?_eq_none.2 (fun z hz=>by simp [h1 z hz])]
 simp [h2]
theorem find_no {all:List (List Int)} {pr:List Int→Bool} (h1:∀ z∈all,pr z=false):all.find? pr=none:=List.find?_eq_none.2 fun z hz=>by simp [h1 z hz]
theorem byTurns_any (p:List Nt) (P:Option Addr) (pc:Nat)  (w:World)  :
  Calls Try.prog 124 #[.slice P p.length pc] w (ByPost p P pc w):=by
 refine Zpx noEx Try.func124 Z 4 Z [.slice P p.length pc] Z Z (Mem.init w _) ?_
 intro ac wc T M
 refine Zsr ?_
 refine Zl2 ?_
 refine Zob M T Z Z Z Z (T.e 0 Z) Z ?_;clear M T;intro g1 wc ac M T
 refine lq T (Zra Z evc) ?_;intro ac T
 replace T:=T.pick [1] rfl
 refine Zln ?_
 refine Zsr ?_
 refine Zg2 (v1:=(.func (.func 142) #[] #[Zj g1])) T (Zq (rn_makeFunc Z .nil (.cons (T.e 0 Z) .nil))) Z (Za 0 Z Z) Z ?_;intro ac T
 replace T:=T.pick [0] rfl
 refine Zln ?_
 refine wp_ret ?_
 refine rt_1 T Z (T.e 0 Z) ?_
 exact ⟨g1,Z,M⟩
theorem lists_any (n:Nat)  (w:World)  :
  Calls Try.prog 131 #[Zi (n:Int)] w (LiPost n w):=by
 refine Zpx noEx Try.func131 Z 4 Z [Zi (n:Int)] Z Z (Mem.init w _) ?_
 intro ac wc T M
 refine Zsr ?_
 refine Zl2 ?_
 refine Zob M T Z Z Z Z (T.e 0 Z) Z ?_;clear M T;intro g1 wc ac M T
 refine lq T (Zra Z evc) ?_;intro ac T
 replace T:=T.pick [1] rfl
 refine Zln ?_
 refine Zsr ?_
 refine Zg2 (v1:=(.func (.func 145) #[] #[Zj g1])) T (Zq (rn_makeFunc Z .nil (.cons (T.e 0 Z) .nil))) Z (Za 0 Z Z) Z ?_;intro ac T
 replace T:=T.pick [0] rfl
 refine Zln ?_
 refine wp_ret ?_
 refine rt_1 T Z (T.e 0 Z) ?_
 exact ⟨g1,Z,M⟩
set_option maxHeartbeats 4000000 in
theorem firstW_any (p : List Nt) (P : Option Addr) (pc : Nat) (b1 : Nat) (F : FuncId) (fn : Func) (cap : List Value) (pr : List Int → Bool)  (w : World) (h6 : p.length ≤ 6) (hP : Rd w w.heap.size 4 P p.length (ntc p)) (q1 : Bk w b1 #[.slice P p.length pc]) (hF1 : Try.prog.funcs[F]? = some fn) (hF2 : (fn.name == "runtime.NumGoroutine") = false) (hF3 : fn.body.isNone = false)
   (hF:∀ (x:LsX) (W:World),Below w.heap.size w W→Rd W W.heap.size 1 x.A x.l.length (ic x.l)→(PrW p) x.l→Calls Try.prog F ([]++[Value.slice x.A x.l.length x.c]++cap).toArray W fun e W2=>e=.returned (.bool (pr x.l))∧Below W.heap.size W W2)  :
   Calls Try.prog 123 #[.func (.func 142) #[] #[Zj b1],.func (.func F) #[] cap.toArray] w (FirstPost (bysT p) (PrW p) pr w):=by
 obtain ⟨bP,oP,SP⟩:=Sp.old hP
 refine px_enterM noEx Try.func123 Z 15 Z [.func (.func 142) #[] #[Zj b1],.func (.func F) #[] cap.toArray] Z Z (Mem.init w _) ?_
 intro ac wc T M
 refine Zsr ?_
 refine Zl2 ?_
 refine Zob M T Z Z Z Z (T.e 1 Z) Z ?_;clear M T;intro g1 wc ac M T
 refine Zl2 ?_
 refine Zoa M T Z Z Z Z ?_;clear M T;intro g2 wc ac M T
 refine Zl2 ?_
 refine Zoa M T Z Z Z Z ?_;clear M T;intro g3 wc ac M T
 replace T:=T.pick [0,1,2,3] rfl
 refine Zln ?_
 refine wp_scope_straight ?_
 refine wp_seq ?_
 refine wp_label ?_
 refine Zns ?_
 refine Zsr ?_
 refine lq T (Zrm Z (T.e 3 Z)) ?_;intro ac T
 replace T:=T.pick [0,1,2,3] rfl
 refine Zln ?_
 refine wp_block ?_
 obtain ⟨n9,hn9⟩:∃ q:Nat,q=wc.heap.size:=⟨_,rfl⟩
 have hn9w:w.heap.size≤n9:=by rw [hn9];exact M.size
 obtain ⟨we,hwe⟩:∃ q:World,q=w:=⟨_,rfl⟩
 have hbe:=M.below
 have q10:=M.old q1 (fun h=>h)
 have hP0:=SP.rd M (Zz9 _)
 have qw0:=M.nth 2 rfl
 have hnw:g1 ∉ ([g3,g2]:List Nat):=M.other 2 rfl (bs:=[g3,g2]) rfl ∘ (fun h=>by simp only [Zx7,Zx8,or_false] at h ⊢;omega)
 have hown:∀ b,b∈([g3,g2]:List Nat)→w.heap.size≤b:=fun b hb=>M.ges (Nat.le_refl _) (fun _ h=>h.elim) (bs:=[g3,g2,g1]) rfl b (by simp only [Zx7,Zx8,or_false] at hb ⊢;omega)
 have hownl:∀ b,b∈([g3,g2]:List Nat)→b < n9:=fun b hb=>by rw [hn9];exact M.lts (bs:=[g3,g2,g1]) rfl b (by simp only [Zx7,Zx8,or_false] at hb ⊢;omega)
 have hng1:b1 ∉ ([g3,g2]:List Nat):=fun h=>by have:=hown _ h;have:=q1.lt;omega
 have hle9:we.heap.size≤wc.heap.size:=by rw [hwe];exact M.size
 rw [← hwe] at hbe hF hown
 replace T:=T.pick [3,2,1,0] rfl
 replace M:=M.mask [true,true,false] rfl
 have hlt_g3:=M.lt (Zne (i:=0) rfl)
 have hlt_g2:=M.lt (Zne (i:=1) rfl)
 refine px_rangeB (α:=LsX) (γ:=Unit) (n:=15) T (T.e 3 Z) (enters_of Try.func142 (by kernel_rfl) Z) (fun b=>b∈([g3,g2]:List Nat)) (byT_seq b1 (fun b=>b∈([g3,g2]:List Nat)) p P pc _ h6 hng1 (fun b h=>by rw [← hn9];exact hownl b h) q10 hP0 (fun b o h1 h2 h3=>by have:=hP.blk b o h1 h2;have:=hown b h3;rw [hwe] at this;omega)) (fun _=>Z) (fun (pre:List (LsX)) (Lx:List (Nat×BA)) (W:World)=>(∀ z∈pre.map LsX.l,pr z=false)∧(Below we.heap.size we W)∧(Bk W g1 #[.func (.func F) #[] cap.toArray])∧Lx=[(g3,.cells [.bool false]),(g2,.cells [.slice none 0 0])]) (fun c9 pre Lx W=>c9=.ret∧∃ (x:LsX) (l0:List (List Int)),pre.map LsX.l=l0++[x.l]∧(∀ z∈l0,pr z=false)∧pr x.l=true∧RdF n9 W x.A x.l.length (ic x.l)∧x.l.length≤x.c∧(PrW p) x.l∧Lx=[(g3,.cells [.bool true]),(g2,.cells [.slice x.A x.l.length x.c])])
   (fun x=>[(8,.slice x.A x.l.length x.c),(3,Zj g1),(4,Zj g2),(5,Zj g3),(7,.func (.func 142) #[] #[Zj b1])]) (fun x _=>[(6,.slice x.A x.l.length x.c),(3,Zj g1),(4,Zj g2),(5,Zj g3)]) (fun x _=>[]) ?_ ?_ ?_ ?_ ?_ ?_ ?_ ?_ M ?_ ?_ ?_ ?_ ?_ ?_ ?_
 ·rintro pre Lx W ⟨hno,hbe,qw,rfl⟩ p hp
  rcases Zx7.1 hp with rfl | hp
  · exact hlt_g3
  rcases Zx7.1 hp with rfl | hp
  · exact hlt_g2
  cases hp
 ·rintro c9 pre Lx W ⟨rfl,x9,l9,-,-,-,-,-,-,rfl⟩ p hp
  rw [← hn9]
  exact hownl _ (List.mem_map_of_mem (f:=fun q:Nat×BA=>q.1) hp)
 ·rintro pre Lx W ⟨hno,hbe,qw,rfl⟩ p hp
  exact List.mem_map.2 ⟨p,hp,Z⟩
 ·intro b hb
  simp only [Zx7,Zx8,or_false] at hb
  rcases hb with rfl | rfl
  · exact hlt_g3
  · exact hlt_g2
 ·intro b hb
  simp only [Zx7,Zx8,or_false] at hb
  rcases hb with rfl | rfl
  · exact (M.blk _ (Zne (i:=0) Z)).1.symm
  · exact (M.blk _ (Zne (i:=1) Z)).1.symm
 ·exact LsOx.calm _ _ _
 ·rintro pre Lx W W' ⟨hno,hbe,qw,rfl⟩ hK
  exact ⟨hno,(belowKpN hbe hK hle9),(hK.bk qw),Z⟩
 ·rintro c9 pre Lx W W' ⟨h1,x9,l9,h2,h3,h4,hR,h5,h6,h7⟩ hK
  exact ⟨h1,x9,l9,h2,h3,h4,hR.kpN hK,h5,h6,h7⟩
 ·exact ⟨(by simp),hbe,qw0,Z⟩
 ·exact fun x=>T.round1 _ Z Z
 ·intro x c p hp
  cases hp
 ·intro lp9 x wc K1 ac T hK1
  have M:=Mem.init wc noEx
  refine ri_lit (fun _ _ h=>h) Z ?_
  refine lq T (Zra Z (T.e 0 Z)) ?_;intro ac T
  replace T:=T.pick [0,2,3,4] rfl
  refine Zln ?_
  exact hK1 () _ _ (T.pick [0,1,2,3] Z) (M.mask [] Z)
 ·rintro lp9 pre x ⟨⟩ Lx ac w hj hox hz hlp M0 hnl9 exb wc hexb hwc T M
  obtain ⟨hno,hbe,qw,rfl⟩:=hj
  replace T:TmD [] ac 15 [(6,.slice x.A x.l.length x.c),(3,Zj g1),(4,Zj g2),(5,Zj g3)]:=T
  replace M:Mem w exb wc [(g3,.cells [.bool false]),(g2,.cells [.slice none 0 0])]:=M
  have hxb:∀ b,exb b→we.heap.size≤b:=by rw [hexb];exact hown
  have hxl:∀ b,exb b→b < n9:=by rw [hexb];exact hownl
  have hnw9 : ¬ exb g1:=by rw [hexb];exact hnw
  have hRx:=hox.1
  rw [← hn9] at hRx
  have hxr:=hox.1.1
  rw [← hwc] at hxr
  have hbw:=belowMem hbe M hxb
  refine wpIn_block ?_
  refine wpIn_seq ?_
  refine wpIn_seq ?_
  refine ri_lit (fun _ _ h=>h) Z ?_
  refine Zg2 T (Zq (Zro (Mem.old M qw hnw9) Z (T.e 1 Z) Z)) Z (Zm 1 Z Z) Z ?_;intro ac T
  refine Zl2 ?_
  refine Zoc (first:=[]) (cap:=cap) T Z Z Z Z (T.e 1 Z) (.cons (T.e 0 Z) .nil) hF1 hF2 hF3 ?_
  refine Calls.mono (hF x _ hbw hxr hox.2.2) ?_
  clear T;rintro e wc ⟨rfl,hb⟩ ac T
  replace M:=M.call hb;clear hb
  refine lq T (rn_not Z (T.e 0 Z)) ?_;intro ac T
  replace T:=T.pick [0,4,5,6,7] rfl
  refine Zln ?_
  refine wpIn_cond_split (T.e 0 Z) ?_ ?_
  ·intro h1
   (have h1':=h1;try simp only [Zb1,Zb2,Zb3,Zb4,Zb5,Zb6,Zb7] at h1')
   refine wpIn_exit ?_
   refine Zet ?_
   refine ex_hit ?_
   refine rb_nm (L:=[(g3,.cells [.bool false]),(g2,.cells [.slice none 0 0])]) ?_ (M.mask [true,true] Z)
   exact ⟨(by rw [List.map_append];intro z hz9;rcases List.mem_append.1 hz9 with hz9 | hz9;exact hno z hz9;rw [List.mem_singleton.1 hz9];simp_all),(belowMem hbe M hxb),(M.old qw hnw9),rfl⟩
  intro h1
  (have h1':=h1;try simp only [Zb1,Zb2,Zb3,Zb4,Zb5,Zb6,Zb7] at h1')
  refine wpIn_skip ?_
  refine nm_then ?_
  refine wpIn_seq ?_
  refine ri_lit (fun _ _ h=>h) Z ?_
  refine lq T (Zrm Z (T.e 1 Z)) ?_;intro ac T
  refine Zl2 ?_
  refine Zot M T Z Z (T.e 4 Z) (T.e 0 Z) Z (.tail .head) Z Z ?_;clear M T;intro wc ac M T
  refine Zl2 ?_
  refine Zot M T Z Z (T.e 5 Z) evc Z .head Z Z ?_;clear M T;intro wc ac M T
  replace T:=T.pick [4,5] rfl
  refine Zln ?_
  refine wpIn_ret ?_
  refine Zrb ?_
  refine rb_ret (L:=[(g3,.cells [.bool true]),(g2,.cells [.slice x.A x.l.length x.c])]) ⟨rfl,x,pre.map LsX.l,by rw [List.map_append];rfl,hno,by simp_all,hRx.memX M hxl,hox.2.1,hox.2.2,Z⟩ (M.perm [0,1] Z Z)
 ·rintro D1 pre Lx ac wc hDn hSd hj hz T M
  obtain ⟨hno,hbe,qw,rfl⟩:=hj
  replace T:TmD ((([D1]:List Nat)).map dfD) ac 15 [(3,Zj g1),(4,Zj g2),(5,Zj g3),(7,.func (.func 142) #[] #[Zj b1])]:=T
  have hf8:(bysT p).find? pr=none:=find_no (by rw [← hSd];exact hno)
  replace T:=T.pick [1,2] rfl
  refine Znb ?_
  refine nm_then ?_
  refine Zsr ?_
  refine lq T (Zro (Mem.nth M 2 Z) Z (T.e 0 Z) Z) ?_;intro ac T
  refine Zl2 ?_
  refine Zot M T Z Z (T.e 1 Z) (T.e 0 Z) Z (.tail (.tail .head)) Z Z ?_;clear M T;intro wc ac M T
  refine Zl2 ?_
  refine Zot M T Z Z (T.e 2 Z) evc Z (.tail .head) Z Z ?_;clear M T;intro wc ac M T
  replace T:=T.pick [1,2] rfl
  refine Zln ?_
  refine wp_ret ?_
  refine rt_ng ?_
  refine rtM (L:=[(g3,.cells [.bool false]),(g2,.cells [.slice none 0 0])]) (([D1]:List Nat)) T (M.perm [1,2,0] Z Z) ?_;clear T M;intro wc ac T M
  refine rt_cc M T Z (T.e 0 Z) (T.e 1 Z) (Zne (i:=1) Z) (Zne (i:=0) Z) ?_
  exact ⟨none,0,[],false,[],Z,hf8,(fun _=>⟨rfl,Z⟩),(fun h=>by cases h),Nat.le_refl _,⟨0,0,fun w1 ex=>Sp.nil⟩,M.mask [false,false] Z⟩
 ·rintro D1 c9 pre Lx ac wc hDn hSp ⟨rfl,x8,l8,hl8,hn8,hp8,hR8,hc8,hq8,rfl⟩ hz T M
  replace T:TmD ((([D1]:List Nat)).map dfD) ac 15 [(3,Zj g1),(4,Zj g2),(5,Zj g3),(7,.func (.func 142) #[] #[Zj b1])]:=T
  have hf8:(bysT p).find? pr=some x8.l:=find_pre (hl8 ▸ hSp) hn8 hp8
  obtain ⟨IR,SR,M⟩:=hR8.tail hn9w (ic_length _) M (fun p hp=>by rcases Zx7.1 hp with rfl | hp;exact .inr rfl;exact .inl (hownl _ (List.mem_map_of_mem (f:=fun q:Nat×BA=>q.1) hp)))
  replace M:Mem w noEx wc ((D1,dfA)::(g3,.cells [.bool true])::(g2,.cells [.slice x8.A x8.l.length x8.c])::IR):=M
  refine wp_ret ?_
  refine Zrb ?_
  refine Zrt ?_
  refine rt_ng ?_
  refine rtM (L:=((g3,.cells [.bool true])::(g2,.cells [.slice x8.A x8.l.length x8.c])::IR)) (([D1]:List Nat)) T (Mem.swapI (I:=dfT (([D1]:List Nat))) (L:=((g3,.cells [.bool true])::(g2,.cells [.slice x8.A x8.l.length x8.c])::IR)) (M.permT [0,1,2] 3 Z Z Z Z)) ?_;clear T M;intro wc ac T M
  refine rt_cc M T Z (T.e 1 Z) (T.e 2 Z) (Zne (i:=1) Z) (Zne (i:=0) Z) ?_
  exact ⟨x8.A,x8.c,x8.l,true,IR,Z,hf8,(fun h=>by cases h),(fun _=>hq8),hc8,SR,M.sub ((.cons _ (.cons _ (List.Sublist.refl _))))⟩
set_option maxHeartbeats 4000000 in
theorem firstL_any (n : Nat) (b1 : Nat) (F : FuncId) (fn : Func) (cap : List Value) (pr : List Int → Bool)  (w : World) (h6 : n ≤ 1000) (q1 : Bk w b1 #[Zi (n : Int)]) (hF1 : Try.prog.funcs[F]? = some fn) (hF2 : (fn.name == "runtime.NumGoroutine") = false) (hF3 : fn.body.isNone = false)
   (hF:∀ (x:LsX) (W:World),Below w.heap.size w W→Rd W W.heap.size 1 x.A x.l.length (ic x.l)→(PrL n) x.l→Calls Try.prog F ([]++[Value.slice x.A x.l.length x.c]++cap).toArray W fun e W2=>e=.returned (.bool (pr x.l))∧Below W.heap.size W W2)  :
   Calls Try.prog 123 #[.func (.func 145) #[] #[Zj b1],.func (.func F) #[] cap.toArray] w (FirstPost (lisT n) (PrL n) pr w):=by
 refine px_enterM noEx Try.func123 Z 15 Z [.func (.func 145) #[] #[Zj b1],.func (.func F) #[] cap.toArray] Z Z (Mem.init w _) ?_
 intro ac wc T M
 refine Zsr ?_
 refine Zl2 ?_
 refine Zob M T Z Z Z Z (T.e 1 Z) Z ?_;clear M T;intro g1 wc ac M T
 refine Zl2 ?_
 refine Zoa M T Z Z Z Z ?_;clear M T;intro g2 wc ac M T
 refine Zl2 ?_
 refine Zoa M T Z Z Z Z ?_;clear M T;intro g3 wc ac M T
 replace T:=T.pick [0,1,2,3] rfl
 refine Zln ?_
 refine wp_scope_straight ?_
 refine wp_seq ?_
 refine wp_label ?_
 refine Zns ?_
 refine Zsr ?_
 refine lq T (Zrm Z (T.e 3 Z)) ?_;intro ac T
 replace T:=T.pick [0,1,2,3] rfl
 refine Zln ?_
 refine wp_block ?_
 obtain ⟨n9,hn9⟩:∃ q:Nat,q=wc.heap.size:=⟨_,rfl⟩
 have hn9w:w.heap.size≤n9:=by rw [hn9];exact M.size
 obtain ⟨we,hwe⟩:∃ q:World,q=w:=⟨_,rfl⟩
 have hbe:=M.below
 have q10:=M.old q1 (fun h=>h)
 have qw0:=M.nth 2 rfl
 have hnw:g1 ∉ ([g3,g2]:List Nat):=M.other 2 rfl (bs:=[g3,g2]) rfl ∘ (fun h=>by simp only [Zx7,Zx8,or_false] at h ⊢;omega)
 have hown:∀ b,b∈([g3,g2]:List Nat)→w.heap.size≤b:=fun b hb=>M.ges (Nat.le_refl _) (fun _ h=>h.elim) (bs:=[g3,g2,g1]) rfl b (by simp only [Zx7,Zx8,or_false] at hb ⊢;omega)
 have hownl:∀ b,b∈([g3,g2]:List Nat)→b < n9:=fun b hb=>by rw [hn9];exact M.lts (bs:=[g3,g2,g1]) rfl b (by simp only [Zx7,Zx8,or_false] at hb ⊢;omega)
 have hng1:b1 ∉ ([g3,g2]:List Nat):=fun h=>by have:=hown _ h;have:=q1.lt;omega
 have hle9:we.heap.size≤wc.heap.size:=by rw [hwe];exact M.size
 rw [← hwe] at hbe hF hown
 replace T:=T.pick [3,2,1,0] rfl
 replace M:=M.mask [true,true,false] rfl
 have hlt_g3:=M.lt (Zne (i:=0) rfl)
 have hlt_g2:=M.lt (Zne (i:=1) rfl)
 refine px_rangeB (α:=LsX) (γ:=Unit) (n:=15) T (T.e 3 Z) (enters_of Try.func145 (by kernel_rfl) Z) (fun b=>b∈([g3,g2]:List Nat)) (lis_seq b1 (fun b=>b∈([g3,g2]:List Nat)) n _ h6 hng1 (fun b h=>by rw [← hn9];exact hownl b h) q10) (fun _=>Z) (fun (pre:List (LsX)) (Lx:List (Nat×BA)) (W:World)=>(∀ z∈pre.map LsX.l,pr z=false)∧(Below we.heap.size we W)∧(Bk W g1 #[.func (.func F) #[] cap.toArray])∧Lx=[(g3,.cells [.bool false]),(g2,.cells [.slice none 0 0])]) (fun c9 pre Lx W=>c9=.ret∧∃ (x:LsX) (l0:List (List Int)),pre.map LsX.l=l0++[x.l]∧(∀ z∈l0,pr z=false)∧pr x.l=true∧RdF n9 W x.A x.l.length (ic x.l)∧x.l.length≤x.c∧(PrL n) x.l∧Lx=[(g3,.cells [.bool true]),(g2,.cells [.slice x.A x.l.length x.c])])
   (fun x=>[(8,.slice x.A x.l.length x.c),(3,Zj g1),(4,Zj g2),(5,Zj g3),(7,.func (.func 145) #[] #[Zj b1])]) (fun x _=>[(6,.slice x.A x.l.length x.c),(3,Zj g1),(4,Zj g2),(5,Zj g3)]) (fun x _=>[]) ?_ ?_ ?_ ?_ ?_ ?_ ?_ ?_ M ?_ ?_ ?_ ?_ ?_ ?_ ?_
 ·rintro pre Lx W ⟨hno,hbe,qw,rfl⟩ p hp
  rcases Zx7.1 hp with rfl | hp
  · exact hlt_g3
  rcases Zx7.1 hp with rfl | hp
  · exact hlt_g2
  cases hp
 ·rintro c9 pre Lx W ⟨rfl,x9,l9,-,-,-,-,-,-,rfl⟩ p hp
  rw [← hn9]
  exact hownl _ (List.mem_map_of_mem (f:=fun q:Nat×BA=>q.1) hp)
 ·rintro pre Lx W ⟨hno,hbe,qw,rfl⟩ p hp
  exact List.mem_map.2 ⟨p,hp,Z⟩
 ·intro b hb
  simp only [Zx7,Zx8,or_false] at hb
  rcases hb with rfl | rfl
  · exact hlt_g3
  · exact hlt_g2
 ·intro b hb
  simp only [Zx7,Zx8,or_false] at hb
  rcases hb with rfl | rfl
  · exact (M.blk _ (Zne (i:=0) Z)).1.symm
  · exact (M.blk _ (Zne (i:=1) Z)).1.symm
 ·exact LsOx.calm _ _ _
 ·rintro pre Lx W W' ⟨hno,hbe,qw,rfl⟩ hK
  exact ⟨hno,(belowKpN hbe hK hle9),(hK.bk qw),Z⟩
 ·rintro c9 pre Lx W W' ⟨h1,x9,l9,h2,h3,h4,hR,h5,h6,h7⟩ hK
  exact ⟨h1,x9,l9,h2,h3,h4,hR.kpN hK,h5,h6,h7⟩
 ·exact ⟨(by simp),hbe,qw0,Z⟩
 ·exact fun x=>T.round1 _ Z Z
 ·intro x c p hp
  cases hp
 ·intro lp9 x wc K1 ac T hK1
  have M:=Mem.init wc noEx
  refine ri_lit (fun _ _ h=>h) Z ?_
  refine lq T (Zra Z (T.e 0 Z)) ?_;intro ac T
  replace T:=T.pick [0,2,3,4] rfl
  refine Zln ?_
  exact hK1 () _ _ (T.pick [0,1,2,3] Z) (M.mask [] Z)
 ·rintro lp9 pre x ⟨⟩ Lx ac w hj hox hz hlp M0 hnl9 exb wc hexb hwc T M
  obtain ⟨hno,hbe,qw,rfl⟩:=hj
  replace T:TmD [] ac 15 [(6,.slice x.A x.l.length x.c),(3,Zj g1),(4,Zj g2),(5,Zj g3)]:=T
  replace M:Mem w exb wc [(g3,.cells [.bool false]),(g2,.cells [.slice none 0 0])]:=M
  have hxb:∀ b,exb b→we.heap.size≤b:=by rw [hexb];exact hown
  have hxl:∀ b,exb b→b < n9:=by rw [hexb];exact hownl
  have hnw9 : ¬ exb g1:=by rw [hexb];exact hnw
  have hRx:=hox.1
  rw [← hn9] at hRx
  have hxr:=hox.1.1
  rw [← hwc] at hxr
  have hbw:=belowMem hbe M hxb
  refine wpIn_block ?_
  refine wpIn_seq ?_
  refine wpIn_seq ?_
  refine ri_lit (fun _ _ h=>h) Z ?_
  refine Zg2 T (Zq (Zro (Mem.old M qw hnw9) Z (T.e 1 Z) Z)) Z (Zm 1 Z Z) Z ?_;intro ac T
  refine Zl2 ?_
  refine Zoc (first:=[]) (cap:=cap) T Z Z Z Z (T.e 1 Z) (.cons (T.e 0 Z) .nil) hF1 hF2 hF3 ?_
  refine Calls.mono (hF x _ hbw hxr hox.2.2) ?_
  clear T;rintro e wc ⟨rfl,hb⟩ ac T
  replace M:=M.call hb;clear hb
  refine lq T (rn_not Z (T.e 0 Z)) ?_;intro ac T
  replace T:=T.pick [0,4,5,6,7] rfl
  refine Zln ?_
  refine wpIn_cond_split (T.e 0 Z) ?_ ?_
  ·intro h1
   (have h1':=h1;try simp only [Zb1,Zb2,Zb3,Zb4,Zb5,Zb6,Zb7] at h1')
   refine wpIn_exit ?_
   refine Zet ?_
   refine ex_hit ?_
   refine rb_nm (L:=[(g3,.cells [.bool false]),(g2,.cells [.slice none 0 0])]) ?_ (M.mask [true,true] Z)
   exact ⟨(by rw [List.map_append];intro z hz9;rcases List.mem_append.1 hz9 with hz9 | hz9;exact hno z hz9;rw [List.mem_singleton.1 hz9];simp_all),(belowMem hbe M hxb),(M.old qw hnw9),rfl⟩
  intro h1
  (have h1':=h1;try simp only [Zb1,Zb2,Zb3,Zb4,Zb5,Zb6,Zb7] at h1')
  refine wpIn_skip ?_
  refine nm_then ?_
  refine wpIn_seq ?_
  refine ri_lit (fun _ _ h=>h) Z ?_
  refine lq T (Zrm Z (T.e 1 Z)) ?_;intro ac T
  refine Zl2 ?_
  refine Zot M T Z Z (T.e 4 Z) (T.e 0 Z) Z (.tail .head) Z Z ?_;clear M T;intro wc ac M T
  refine Zl2 ?_
  refine Zot M T Z Z (T.e 5 Z) evc Z .head Z Z ?_;clear M T;intro wc ac M T
  replace T:=T.pick [4,5] rfl
  refine Zln ?_
  refine wpIn_ret ?_
  refine Zrb ?_
  refine rb_ret (L:=[(g3,.cells [.bool true]),(g2,.cells [.slice x.A x.l.length x.c])]) ⟨rfl,x,pre.map LsX.l,by rw [List.map_append];rfl,hno,by simp_all,hRx.memX M hxl,hox.2.1,hox.2.2,Z⟩ (M.perm [0,1] Z Z)
 ·rintro D1 pre Lx ac wc hDn hSd hj hz T M
  obtain ⟨hno,hbe,qw,rfl⟩:=hj
  replace T:TmD ((([D1]:List Nat)).map dfD) ac 15 [(3,Zj g1),(4,Zj g2),(5,Zj g3),(7,.func (.func 145) #[] #[Zj b1])]:=T
  have hf8:(lisT n).find? pr=none:=find_no (by rw [← hSd];exact hno)
  replace T:=T.pick [1,2] rfl
  refine Znb ?_
  refine nm_then ?_
  refine Zsr ?_
  refine lq T (Zro (Mem.nth M 2 Z) Z (T.e 0 Z) Z) ?_;intro ac T
  refine Zl2 ?_
  refine Zot M T Z Z (T.e 1 Z) (T.e 0 Z) Z (.tail (.tail .head)) Z Z ?_;clear M T;intro wc ac M T
  refine Zl2 ?_
  refine Zot M T Z Z (T.e 2 Z) evc Z (.tail .head) Z Z ?_;clear M T;intro wc ac M T
  replace T:=T.pick [1,2] rfl
  refine Zln ?_
  refine wp_ret ?_
  refine rt_ng ?_
  refine rtM (L:=[(g3,.cells [.bool false]),(g2,.cells [.slice none 0 0])]) (([D1]:List Nat)) T (M.perm [1,2,0] Z Z) ?_;clear T M;intro wc ac T M
  refine rt_cc M T Z (T.e 0 Z) (T.e 1 Z) (Zne (i:=1) Z) (Zne (i:=0) Z) ?_
  exact ⟨none,0,[],false,[],Z,hf8,(fun _=>⟨rfl,Z⟩),(fun h=>by cases h),Nat.le_refl _,⟨0,0,fun w1 ex=>Sp.nil⟩,M.mask [false,false] Z⟩
 ·rintro D1 c9 pre Lx ac wc hDn hSp ⟨rfl,x8,l8,hl8,hn8,hp8,hR8,hc8,hq8,rfl⟩ hz T M
  replace T:TmD ((([D1]:List Nat)).map dfD) ac 15 [(3,Zj g1),(4,Zj g2),(5,Zj g3),(7,.func (.func 145) #[] #[Zj b1])]:=T
  have hf8:(lisT n).find? pr=some x8.l:=find_pre (hl8 ▸ hSp) hn8 hp8
  obtain ⟨IR,SR,M⟩:=hR8.tail hn9w (ic_length _) M (fun p hp=>by rcases Zx7.1 hp with rfl | hp;exact .inr rfl;exact .inl (hownl _ (List.mem_map_of_mem (f:=fun q:Nat×BA=>q.1) hp)))
  replace M:Mem w noEx wc ((D1,dfA)::(g3,.cells [.bool true])::(g2,.cells [.slice x8.A x8.l.length x8.c])::IR):=M
  refine wp_ret ?_
  refine Zrb ?_
  refine Zrt ?_
  refine rt_ng ?_
  refine rtM (L:=((g3,.cells [.bool true])::(g2,.cells [.slice x8.A x8.l.length x8.c])::IR)) (([D1]:List Nat)) T (Mem.swapI (I:=dfT (([D1]:List Nat))) (L:=((g3,.cells [.bool true])::(g2,.cells [.slice x8.A x8.l.length x8.c])::IR)) (M.permT [0,1,2] 3 Z Z Z Z)) ?_;clear T M;intro wc ac T M
  refine rt_cc M T Z (T.e 1 Z) (T.e 2 Z) (Zne (i:=1) Z) (Zne (i:=0) Z) ?_
  exact ⟨x8.A,x8.c,x8.l,true,IR,Z,hf8,(fun h=>by cases h),(fun _=>hq8),hc8,SR,M.sub ((.cons _ (.cons _ (List.Sublist.refl _))))⟩
def fineB (b:Bw) (p:List Nt) (ss:List Int):Bool:=((bysT p).find? (alwB b p ss)).isSome
def fewL (n:Nat) (pr:List Int→Bool):List Int:=((lisT n).find? pr).getD []
def fewE (n:Nat) (pr:List Int→Bool):Int:=if ((lisT n).find? pr).isSome then 0 else 11
def LsEPost (l:List Int) (er:Int) (w:World) (e:Ending) (w':World):Prop:=∃ A c I,e=.returned (.tuple #[.slice A l.length c,Zi er])∧l.length≤c∧(∃ b o,∀ (w1:World) (ex:Nat→Prop),Sp w1 ex I A l.length 1 b o (ic l))∧Mem w noEx w' I
theorem sums_bd {l:List L4} {n:Nat} {g:List Int} (hl:∀ x∈l,x.ok) (h4:n≤4):∀ s∈sumsB (cornL n g) l,0≤s∧s≤20:=fun s hs=>by
 obtain ⟨x,hx,rfl⟩:=sumsB_mem.1 hs
 have h1:=totL_bound (op:=cornL n g) (hl x hx).all
 have h2:=cornL_len n g
 omega
theorem fine1_any (b:Bw) (A:Option Addr) (c:Nat) (D:Option Addr) (d:Nat) (p:List Nt) (P:Option Addr) (pc:Nat) (ss:List Int) (B:Option Addr) (lc:Nat) (G:Option Addr) (n:Nat) (g:List Int) (gw:Nat)  (w:World) (hP9:Rd w w.heap.size 4 P p.length (ntc p)) (hG:Rd w w.heap.size 1 G g.length (ic g)) (hL:Rd w w.heap.size 7 B ss.length (pdc (ss.map (mkP b A c D d P pc p)))) (nL:ss.length≤1000000) (hgp:NtGood p) (hgb:BwAir b) (hss:∀ s∈ss,0≤s∧s≤20) (hgl:g.length=p.length) (q1:Bk w gw #[.slice B ss.length lc])  :
  Calls Try.prog 125 #[.slice G g.length n,Zj gw] w fun e w'=>e=.returned (.bool (alwB b p ss g))∧Below w.heap.size w w':=by
 obtain ⟨bP,oP,SP⟩:=Sp.old hP9
 obtain ⟨bG,oG,SG⟩:=Sp.old hG
 obtain ⟨bL,oL,SL⟩:=Sp.old hL
 refine Zpx noEx Try.func125 Z 7 Z [.slice G g.length n,Zj gw] Z Z (Mem.init w _) ?_
 intro ac wc T M
 refine Zsr ?_
 refine lq T (Zra Z evc) ?_;intro ac T
 replace T:=T.pick [1,2] rfl
 refine Zln ?_
 refine Zsr ?_
 refine Zg2 T (Zq (Zro (Mem.old M q1 (fun h=>h)) Z (T.e 1 Z) Z)) Z (Zm 1 Z Z) Z ?_;intro ac T
 refine Zl2 ?_
 refine Zod T Z Z Z Z evf (.cons (T.e 1 Z) (.cons (T.e 0 Z) .nil)) Try.func87 Z Z ?_
 refine Calls.mono (always_any b A c D d p P pc ss B lc G n g _ (SP.rd M (Zz9 _)) (SG.rd M (Zz9 _)) (SL.rd M (Zz9 _)) (by omega) hgp hgb hss hgl) ?_
 clear T;rintro e wc ⟨rfl,hb⟩ ac T
 replace M:=M.call hb;clear hb
 refine lq T (Zra Z (T.e 0 Z)) ?_;intro ac T
 replace T:=T.pick [0] rfl
 refine Zln ?_
 refine wp_ret ?_
 refine rt_1 T Z (T.e 0 Z) ?_
 exact ⟨rfl,M.below⟩
theorem fine_any (b:Bw) (A:Option Addr) (c:Nat) (D:Option Addr) (d:Nat) (p:List Nt) (P:Option Addr) (pc:Nat) (ss:List Int) (B:Option Addr) (lc:Nat)  (w:World) (hP9:Rd w w.heap.size 4 P p.length (ntc p)) (hL:Rd w w.heap.size 7 B ss.length (pdc (ss.map (mkP b A c D d P pc p)))) (nL:ss.length≤1000000) (hgp:NtGood p) (hgb:BwAir b) (hss:∀ s∈ss,0≤s∧s≤20)  :
  Calls Try.prog 84 #[.slice B ss.length lc,.slice P p.length pc] w fun e w'=>e=.returned (.bool (fineB b p ss))∧Below w.heap.size w w':=by
 obtain ⟨bP,oP,SP⟩:=Sp.old hP9
 obtain ⟨bL,oL,SL⟩:=Sp.old hL
 refine Zpx noEx Try.func84 Z 15 Z [.slice B ss.length lc,.slice P p.length pc] Z Z (Mem.init w _) ?_
 intro ac wc T M
 refine Zsr ?_
 refine Zl2 ?_
 refine Zob M T Z Z Z Z (T.e 0 Z) Z ?_;clear M T;intro g1 wc ac M T
 refine lq T (Zra Z evc) ?_;intro ac T
 replace T:=T.pick [1,3] rfl
 refine Zln ?_
 refine Zsr ?_
 refine lq T (Zrm Z (T.e 1 Z)) ?_;intro ac T
 refine Zl2 ?_
 refine Zod T Z Z Z Z evf (.cons (T.e 0 Z) .nil) Try.func124 Z Z ?_
 refine Calls.mono (byTurns_any p P pc _) ?_
 clear T;rintro e wc ⟨gu1,rfl,N⟩ ac T
 replace M:=M.join N;clear N
 replace M:=M.mask [true,true] rfl
 refine lq (v:=(.func (.func 125) #[] #[Zj g1])) T (rn_makeFunc Z .nil (.cons (T.e 2 Z) .nil)) ?_;intro ac T
 refine Zl2 ?_
 have h6:=hgp.n6
 have hP8:=SP.rd M (Zz9 _)
 have hL8:=SL.rd M (Zz9 _)
 have q8:=M.nth 1 rfl
 refine Zod T Z Z Z Z evf (.cons (T.e 1 Z) (.cons (T.e 0 Z) .nil)) Try.func123 Z Z ?_
 refine Calls.mono (firstW_any p P pc gu1 125 _ [Zj g1] (fun w9=>alwB b p ss w9) _ h6 (SP.rd M (Zz9 _)) (M.nth 0 Z) Try.func125 Z Z (fun x W hW hR hx=>fine1_any b A c D d p P pc ss B lc x.A x.c x.l g1 W ((hP8.below hW).more hW.size) hR ((hL8.below hW).more hW.size) nL hgp hgb hss hx (q8.below hW))) ?_
 clear T;rintro e wc ⟨Afu2,cfu2,rfu2,bfu2,Ifu2,rfl,hffu2,hfnu2,hfqu2,hfcu2,⟨bzu2,ozu2,hSfu2⟩,N⟩ ac T
 have SFu2:=hSfu2 w noEx
 replace M:=(M.join N).swapI
 clear N
 replace M:Mem w noEx wc ((gu1,.cells [.slice P p.length pc])::(g1,.cells [.slice B ss.length lc])::Ifu2):=M
 refine Zg5 T (Zq (Zrm Z (T.e 0 Z))) Z (Ze 0 Z Z Z) Z (Ze 1 Z Z Z) Z (Za 1 Z Z) Z (Za 1 Z Z) Z ?_;intro ac T
 refine wpList_nil ?_
 replace T:=T.pick [0] rfl
 replace M:=M.mask [false,false] rfl
 refine nm_then ?_
 refine Zsr ?_
 refine Zg2 T (Zq (Zrm Z (T.e 0 Z))) Z (Za 0 Z Z) Z ?_;intro ac T
 replace T:=T.pick [0] rfl
 refine Zln ?_
 refine wp_ret ?_
 refine rt_1 T Z (T.e 0 Z) ?_
 refine ⟨ret_bool ?_,M.below⟩
 unfold fineB
 rw [hffu2]
 cases bfu2 <;> rfl
theorem fewest_any (n : Nat) (F : FuncId) (fn : Func) (cap : List Value) (pr : List Int → Bool)  (w : World) (hn : n ≤ 1000) (hF1 : Try.prog.funcs[F]? = some fn) (hF2 : (fn.name == "runtime.NumGoroutine") = false) (hF3 : fn.body.isNone = false)
   (hF:∀ (x:LsX) (W:World),Below w.heap.size w W→Rd W W.heap.size 1 x.A x.l.length (ic x.l)→(PrL n) x.l→Calls Try.prog F ([]++[Value.slice x.A x.l.length x.c]++cap).toArray W fun e W2=>e=.returned (.bool (pr x.l))∧Below W.heap.size W W2)  :
   Calls Try.prog 88 #[Zi (n:Int),.func (.func F) #[] cap.toArray] w (LsEPost (fewL n pr) (fewE n pr) w):=by
 refine Zpx noEx Try.func88 Z 18 Z [Zi (n:Int),.func (.func F) #[] cap.toArray] Z Z (Mem.init w _) ?_
 intro ac wc T M
 refine Zsr ?_
 refine Zg2 T (Zq (Zra Z evc)) Z (Zc Z) Z ?_;intro ac T
 replace T:=T.pick [2,3] rfl
 refine Zln ?_
 refine Zsr ?_
 refine lq T (Zrm Z (T.e 0 Z)) ?_;intro ac T
 refine Zl2 ?_
 refine Zod T Z Z Z Z evf (.cons (T.e 0 Z) .nil) Try.func131 Z Z ?_
 refine Calls.mono (lists_any n _) ?_
 clear T;rintro e wc ⟨gu1,rfl,N⟩ ac T
 replace M:=M.join N;clear N
 replace M:=M.mask [true] rfl
 refine lq T (Zrm Z (T.e 3 Z)) ?_;intro ac T
 refine Zl2 ?_
 refine Zod T Z Z Z Z evf (.cons (T.e 1 Z) (.cons (T.e 0 Z) .nil)) Try.func123 Z Z ?_
 refine Calls.mono (firstL_any n gu1 F fn cap pr _ (by omega) (M.nth 0 Z) hF1 hF2 hF3 (fun x W hW hR hx=>hF x W (M.below.trans (hW.mono M.size)) hR hx)) ?_
 clear T;rintro e wc ⟨Afu2,cfu2,rfu2,bfu2,Ifu2,rfl,hffu2,hfnu2,hfqu2,hfcu2,⟨bzu2,ozu2,hSfu2⟩,N⟩ ac T
 have SFu2:=hSfu2 w noEx
 replace M:=(M.join N).swapI
 clear N
 replace M:Mem w noEx wc ((gu1,.cells [Zi (n:Int)])::Ifu2):=M
 refine Zg5 T (Zq (Zrm Z (T.e 0 Z))) Z (Ze 0 Z Z Z) Z (Ze 1 Z Z Z) Z (Za 1 Z Z) Z (Za 1 Z Z) Z ?_;intro ac T
 refine wpList_nil ?_
 replace T:=T.pick [0,1] rfl
 replace M:=M.mask [false] rfl
 refine Zns ?_
 refine Zsr ?_
 refine Zg2 T (Zq (Zrm Z (T.e 0 Z))) Z (fun _ T=>Zq (rn_not Z (T.e 0 Z))) Z ?_;intro ac T
 replace T:=T.pick [0,3] rfl
 refine Zln ?_
 refine wp_cond_split (T.e 0 Z) ?_ ?_
 ·intro h1
  (have h1':=h1;try simp only [Zb1,Zb2,Zb3,Zb4,Zb5,Zb6,Zb7] at h1')
  refine Zsr ?_
  refine Zg2 T (Zq (Zra Z evc)) Z (Zc Z) Z ?_;intro ac T
  replace T:=T.pick [0,1] rfl
  refine Zln ?_
  refine wp_ret ?_
  refine Zrt ?_
  refine rt_2 T Z (T.e 1 Z) (T.e 0 Z) ?_
  have e9:fewL n pr=[]∧fewE n pr=11:=by unfold fewL fewE;rw [hffu2,show bfu2=false by simp_all];exact ⟨rfl,rfl⟩
  rw [e9.1,e9.2]
  exact ⟨none,0,[],Z,Nat.le_refl _,⟨0,0,fun w1 ex=>Sp.nil⟩,M.mask [] Z |>.sub (Zz9 _)⟩
 intro h1
 (have h1':=h1;try simp only [Zb1,Zb2,Zb3,Zb4,Zb5,Zb6,Zb7] at h1')
 refine Zsk ?_
 refine Zsr ?_
 refine Zg3 T (Zq (Zrm Z (T.e 1 Z))) Z (Za 0 Z Z) Z (Zc Z) Z ?_;intro ac T
 replace T:=T.pick [0,1] rfl
 refine Zln ?_
 refine wp_ret ?_
 refine rt_2 T Z (T.e 1 Z) (T.e 0 Z) ?_
 have e9:fewL n pr=rfu2∧fewE n pr=0:=by unfold fewL fewE;rw [hffu2,show bfu2=true by simp_all];exact ⟨rfl,rfl⟩
 rw [e9.1,e9.2]
 exact ⟨_,_,Ifu2,Z,hfcu2,⟨_,_,hSfu2⟩,M.sub ((List.Sublist.refl _))⟩
theorem mend1_any (b:Bw) (A:Option Addr) (c:Nat) (D:Option Addr) (d:Nat) (p:List Nt) (P:Option Addr) (pc:Nat) (l:List L4) (B:Option Addr) (lc:Nat) (G:Option Addr) (n:Nat) (g:List Int) (g1 g2 g3:Nat)  (w:World) (hP9:Rd w w.heap.size 4 P p.length (ntc p)) (hG:Rd w w.heap.size 1 G g.length (ic g)) (hL:Rd w w.heap.size 4 B l.length (l4c l)) (nL:l.length≤1000000) (hl4:∀ x∈l,x.ok) (h4:b.cs.length≤4) (nG:g.length≤1000) (hgp:NtGood p) (hgb:BwAir b) (q1:Bk w g1 #[Zi b.full,Zi b.a0,Zi b.a1,.slice A b.cs.length c,.slice D b.ts.length d]) (q2:Bk w g2 #[.slice B l.length lc]) (q3:Bk w g3 #[.slice P p.length pc])  :
  Calls Try.prog 116 #[.slice G g.length n,Zj g1,Zj g2,Zj g3] w fun e w'=>e=.returned (.bool (fineB b p (sumsB (cornL b.cs.length g) l)))∧Below w.heap.size w w':=by
 obtain ⟨bP,oP,SP⟩:=Sp.old hP9
 obtain ⟨bG,oG,SG⟩:=Sp.old hG
 obtain ⟨bL,oL,SL⟩:=Sp.old hL
 refine Zpx noEx Try.func116 Z 13 Z [.slice G g.length n,Zj g1,Zj g2,Zj g3] Z Z (Mem.init w _) ?_
 intro ac wc T M
 refine Zsr ?_
 refine lq T (Zra Z evc) ?_;intro ac T
 replace T:=T.pick [1,2,3,4] rfl
 refine Zln ?_
 refine wp_seq ?_
 refine Zgs M (M.mask [] Z) 8 (by kernel_rfl) Z (by kernel_rfl) ?_
 clear M;intro wc M
 refine gq T 0 1 Z (fun B w' hD hl hS=>(Zrr (Mem.old (show Mem w noEx w' _ from hS) q1 (fun h=>h)) Z (T.e 1 Z) Z)) ?_;intro ac T
 refine gq T 1 3 Z (fun B w' hD hl hS=>(Zro (Mem.old (show Mem w noEx w' _ from hS) q2 (fun h=>h)) Z (T.e 3 Z) Z)) ?_;intro ac T
 refine gq T 2 7 Z (fun B w' hD hl hS=>(Zro (Mem.old (show Mem w noEx w' _ from hS) q3 (fun h=>h)) Z (T.e 5 Z) Z)) ?_;intro ac T
 refine Zgq T 3 15 Z (fun _=>(Zrm Z (T.e 3 Z))) ?_;intro ac T
 refine gq T 5 47 Z (fun B w' hD hl hS=>(Zro (Mem.old (show Mem w noEx w' _ from hS) q3 (fun h=>h)) Z (T.e 7 Z) Z)) ?_;intro ac T
 refine gw 4 63 ?_;intro K hK
 refine Zod T Z Z Z Z evf (.cons (T.e 4 Z) (.cons (T.e 3 Z) (.cons (T.e 2 Z) (.cons (T.e 1 Z) .nil)))) Try.func85 Z Z ?_
 refine Calls.mono (playedBy_any b A c D d l B lc p P pc G n g _ (SL.rd M (Zz9 _)) (by omega) hl4 h4 (SG.rd M (Zz9 _)) (by first | omega | simp)) ?_
 clear T;rintro e wc ⟨Apu1,cpu1,Ipu1,rfl,hclu1,N⟩ ac T
 obtain ⟨svu1,hsvu1⟩:∃ q,q=sumsB (cornL b.cs.length g) l:=⟨_,rfl⟩
 rw [← hsvu1] at hclu1 T
 have hssvu1:∀ s∈svu1,0≤s∧s≤20:=by rw [hsvu1];exact sums_bd hl4 h4
 have hnsvu1:svu1.length≤l.length:=by rw [hsvu1];exact sumsB_len _
 obtain ⟨bpu1,opu1,Spu1⟩:=hclu1.spV (by rw [pdc_length,List.length_map])
 replace Spu1:=Spu1 w noEx
 replace M:=(M.join N).swapI
 clear N
 replace M:Mem w noEx wc (Ipu1):=M
 refine Zso hK _ _ (M.perm [] Z Z) ?_;clear hK K
 refine gw 6 127 ?_;intro K hK
 refine Zod T Z Z Z Z evf (.cons (T.e 0 Z) (.cons (T.e 1 Z) .nil)) Try.func84 Z Z ?_
 refine Calls.mono (fine_any b A c D d p P pc svu1 Apu1 cpu1 _ (SP.rd M (Zz9 _)) (Spu1.rd M (List.Sublist.refl _)) (by omega) hgp hgb hssvu1) ?_
 clear T;rintro e wc ⟨rfl,hb⟩ ac T
 replace M:=M.call hb;clear hb
 refine Zso hK _ _ (M.perm [] Z Z) ?_;clear hK K
 refine Zgq T 7 255 Z (fun _=>(Zra Z (T.e 0 Z))) ?_;intro ac T
 refine Zgd (by kernel_rfl) ?_
 replace T:=T.pick [0] rfl
 refine Znr ?_
 refine rt_1 T Z (T.e 0 Z) ?_
 rw [← hsvu1]
 exact ⟨rfl,M.below⟩
theorem ways1_any (b:Bw) (A:Option Addr) (c:Nat) (D:Option Addr) (d:Nat) (p:List Nt) (P:Option Addr) (pc:Nat) (ss:List Int) (B:Option Addr) (lc:Nat) (G:Option Addr) (n:Nat) (g:List Int) (gf gw:Nat)  (w:World) (hP9:Rd w w.heap.size 4 P p.length (ntc p)) (hG:Rd w w.heap.size 1 G g.length (ic g)) (hL:Rd w w.heap.size 7 B ss.length (pdc (ss.map (mkP b A c D d P pc p)))) (nL:ss.length≤1000000) (hgp:NtGood p) (hgb:BwAir b) (hss:∀ s∈ss,0≤s∧s≤20) (hgl:g.length=p.length) (q1:Bk w gf #[.func (.func 87) #[] #[]]) (q2:Bk w gw #[.slice B ss.length lc])  :
  Calls Try.prog 126 #[.slice G g.length n,Zj gf,Zj gw] w fun e w'=>e=.returned (.bool (alwB b p ss g))∧Below w.heap.size w w':=by
 obtain ⟨bP,oP,SP⟩:=Sp.old hP9
 obtain ⟨bG,oG,SG⟩:=Sp.old hG
 obtain ⟨bL,oL,SL⟩:=Sp.old hL
 refine Zpx noEx Try.func126 Z 9 Z [.slice G g.length n,Zj gf,Zj gw] Z Z (Mem.init w _) ?_
 intro ac wc T M
 refine Zsr ?_
 refine lq T (Zra Z evc) ?_;intro ac T
 replace T:=T.pick [1,2,3] rfl
 refine Zln ?_
 refine Zsr ?_
 refine Zg3 T (Zq (Zro (Mem.old M q1 (fun h=>h)) Z (T.e 1 Z) Z)) Z (fun _ T=>Zq (Zro (Mem.old M q2 (fun h=>h)) Z (T.e 3 Z) Z)) Z (Zm 2 Z Z) Z ?_;intro ac T
 refine Zl2 ?_
 refine Zod T Z Z Z Z (T.e 2 Z) (.cons (T.e 1 Z) (.cons (T.e 0 Z) .nil)) Try.func87 Z Z ?_
 refine Calls.mono (always_any b A c D d p P pc ss B lc G n g _ (SP.rd M (Zz9 _)) (SG.rd M (Zz9 _)) (SL.rd M (Zz9 _)) (by omega) hgp hgb hss hgl) ?_
 clear T;rintro e wc ⟨rfl,hb⟩ ac T
 replace M:=M.call hb;clear hb
 refine lq T (Zra Z (T.e 0 Z)) ?_;intro ac T
 replace T:=T.pick [0] rfl
 refine Zln ?_
 refine wp_ret ?_
 refine rt_1 T Z (T.e 0 Z) ?_
 exact ⟨rfl,M.below⟩
section
open Go.RowKit Go.Proofs.Ytoheddpnnjldgaa.Bq
section
variable {P:Program} {J:Nat→Option Obj} {ops:Array Oper} {Q:Exit→Act→World→Prop}
def nF:Exit→Act→World→Prop:=fun _ _ _=>False
theorem wp_nF {Q':Exit→Act→World→Prop} {o:Oper} {a:Act} {w:World} {K:Act→World→Prop} (hh:o.wp P a w K nF):o.wp P a w K Q':=by
 unfold Oper.wp at *
 generalize (execOp a.eval o).run P w=r at *
 cases r with
 | ok n w' =>
  cases n <;> simp only [Oper.upon] at hh ⊢ <;>
   first
    | exact hh
    | exact Calls.mono hh (fun e w'' he=>by cases e <;> first | exact he | (obtain ⟨_,_,he⟩:=he;exact he.elim) | exact he.elim)
    | exact hh.elim
 | halt x w'=>cases x <;> simp only [Oper.upon] at hh ⊢ <;> exact hh.elim
theorem wpOp_nF {Q':Exit→Act→World→Prop} {i:Nat} {a:Act} {w:World} {K:Act→World→Prop} (hh:wpOp P ops nF i K a w):wpOp P ops Q' i K a w:=by
 unfold wpOp at *
 split
 ·simpa [*] using hh
 ·rename_i o ho
  simp only [ho] at hh
  split
  ·rename_i hw
   simp only [hw,if_true] at hh
   rcases hh with hh | ⟨-,_,_,hh⟩
   ·exact .inl (wp_nF hh)
   ·exact hh.elim
  ·rename_i hw
   simp only [hw] at hh
   exact hh
def opB (P:Program) (J:Nat→Option Obj) (ops:Array Oper) (T0:Nat→Question→Nat) (i:Nat) (K:Act→World→Prop) (a:Act) (w:World):Prop :=
 (∀ T,wpOp P ops nF i (fun a' w'=>K a' (Bq.tp w' T0 0)) a (Bq.tp w T 0)) ∨
 ∃ o f args R,ops[i]? = some o∧Region.wanted o (yielded ops a.tmps)=true∧(∀ T d,(execOp a.eval o).run P (Bq.tp w T d)=.ok (.enter f args) (Bq.tp w T d))∧CallsB P J f args w R∧∀ e w',R e w'→∃ v,e=.returned v∧K (a.put o.dst v) w'
theorem opB_mono {T0:Nat→Question→Nat} {i:Nat} {K K':Act→World→Prop} {a:Act} {w:World} (h:∀ a w,K a w→K' a w) (hh:opB P J ops T0 i K a w):opB P J ops T0 i K' a w:=by
 rcases hh with hh | ⟨o,f,args,R,h1,h2,h3,h4,h5⟩
 · exact .inl fun T=>wpOp_mono (fun a w hk=>h _ _ hk) (hh T)
 · exact .inr ⟨o,f,args,R,h1,h2,h3,h4,fun e w' hR=>by obtain ⟨v,h6,h7⟩:=h5 e w' hR;exact ⟨v,h6,h _ _ h7⟩⟩
theorem opB_sound (hP:FuncsOk P) {T0:Nat→Question→Nat} {i:Nat} {rest:List Nat} {K:Act→World→Prop} {a:Act} {w:World} (hh:opB P J ops T0 i K a w) (h:∀ a' w',K a' w'→wpRB P J ops Q rest a' w'):wpRB P J ops Q (i::rest) a w:=by
 rcases hh with hh | ⟨o,f,args,R,h1,h2,h3,h4,h5⟩
 ·intro b k cs Post hkd hA
  refine comp_lone hP fun T=>?_
  have h1:wpOps P ops (pq (fun a w=>K a (Bq.tp w T0 0)) nF) [i] a (Bq.tp w T 0):=by
   rw [wpOps_cons]
   exact wpOp_nF (hh T)
  rcases ops_pre (Q:=nF) rest [i] a (Bq.tp w T 0) h1 b k cs with ⟨a',w',hK,hs⟩ | ⟨ch,a',w',todo,hq,hs⟩
  ·exact ⟨_,_,w',hs,comp_pt (h _ _ hK b k cs Post hkd hA)⟩
  ·exact hq.elim
 ·exact rb_call hP h1 h2 h3 h4 fun e w' hR=>by obtain ⟨v,h6,h7⟩:=h5 e w' hR;exact ⟨v,h6,h _ _ h7⟩
theorem opB_putIf {C:World→Prop} {T0:Nat→Question→Nat} {j:Nat} {oi oj:Oper} {v:Value} (hj:ops[j]? = some oj) (hap:oi.apart ops oj=true) (hsi:∀ cs b,oi.op≠.select cs b) (hsj:∀ cs b,oj.op≠.select cs b) {K:Act→World→Prop} {a:Act} {w:World}
  (hy:YieldsIf P ops C oi v a) (hh:opB P J ops T0 j K (a.put oi.dst v) w):opB P J ops T0 j (fun a' w'=>YieldsIf P ops C oi v a'∧K (a'.put oi.dst v) w') a w:=by
 rcases hh with hh | ⟨o,f,args,R,h1,h2,h3,h4,h5⟩
 ·exact .inl fun T=>wpOp_putIf hj hap hsi hsj (fun _ _ _ h=>h) hy (hh T)
 ·rw [hj] at h1
  injection h1 with h1
  subst h1
  obtain ⟨k1,k2,k3⟩:=Oper.apart_spec hap
  refine .inr ⟨oj,f,args,R,hj,by rw [← wanted_put oj a oi.dst v k1];exact h2,fun T d=>by rw [← execOp_put oj hsj a oi.dst v k1];exact h3 T d,h4,fun e w' hR=>?_⟩
  obtain ⟨u,h6,h7⟩:=h5 e w' hR
  exact ⟨u,h6,hy.of_same (execOp_put oi hsi a oj.dst u k3) (wanted_put oi a oj.dst u k3),by rw [← Act.put_comm a v u k2];exact h7⟩
def StOk (S:World→Array Bool→World→Prop):Prop:=∀ w0 T d d' B W,S w0 B W→S (Bq.tp w0 T d) B (Bq.tp W T d')
def anyB (P:Program) (J:Nat→Option Obj) (ops:Array Oper) (Q:Exit→Act→World→Prop) (w0:World) (S:World→Array Bool→World→Prop):Nat→Array Bool→Act→World→Prop
 | 0,listed,a,w=>Region.ready .any ops listed=[]∧Q .normal a (Bq.tp w w0.tape 0)
 | fuel+1,listed,a,w =>
  (Region.ready .any ops listed=[]→Q .normal a (Bq.tp w w0.tape 0)) ∧
  ∀ i∈Region.ready .any ops listed,opB P J ops w0.tape i (fun a' w'=>S w0 (listed.setIfInBounds i true) w'∧anyB P J ops Q w0 S fuel (listed.setIfInBounds i true) a' w') a w
theorem opB_tp {T0:Nat→Question→Nat} {i:Nat} {K:Act→World→Prop} {a:Act} {w:World} (hh:opB P J ops T0 i K a w):opB P J ops T0 i K a (Bq.tp w T0 0):=by
 rcases hh with hh | ⟨o,f,args,R,h1,h2,h3,h4,h5⟩
 · exact .inl hh
 · exact .inr ⟨o,f,args,R,h1,h2,h3,CallsB.tp h4,h5⟩
theorem anyB_tp {w0:World} {S:World→Array Bool→World→Prop}:∀ {fuel:Nat} {listed:Array Bool} {a:Act} {w:World},anyB P J ops Q w0 S fuel listed a w→anyB P J ops Q w0 S fuel listed a (Bq.tp w w0.tape 0)
 | 0,_,_,_,h=>h
 | _+1,_,_,_,h=>⟨h.1,fun i hi=>opB_tp (h.2 i hi)⟩
theorem anyB_sound (hP:FuncsOk P) {w0:World} {S:World→Array Bool→World→Prop}:∀ (fuel t:Nat) (listed:Array Bool) (a:Act) (w:World),anyB P J ops Q w0 S fuel listed a w→wpRB P J ops Q (Region.linearise.go .any ops fuel t listed []) a w:=by
 have nil:∀ (a:Act) (w:World),Q .normal a (Bq.tp w w0.tape 0)→wpRB P J ops Q [] a w:=fun a w h b k cs Post hk hA=>comp_pt (rb_nil hP h b k cs Post hk hA)
 intro fuel
 induction fuel with
 | zero=>intro t listed a w h;simpa [Region.linearise.go] using nil a w h.2
 | succ fuel ih =>
  intro t listed a w h
  obtain ⟨h₀,h₁⟩:=h
  simp only [Region.linearise.go]
  change wpRB P J ops Q (match (Region.ready .any ops listed)[t % (Region.ready .any ops listed).length]? with
   | some i=>Region.linearise.go .any ops fuel (t / (Region.ready .any ops listed).length) (listed.setIfInBounds i true) [i]
   | none=>[].reverse) a w
  cases hi:(Region.ready .any ops listed)[t % (Region.ready .any ops listed).length]? with
  | none =>
   have hnil:Region.ready .any ops listed=[]:=by
    cases hr:Region.ready .any ops listed with
    | nil=>rfl
    | cons y ys =>
     rw [hr] at hi
     have hlt:t % (y::ys).length < (y::ys).length:=Nat.mod_lt _ (by simp)
     simp at hi
     simp at hlt
     omega
   simpa using nil a w (h₀ hnil)
  | some i =>
   simp only []
   rw [linearise_go_acc,List.reverse_singleton,List.singleton_append]
   exact opB_sound hP (h₁ i (List.mem_of_getElem? hi)) fun a' w' q=>ih _ _ a' w' q.2
theorem anyB_first {w0:World} {S:World→Array Bool→World→Prop} {i:Nat} {oi:Oper} {v:Value} (hi:ops[i]? = some oi) (hst:StOk S)
  (hsel:∀ (j:Nat) (o:Oper) cs b,ops[j]? = some o→o.op≠.select cs b) (hSi:∀ w0 L w,S w0 (L.setIfInBounds i true) w↔S w0 L w) :
  ∀ (fuel:Nat) (listed:Array Bool) (a:Act) (w:World),
   (∀ j oj,ops[j]? = some oj→j≠i→listed.getD j true=false→(∀ e∈oj.after,Region.binds .any e=true→e.on≠i)→oi.apart ops oj=true) →
   i∈Region.ready .any ops listed→YieldsIf P ops (fun w'=>∃ L,DC ops L∧L.getD i true=false∧S (Bq.tp w0 w'.tape 0) L w') oi v a→DC ops listed→S w0 listed w →
   anyB P J ops Q w0 S fuel (listed.setIfInBounds i true) (a.put oi.dst v) w→anyB P J ops Q w0 S (fuel+1) listed a w:=by
 intro fuel
 have yl:∀ (listed:Array Bool) (a:Act) (w:World) (K:Act→World→Prop),i∈Region.ready .any ops listed→YieldsIf P ops (fun w'=>∃ L,DC ops L∧L.getD i true=false∧S (Bq.tp w0 w'.tape 0) L w') oi v a→DC ops listed→S w0 listed w→K (a.put oi.dst v) (Bq.tp w w0.tape 0)→opB P J ops w0.tape i K a w:=fun listed a w K hr hy hD hS hK =>
  .inl fun T=>hy.wpOp hi ⟨listed,hD,(mem_ready.1 hr).1,hst w0 T 0 0 listed w hS⟩ hK
 have nS:∀ L w,S w0 L w→S w0 L (Bq.tp w w0.tape 0):=fun L w h=>by
  have:=hst w0 w0.tape w0.drawn 0 L w h
  exact this
 induction fuel with
 | zero =>
  intro listed a w _ hr hy hD hS H
  refine ⟨fun h=>(by rw [h] at hr;cases hr),fun j hj=>?_⟩
  by_cases hji:j=i
  ·subst hji;exact yl listed a w _ hr hy hD hS ⟨nS _ _ ((hSi _ _ _).2 hS),anyB_tp H⟩
  ·have:=ready_mono hj hji
   rw [H.1] at this
   cases this
 | succ fuel ih =>
  intro listed a w hfree hr hy hD hS H
  refine ⟨fun h=>(by rw [h] at hr;cases hr),fun j hj=>?_⟩
  by_cases hji:j=i
  ·subst hji;exact yl listed a w _ hr hy hD hS ⟨nS _ _ ((hSi _ _ _).2 hS),anyB_tp H⟩
  ·have h1:=H.2 j (ready_mono hj hji)
   obtain ⟨hjun,oj,hoj,hall⟩:=mem_ready.1 hj
   have hnot:∀ e∈oj.after,Region.binds .any e=true→e.on≠i:=fun e he hb heq=>by
    have h1:=hall e he hb
    have h0:=(mem_ready.1 hr).1
    rw [heq] at h1
    rcases Nat.lt_or_ge i listed.size with h' | h'
    ·simp [h'] at h0 h1;rw [h0] at h1;cases h1
    ·simp [Array.getElem?_eq_none h'] at h1
   have h2:=opB_putIf hoj (hfree j oj hoj hji hjun hnot) (fun cs b=>hsel i oi cs b hi) (fun cs b=>hsel j oj cs b hoj) hy h1
   have hfree':∀ k ok,ops[k]? = some ok→k≠i→(listed.setIfInBounds j true).getD k true=false →
     (∀ e∈ok.after,Region.binds .any e=true→e.on≠i)→oi.apart ops ok=true:=fun k ok hk hki hun hno=>by
    refine hfree k ok hk hki ?_ hno
    by_cases hjk:j=k
    ·subst hjk;exact hjun
    ·rw [getD_set_ne true hjk] at hun;exact hun
   refine opB_mono (fun a' w' h3=>?_) h2
   have hS':S w0 (listed.setIfInBounds j true) w':=by
    have:=h3.2.1
    rw [Array.setIfInBounds_comm _ _ (Ne.symm hji)] at this
    exact (hSi _ _ _).1 this
   refine ⟨hS',ih (listed.setIfInBounds j true) a' w' hfree' (ready_mono hr (Ne.symm hji)) h3.1 (hD.step hj) hS' ?_⟩
   rw [Array.setIfInBounds_comm _ _ hji]
   exact h3.2.2
def wpGB (P:Program) (J:Nat→Option Obj) (ops:Array Oper) (Q:Exit→Act→World→Prop) (w0:World) (S:World→Array Bool→World→Prop) (fuel:Nat) (listed:Array Bool) (a:Act) (w:World):Prop :=
 DC ops listed→S w0 listed w→StOk S→anyB P J ops Q w0 S fuel listed a w
section
variable {w0 w:World} {ex:Nat→Prop} {L:List (Nat×BA)} {S:World→Array Bool→World→Prop} {fuel:Nat} {l l':Array Bool} {i:Nat} {oi:Oper} {a:Act} {df:List Deferred} {n t:Nat} {E:List (Nat×Value)} {v:Value}
theorem StOk.mu:StOk fun w0=>MU w0 ex L:=fun w0 T d d' B W (h:Mem w0 ex W L)=>(h.tp T d d':Mem _ _ _ _)
theorem gB_start2 (hP:FuncsOk P) {Lc:List (Nat×BA)} (M:Mem w0 ex w L) (Mc:Mem w0 ex w Lc) (m:Nat) {id:Nat} (hm:P.follows .mixedOrders=true) (hn:ops.size=m) (hz:Array.replicate m false=Zpb m 0)
  (h:∀ w',Mem w0 ex w' L→wpGB P J ops Q w0 (fun w0=>MU w0 ex Lc) m (Zpb m 0) a w'):wpB P J (.region id ops true) Q a w:=by
 subst hn
 intro b k cs Post hk hA
 refine comp_lone hP fun T=>⟨_,_,_,.one step_region_draw,?_⟩
 have h0:=h w M
 rw [← hz] at h0
 have h1:=h0 DC.start Mc StOk.mu
 have h2:=anyB_sound (J:=J) (Q:=Q) hP ops.size ((Bq.tp w T 0).tape (Bq.tp w T 0).drawn (.order b.fn id)) _ a w h1
 have h3:=h2 b k cs Post hk hA
 have h4:Comp P J (gr (b.at a (.inRegion ops (Region.linearise.go .any ops ops.size ((Bq.tp w T 0).tape (Bq.tp w T 0).drawn (.order b.fn id)) (Array.replicate ops.size false) [])::k)) cs) (Bq.tp w T 1) Post:=comp_tp h3
 simp only [Region.schedule,hm,Bool.true_or,if_true]
 exact h4
theorem gB_take (hi:ops[i]? = some oi) (hs:(Region.noSelect ops && Region.free .any ops l i && (Region.ready .any ops l).contains i)=true) (hSi:∀ w0 L w,S w0 (L.setIfInBounds i true) w↔S w0 L w)
  (hy:YieldsIf P ops (fun w'=>∃ L,DC ops L∧L.getD i true=false∧S (Bq.tp w0 w'.tape 0) L w') oi v a) (h:wpGB P J ops Q w0 S fuel (l.setIfInBounds i true) (a.put oi.dst v) w):wpGB P J ops Q w0 S (fuel+1) l a w:=by
 intro hD hS hst
 simp only [Bool.and_eq_true] at hs
 obtain ⟨⟨h1,h2⟩,h3⟩:=hs
 have hr:i∈Region.ready .any ops l:=by simpa using h3
 exact anyB_first hi hst (Region.noSelect_spec h1) hSi fuel l a w (Region.free_spec hi h2) hr hy hD hS (h (hD.step hr) ((hSi _ _ _).2 hS) hst)
theorem gB_q (T:TmD df a n E) (hi:ops[i]? = some oi) (hs:(Region.noSelect ops && Region.free .any ops l i && (Region.ready .any ops l).contains i)=true) (hl:l.setIfInBounds i true=l')
  (hSi:∀ w0 L w,S w0 (L.setIfInBounds i true) w↔S w0 L w) (hw:Region.wanted oi (yielded ops a.tmps)=true) (hd:oi.dst=some t) (hf:freshE E t=true) (hn:Nat.blt t n=true)
  (hr:∀ T9 L w',DC ops L→L.getD i true=false→S (Bq.tp w0 T9 0) L w'→Runs P oi a v w') (h:∀ a',TmD df a' n ((t,v)::E)→wpGB P J ops Q w0 S fuel l' a' w):wpGB P J ops Q w0 S (fuel+1) l a w :=
 gB_take hi hs hSi (.inl ⟨hw,fun w' hy=>by obtain ⟨L,h1,h2,h3⟩:=hy;exact hr w'.tape L w' h1 h2 h3⟩) (by rw [hl,hd];exact h _ (T.put hn hf v))
theorem gB_one (hr:Region.ready .any ops l=[i]) (hl:l.setIfInBounds i true=l') (h:opB P J ops w0.tape i (fun a' w'=>S w0 l' w'∧wpGB P J ops Q w0 S fuel l' a' w') a w):wpGB P J ops Q w0 S (fuel+1) l a w:=by
 intro hD hS hst
 refine ⟨fun h0=>(by rw [hr] at h0;cases h0),fun j hj=>?_⟩
 have hD':=hD.step hj
 rw [hr] at hj
 obtain rfl:j=i:=by simpa using hj
 rw [hl] at hD' ⊢
 exact opB_mono (fun a' w' h3=>⟨h3.1,h3.2 hD' h3.1 hst⟩) h
def wpGiB (P:Program) (J:Nat→Option Obj) (ops:Array Oper) (Q:Exit→Act→World→Prop) (w0:World) (S:World→Array Bool→World→Prop) (fuel:Nat) (l:Array Bool) (i:Nat) (a:Act) (w:World):Prop :=
 opB P J ops w0.tape i (fun a' w'=>S w0 (l.setIfInBounds i true) w'∧wpGB P J ops Q w0 S fuel (l.setIfInBounds i true) a' w') a w
theorem gB_m2 {j:Nat} (hr:Region.ready .any ops l=[i,j]) (h:wpGiB P J ops Q w0 S fuel l i a w) (h':wpGiB P J ops Q w0 S fuel l j a w):wpGB P J ops Q w0 S (fuel+1) l a w:=fun hD hS hst =>
 ⟨fun h0=>(by rw [hr] at h0;cases h0),fun k hk=>by
  have hk':=hk
  rw [hr] at hk'
  simp only [Zx7,Zx8,or_false] at hk'
  rcases hk' with rfl | rfl
  ·exact opB_mono (fun a' w' h3=>⟨h3.1,h3.2 (hD.step hk) h3.1 hst⟩) h
  ·exact opB_mono (fun a' w' h3=>⟨h3.1,h3.2 (hD.step hk) h3.1 hst⟩) h'⟩
def ShB (P:Program) (J:Nat→Option Obj) (ops:Array Oper) (Q:Exit→Act→World→Prop) (w0:World) (S:World→Array Bool→World→Prop) (fuel:Nat) (l':Array Bool) (K:Act→World→Prop):Prop :=
 ∀ a w,S w0 l' (Bq.tp w w0.tape 0)→wpGB P J ops Q w0 S fuel l' a (Bq.tp w w0.tape 0)→K a w
theorem opB_lone {K:Act→World→Prop} (ho:ops[i]? = some oi) (hw:Region.wanted oi (yielded ops a.tmps)=true) (h:∀ T,oi.wp P a (Bq.tp w T 0) (fun a' w'=>K a' (Bq.tp w' w0.tape 0)) nF):opB P J ops w0.tape i K a w:=.inl fun T=>by
 unfold wpOp
 simp only [ho,hw,if_true]
 exact .inl (h T)
theorem gB_w (hr:Region.ready .any ops l=[i]) (ho:ops[i]? = some oi) (hl:l.setIfInBounds i true=l') (hw:Region.wanted oi (yielded ops a.tmps)=true)
  (h:∀ T,∀ K',ShB P J ops Q w0 S fuel l' K'→oi.wp P a (Bq.tp w T 0) K' nF):wpGB P J ops Q w0 S (fuel+1) l a w :=
 gB_one hr hl (opB_lone ho hw fun T=>h T _ fun a' w' h1 h2=>⟨h1,h2⟩)
theorem gB_i (ho:ops[i]? = some oi) (hl:l.setIfInBounds i true=l') (hw:Region.wanted oi (yielded ops a.tmps)=true)
  (h:∀ T,∀ K',ShB P J ops Q w0 S fuel l' K'→oi.wp P a (Bq.tp w T 0) K' nF):wpGiB P J ops Q w0 S fuel l i a w:=by
 subst hl
 exact opB_lone ho hw fun T=>h T _ fun a' w' h1 h2=>⟨h1,h2⟩
theorem gB_out {K:Act→World→Prop} {T0:Nat→Question→Nat} {d:Nat} (hK:ShB P J ops Q w0 S fuel l' K) (M:Mem (Bq.tp w0 T0 d) ex w L) (h:∀ W,Mem w0 ex W L→S w0 l' W∧wpGB P J ops Q w0 S fuel l' a W):K a w:=by
 obtain ⟨h1,h2⟩:=h _ (M.pt 0)
 exact hK a w h1 h2
theorem opB_call {K:Act→World→Prop} {op:Oper} {x:Operand} {xs:List Operand} {ts:Array TypeId} {f:FuncId} {first cap vs:List Value} {fn:Func} {R:Ending→World→Prop} (T:TmD df a n E) (hi:ops[i]? = some op) (ho:op.op=.call { callee:=.value x,args:=xs.toArray,argTypes:=ts })
  (hd : op.dst = some t) (hf : freshE E t = true) (hn : Nat.blt t n = true) (hx : a.eval x = .func (.func f) first.toArray cap.toArray) (hv : EvL a xs vs) (hfn : P.funcs[f]? = some fn) (hnm : (fn.name == "runtime.NumGoroutine") = false) (hb : fn.body.isNone = false)
  (hc:CallsB P J f (first++vs++cap).toArray w R) (h:∀ e w',R e w'→∃ v,e=.returned v∧∀ a',TmD df a' n ((t,v)::E)→K a' w') (hw:Region.wanted op (yielded ops a.tmps)=true):opB P J ops w0.tape i K a w :=
 .inr ⟨op,f,_,R,hi,hw,fun T' d'=>run_callV ho hx hv hfn hnm hb _,hc,fun e w' hR=>by
  obtain ⟨v,rfl,h1⟩:=h e w' hR
  exact ⟨v,Z,by rw [hd];exact h1 _ (T.put hn hf v)⟩⟩
theorem gB_ic (hl:l.setIfInBounds i true=l') (h:opB P J ops w0.tape i (fun a' w'=>S w0 l' w'∧wpGB P J ops Q w0 S fuel l' a' w') a w):wpGiB P J ops Q w0 S fuel l i a w:=by
 subst hl
 exact h
theorem gB_done (hr:Region.ready .any ops l=[]) (M:Mem w0 ex w L) (h:∀ W,Mem w0 ex W L→Q .normal a W):wpGB P J ops Q w0 S fuel l a w:=by
 intro _ _ _
 have h1:Q .normal a (Bq.tp w w0.tape 0):=h _ (Mem.tp M w0.tape w0.drawn 0)
 cases fuel with
 | zero=>exact ⟨hr,h1⟩
 | succ fuel=>exact ⟨fun _=>h1,by rw [hr];simp⟩
theorem gB_have (I:Act→World→Prop) (l':Array Bool) (fuel':Nat) (h2:∀ a w,I a w→wpGB P J ops Q w0 S fuel' l' a w) (h1:(∀ a w,I a w→wpGB P J ops Q w0 S fuel' l' a w)→wpGB P J ops Q w0 S fuel l a w):wpGB P J ops Q w0 S fuel l a w:=h1 h2
end
end
end
section
open Go.RowKit Go.Proofs.Ytoheddpnnjldgaa.Bq
theorem trs_bd (ts:List Lk):∀ (r:List (Int×Int)) (k:Nat) (l x:List Int),(∀ y∈r,0≤y.1∧y.2≤5)→(∀ v∈l,0≤v∧v≤5)→x∈trs ts r k l→∀ v∈x,0≤v∧v≤5
 | [],k,l,x,_,hl,h=>by
  unfold trs at h
  split at h
  ·rw [List.mem_singleton.1 h];exact hl
  ·cases h
 | y::r,k,l,x,hr,hl,h=>by
  unfold trs at h
  obtain ⟨n,hn,h⟩:=List.mem_flatMap.1 h
  have h1:=hr y Zz2
  have h2:=upI_mem.1 hn
  refine trs_bd ts r (k+1) _ x (fun z hz=>hr z (Zz1 hz)) (fun v hv=>?_) h
  rcases List.mem_or_eq_of_mem_set hv with hv | rfl
  ·exact hl v hv
  ·omega
theorem truthsL_ok {b:Bw} (h:BwGood b):∀ x∈truthsL b,x.ok:=fun x hx=>by
 obtain ⟨l,hl,rfl⟩:=List.mem_map.1 hx
 have h1:=trs_bd b.ts b.cs 0 [0,0,0,0] l (fun y hy=>by have:=h.cs y hy;omega) (fun v hv=>by simp only [Zx7,Zx8,or_false,or_self] at hv;omega) hl
 have g:∀ k,0≤l.getD k 0∧l.getD k 0≤5:=fun k=>by
  rw [List.getD_eq_getElem?_getD]
  cases hk:l[k]? with
  | none=>simp
  | some v=>exact h1 v (List.mem_of_getElem? hk)
 exact ⟨g 0,g 1,g 2,g 3⟩
theorem known_ok {b:Bw} {el:List Int} (nop:∀ t∈b.ts,t.op.length≤1000) (h:knownE b el=0):BwGood b∧firstE el=0∧knownL b el=truthsL b∧(∀ x∈knownL b el,x.ok)∧0 < (knownL b el).length∧(knownL b el).length≤1000000:=by
 unfold knownE at h
 split at h
 ·rename_i h1;exact absurd h h1
 ·rename_i h1
  split at h
  ·rename_i h2;exact absurd h h2
  ·rename_i h2
   split at h
   ·cases h
   ·rename_i h3
    have hg:=chkB_good (b:=b) (by omega)
    have e:knownL b el=truthsL b:=by unfold knownL;rw [if_neg h1,if_neg h2]
    refine ⟨hg,by omega,e,by rw [e];exact truthsL_ok hg,?_,?_⟩
    ·rw [e];unfold truthsL;rw [List.length_map];omega
    ·rw [e];unfold truthsL;rw [List.length_map];exact truths_many (hg.val nop)
theorem first1 {e:Int} (h:firstE [e]=0):e=0:=by
 unfold firstE at h
 split at h
 · assumption
 · exact h
theorem first2 {e f:Int} (h:firstE [e,f]=0):e=0∧f=0:=by
 unfold firstE at h
 split at h
 · exact ⟨by assumption,first1 h⟩
 · rename_i h1;exact absurd h h1
def sums0 (b:Bw):List Int:=sumsB (cornL b.cs.length []) (truthsL b)
def turL (b:Bw) (p:List Nt):List Int:=if knownE b [pieceE p]≠0 then [] else ((bysT p).find? (alwB b p (sums0 b))).getD []
def turE (b:Bw) (p:List Nt):Int:=if knownE b [pieceE p]≠0 then knownE b [pieceE p] else if ((bysT p).find? (alwB b p (sums0 b))).isSome then 0 else 11
def menL (b:Bw) (p:List Nt):List Int:=if knownE b [pieceE p]≠0 then [] else fewL b.cs.length fun m=>fineB b p (sumsB (cornL b.cs.length m) (truthsL b))
def menE (b:Bw) (p:List Nt):Int:=if knownE b [pieceE p]≠0 then knownE b [pieceE p] else fewE b.cs.length fun m=>fineB b p (sumsB (cornL b.cs.length m) (truthsL b))
def LsMPost (l:List Int) (er:Int) (w:World) (e:Ending) (w':World):Prop:=∃ A c I,e=.returned (.tuple #[.slice A l.length c,Zi (turnW l),Zi er])∧l.length≤c∧(∃ b o,∀ (w1:World) (ex:Nat→Prop),Sp w1 ex I A l.length 1 b o (ic l))∧Mem w noEx w' I
set_option maxHeartbeats 4000000 in
theorem waysBy_any {J:Nat→Option Obj} (hP:FuncsOk Try.prog) (b:Bw) (A:Option Addr) (c:Nat) (D:Option Addr) (d:Nat) (p:List Nt) (P:Option Addr) (pc:Nat)  (w:World) (hA:Rd w w.heap.size 2 A b.cs.length (rc b.cs)) (hD:Rd w w.heap.size 4 D b.ts.length (lkc b.ts)) (hop:∀ t∈b.ts,Rd w w.heap.size 1 t.A t.op.length (ic t.op)) (nA:b.cs.length≤1000) (nD:b.ts.length≤1000) (nop:∀ t∈b.ts,t.op.length≤1000) (hP9:Rd w w.heap.size 4 P p.length (ntc p)) (nP:p.length≤1000)  :
   CallsB Try.prog J 86 #[.agg #[Zi b.full,Zi b.a0,Zi b.a1,.slice A b.cs.length c,.slice D b.ts.length d],.slice P p.length pc,.func (.func 87) #[] #[]] w (LsMPost (turL b p) (turE b p) w):=by
 obtain ⟨bA,oA,SA⟩:=Sp.old hA
 obtain ⟨bD,oD,SD⟩:=Sp.old hD
 obtain ⟨bP,oP,SP⟩:=Sp.old hP9
 refine px_enterB hP noEx Try.func86 Z 41 Z [.agg #[Zi b.full,Zi b.a0,Zi b.a1,.slice A b.cs.length c,.slice D b.ts.length d],.slice P p.length pc,.func (.func 87) #[] #[]] Z Z (Mem.init w _) ?_
 intro ac wc T M
 refine wpB_seq hP ?_
 refine b_lone hP w fun T9=>?_
 replace M:=M.tp T9 0 0
 replace SA:=SA.tp T9 0
 replace SD:=SD.tp T9 0
 replace SP:=SP.tp T9 0
 refine wp_region_lit ?_
 refine Zl2 ?_
 refine Zob M T Z Z Z Z (T.e 0 Z) Z ?_;clear M T;intro g1 wc ac M T
 refine Zl2 ?_
 refine Zob M T Z Z Z Z (T.e 3 Z) Z ?_;clear M T;intro g2 wc ac M T
 refine Zg3 T (Zq (Zra Z evc)) Z (Zc Z) Z (Zc Z) Z ?_;intro ac T
 refine wpList_nil ?_
 refine nqR_n M ?_;clear M;intro wc M
 replace SA:=SA.pt
 replace SD:=SD.pt
 replace SP:=SP.pt
 replace T:=T.pick [3,4,6] rfl
 refine nm_then ?_
 refine wpB_seq hP ?_
 refine gB_start2 hP M (M.mask [true,true] Z) 10 (by kernel_rfl) Z (by kernel_rfl) ?_
 clear M;intro wc M
 refine gB_q (T:=T) (i:=0) Z (by kernel_rfl) (by kernel_rfl:(Zpb 10 0).setIfInBounds 0 true=Zpb 10 1) (fun _=>si_U) Z Z Z Z (fun T9 B w' hD hl hS=>(Zrr (Mem.nth (show Mem (Bq.tp w T9 0) noEx w' _ from hS) 1 Z) Z (T.e 1 Z) Z)) ?_;intro ac T
 refine gB_q (T:=T) (i:=1) Z (by kernel_rfl) (by kernel_rfl:(Zpb 10 1).setIfInBounds 1 true=Zpb 10 3) (fun _=>si_U) Z Z Z Z (fun _ _ _ _ _ _=>(Zrm Z (T.e 3 Z))) ?_;intro ac T
 refine gB_w (i:=2) (by kernel_rfl) Z (by kernel_rfl:(Zpb 10 3).setIfInBounds 2 true=Zpb 10 7) Z ?_;intro T9 K hK
 replace M:=M.tp T9 0 0
 replace SA:=SA.tp T9 0
 replace SD:=SD.tp T9 0
 replace SP:=SP.tp T9 0
 refine Zod T Z Z Z Z evf (.cons (T.e 0 Z) .nil) Try.func40 Z Z ?_
 refine Calls.mono (piece_any p P pc _ (SP.rd M (Zz9 _)) (by omega)) ?_
 clear T;rintro e wc ⟨rfl,hb⟩ ac T
 replace M:=M.call hb;clear hb
 refine gB_out hK M ?_;clear hK K M;intro wc M
 replace SA:=SA.pt
 replace SD:=SD.pt
 replace SP:=SP.pt
 refine ⟨(M.mask [true,true] Z),?_⟩
 refine gB_w (i:=3) (by kernel_rfl) Z (by kernel_rfl:(Zpb 10 7).setIfInBounds 3 true=Zpb 10 15) Z ?_;intro T9 K hK
 replace M:=M.tp T9 0 0
 replace SA:=SA.tp T9 0
 replace SD:=SD.tp T9 0
 replace SP:=SP.tp T9 0
 refine ow_bs (e:=39) [Zi (pieceE p)] M T Z Z Z Z (.cons (T.e 0 Z) .nil) (fun _=>by kernel_rfl) ?_;clear M T;intro g3 wc ac M T
 refine gB_out hK M ?_;clear hK K M;intro wc M
 replace SA:=SA.pt
 replace SD:=SD.pt
 replace SP:=SP.pt
 refine ⟨(M.mask [false,true,true] Z),?_⟩
 refine gB_one (i:=4) (by kernel_rfl) (by kernel_rfl:(Zpb 10 15).setIfInBounds 4 true=Zpb 10 31) (opB_call (first:=[]) (cap:=[]) T Z Z Z Z Z evf (.cons (T.e 3 Z) (.cons (T.e 0 Z) .nil)) Try.func77 Z Z (known_any hP b A c D d (some ⟨g3,0,none⟩) 1 [(pieceE p)] _ (SA.rd M (Zz9 _)) (SD.rd M (Zz9 _)) (fun t ht=>M.rd (hop t ht) (Nat.le_refl _)) nA nD nop (M.rdOwn (Zne (i:=0) Z) Z Z) (by first | omega | simp)) ?_ Z)
 clear T
 rintro e wc ⟨Akur1_4,ckur1_4,Ikur1_4,rfl,hckur1_4,N⟩
 refine ⟨_,Z,?_⟩
 intro ac T
 obtain ⟨lkur1_4,hlkur1_4⟩:∃ q,q=knownL b [(pieceE p)]:=⟨_,rfl⟩
 obtain ⟨ekur1_4,hekur1_4⟩:∃ q,q=knownE b [(pieceE p)]:=⟨_,rfl⟩
 rw [← hlkur1_4] at hckur1_4 T
 rw [← hekur1_4] at T
 obtain ⟨bkur1_4,okur1_4,hSkur1_4⟩:=hckur1_4.spV (l4c_length _)
 have SLkur1_4:=hSkur1_4 w noEx
 clear hSkur1_4
 replace M:=(M.join N).swapI
 clear N
 replace M:Mem w noEx wc ((g3,.cells [Zi (pieceE p)])::(g2,.cells [.func (.func 87) #[] #[]])::(g1,.cells [Zi b.full,Zi b.a0,Zi b.a1,.slice A b.cs.length c,.slice D b.ts.length d])::Ikur1_4):=M
 refine ⟨(M.perm [1,2] Z Z),?_⟩
 refine gB_q (T:=T) (i:=5) Z (by kernel_rfl) (by kernel_rfl:(Zpb 10 31).setIfInBounds 5 true=Zpb 10 63) (fun _=>si_U) Z Z Z Z (fun _ _ _ _ _ _=>(Zrm Z (T.e 0 Z))) ?_;intro ac T
 refine gB_q (T:=T) (i:=6) Z (by kernel_rfl) (by kernel_rfl:(Zpb 10 63).setIfInBounds 6 true=Zpb 10 127) (fun _=>si_U) Z Z Z Z (fun _ _ _ _ _ _=>(Zre Z (T.e 0 Z) Z)) ?_;intro ac T
 refine gB_q (T:=T) (i:=7) Z (by kernel_rfl) (by kernel_rfl:(Zpb 10 127).setIfInBounds 7 true=Zpb 10 255) (fun _=>si_U) Z Z Z Z (fun _ _ _ _ _ _=>(Zre Z (T.e 1 Z) Z)) ?_;intro ac T
 refine gB_q (T:=T) (i:=8) Z (by kernel_rfl) (by kernel_rfl:(Zpb 10 255).setIfInBounds 8 true=Zpb 10 511) (fun _=>si_U) Z Z Z Z (fun _ _ _ _ _ _=>(Zra Z (T.e 1 Z))) ?_;intro ac T
 refine gB_q (T:=T) (i:=9) Z (by kernel_rfl) (by kernel_rfl:(Zpb 10 511).setIfInBounds 9 true=Zpb 10 1023) (fun _=>si_U) Z Z Z Z (fun _ _ _ _ _ _=>(Zra Z (T.e 1 Z))) ?_;intro ac T
 refine gB_done (by kernel_rfl) M ?_;clear M;intro wc M
 replace T:=T.pick [0,1,10,11,12] rfl
 replace M:=M.mask [false,true,true] rfl
 refine nm_then ?_
 refine wpB_seq hP ?_
 refine wpB_seq hP ?_
 refine b_lone hP w fun T9=>?_
 replace M:=M.tp T9 0 0
 replace SA:=SA.tp T9 0
 replace SD:=SD.tp T9 0
 replace SLkur1_4:=SLkur1_4.tp T9 0
 replace SP:=SP.tp T9 0
 refine wp_region_lit ?_
 refine Zg2 T (Zq (Zrm Z (T.e 0 Z))) Z (fun _ T=>Zq (rn_neq Z (T.e 0 Z) evc)) Z ?_;intro ac T
 refine wpList_nil ?_
 refine nqR_n M ?_;clear M;intro wc M
 replace SA:=SA.pt
 replace SD:=SD.pt
 replace SLkur1_4:=SLkur1_4.pt
 replace SP:=SP.pt
 replace T:=T.pick [0,2,3,4,5,6] rfl
 refine nm_then ?_
 refine wB_ifn hP (T.e 0 Z) ?_ ?_
 ·intro h1
  refine wpB_seq hP ?_
  refine b_lone hP w fun T9=>?_
  replace M:=M.tp T9 0 0
  replace SA:=SA.tp T9 0
  replace SD:=SD.tp T9 0
  replace SLkur1_4:=SLkur1_4.tp T9 0
  replace SP:=SP.tp T9 0
  refine wp_region_lit ?_
  refine Zg4 T (Zq (Zrm Z (T.e 1 Z))) Z (Zc Z) Z (Zc Z) Z (Za 2 Z Z) Z ?_;intro ac T
  refine wpList_nil ?_
  refine nqR_n M ?_;clear M;intro wc M
  replace SA:=SA.pt
  replace SD:=SD.pt
  replace SLkur1_4:=SLkur1_4.pt
  replace SP:=SP.pt
  replace T:=T.pick [0,1,2] rfl
  replace M:=M.mask [false,false] rfl
  refine nm_then ?_
  refine wpB_ret hP ?_
  refine Zrt ?_
  refine rt_3 T Z (T.e 2 Z) (T.e 1 Z) (T.e 0 Z) ?_
  have hke:knownE b [pieceE p]≠0:=by rw [← hekur1_4];omega
  have e9:turL b p=[]∧turE b p=ekur1_4:=by unfold turL turE;rw [if_pos hke,if_pos hke,hekur1_4];exact ⟨rfl,rfl⟩
  rw [e9.1,e9.2]
  exact ⟨none,0,[],Z,Nat.le_refl _,⟨0,0,fun w1 ex=>Sp.nil⟩,M.sub (Zz9 _)⟩
 intro h1
 have hke:knownE b [pieceE p]=0:=by rw [← hekur1_4];omega
 obtain ⟨hgood,hf9,hlt,hl4,hlp,hln⟩:=known_ok nop hke
 rw [← hlkur1_4] at hlt hl4 hlp hln
 have hgp:=pieceE_good (first1 hf9)
 have hgb:=hgood.airs
 have h4:=hgood.n4
 refine wpB_skip hP ?_
 refine nm_then ?_
 refine wpB_seq hP ?_
 refine b_lone hP w fun T9=>?_
 replace M:=M.tp T9 0 0
 replace SA:=SA.tp T9 0
 replace SD:=SD.tp T9 0
 replace SLkur1_4:=SLkur1_4.tp T9 0
 replace SP:=SP.tp T9 0
 refine wp_region_lit ?_
 refine Zg3 T (Zq (Zrr (Mem.nth M 1 Z) Z (T.e 4 Z) Z)) Z (Zm 3 Z Z) Z (Zm 7 Z Z) Z ?_;intro ac T
 refine Zl2 ?_
 refine Zod T Z Z Z Z evf (.cons (T.e 2 Z) (.cons (T.e 1 Z) (.cons (T.e 0 Z) (.cons evc .nil)))) Try.func85 Z Z ?_
 refine Calls.mono (playedBy_any b A c D d lkur1_4 Akur1_4 ckur1_4 p P pc none 0 [] _ (SLkur1_4.rd M (.cons _ (.cons _ (List.Sublist.refl _)))) (by omega) hl4 h4 (⟨by simp [ic],fun h=>absurd h (by simp)⟩) (by first | omega | simp)) ?_
 clear T;rintro e wc ⟨Apu2,cpu2,Ipu2,rfl,hclu2,N⟩ ac T
 obtain ⟨svu2,hsvu2⟩:∃ q,q=sumsB (cornL b.cs.length []) lkur1_4:=⟨_,rfl⟩
 rw [← hsvu2] at hclu2 T
 have hssvu2:∀ s∈svu2,0≤s∧s≤20:=by rw [hsvu2];exact sums_bd hl4 h4
 have hnsvu2:svu2.length≤lkur1_4.length:=by rw [hsvu2];exact sumsB_len _
 obtain ⟨bpu2,opu2,Spu2⟩:=hclu2.spV (by rw [pdc_length,List.length_map])
 replace Spu2:=Spu2 (Bq.tp w T9 0) noEx
 replace M:=(M.join N).swapI
 clear N
 replace M:Mem (Bq.tp w T9 0) noEx wc ((g2,.cells [.func (.func 87) #[] #[]])::(g1,.cells [Zi b.full,Zi b.a0,Zi b.a1,.slice A b.cs.length c,.slice D b.ts.length d])::(Ikur1_4++Ipu2)):=M
 refine Zl2 ?_
 refine Zoa M T Z Z Z Z ?_;clear M T;intro g4 wc ac M T
 refine Zl2 ?_
 refine Zot M T Z Z (T.e 0 Z) (T.e 1 Z) Z .head Z Z ?_;clear M T;intro wc ac M T
 refine wpList_nil ?_
 refine nqR_n M ?_;clear M;intro wc M
 replace SA:=SA.pt
 replace SD:=SD.pt
 replace SLkur1_4:=SLkur1_4.pt
 replace SP:=SP.pt
 replace Spu2:=Spu2.pt
 replace T:=T.pick [0,8,10] rfl
 replace M:=M.mask [true,true,false] rfl
 refine nm_then ?_
 refine wpB_seq hP ?_
 refine b_lone hP w fun T9=>?_
 replace M:=M.tp T9 0 0
 replace SA:=SA.tp T9 0
 replace SD:=SD.tp T9 0
 replace SLkur1_4:=SLkur1_4.tp T9 0
 replace SP:=SP.tp T9 0
 replace Spu2:=Spu2.tp T9 0
 refine wp_region_lit ?_
 refine lq T (Zrm Z (T.e 2 Z)) ?_;intro ac T
 refine Zl2 ?_
 refine Zod T Z Z Z Z evf (.cons (T.e 0 Z) .nil) Try.func124 Z Z ?_
 refine Calls.mono (byTurns_any p P pc _) ?_
 clear T;rintro e wc ⟨gu3,rfl,N⟩ ac T
 replace M:=M.join N;clear N
 replace M:=M.mask [true,true,true] rfl
 refine lq (v:=(.func (.func 126) #[] #[Zj g2,Zj g4])) T (rn_makeFunc Z .nil (.cons (T.e 3 Z) (.cons (T.e 2 Z) .nil))) ?_;intro ac T
 refine Zl2 ?_
 have h6:=hgp.n6
 have hP8:=SP.rd M (Zz9 _)
 have hL8:=Spu2.rd M (.cons _ (.cons _ (.cons _ (Zsq _ _))))
 have q7:=M.nth 2 rfl
 have q8:=M.nth 1 rfl
 refine Zod T Z Z Z Z evf (.cons (T.e 1 Z) (.cons (T.e 0 Z) .nil)) Try.func123 Z Z ?_
 refine Calls.mono (firstW_any p P pc gu3 126 _ [Zj g2,Zj g4] (fun w9=>alwB b p svu2 w9) _ h6 (SP.rd M (Zz9 _)) (M.nth 0 Z) Try.func126 Z Z (fun x W hW hR hx=>ways1_any b A c D d p P pc svu2 Apu2 cpu2 x.A x.c x.l g2 g4 W ((hP8.below hW).more hW.size) hR ((hL8.below hW).more hW.size) (by omega) hgp hgb hssvu2 hx (q7.below hW) (q8.below hW))) ?_
 clear T;rintro e wc ⟨Afu4,cfu4,rfu4,bfu4,Ifu4,rfl,hffu4,hfnu4,hfqu4,hfcu4,⟨bzu4,ozu4,hSfu4⟩,N⟩ ac T
 have SFu4:=hSfu4 (Bq.tp w T9 0) noEx
 replace M:=(M.join N).swapI
 clear N
 replace M:Mem (Bq.tp w T9 0) noEx wc ((gu3,.cells [.slice P p.length pc])::(g4,.cells [.slice Apu2 svu2.length cpu2])::(g2,.cells [.func (.func 87) #[] #[]])::(Ikur1_4++Ipu2++Ifu4)):=M
 refine Zg5 T (Zq (Zrm Z (T.e 0 Z))) Z (Ze 0 Z Z Z) Z (Ze 1 Z Z Z) Z (Za 1 Z Z) Z (Za 1 Z Z) Z ?_;intro ac T
 refine wpList_nil ?_
 refine nqR_n M ?_;clear M;intro wc M
 replace SA:=SA.pt
 replace SD:=SD.pt
 replace SFu4:=SFu4.pt
 replace SLkur1_4:=SLkur1_4.pt
 replace SP:=SP.pt
 replace Spu2:=Spu2.pt
 replace T:=T.pick [0,1] rfl
 replace M:=M.mask [false,false,false] rfl
 replace M:Mem w noEx wc ((Ikur1_4++Ipu2++Ifu4)):=M
 refine nm_then ?_
 refine wpB_seq hP ?_
 refine wpB_seq hP ?_
 refine b_lone hP w fun T9=>?_
 replace M:=M.tp T9 0 0
 replace SA:=SA.tp T9 0
 replace SD:=SD.tp T9 0
 replace SFu4:=SFu4.tp T9 0
 replace SLkur1_4:=SLkur1_4.tp T9 0
 replace SP:=SP.tp T9 0
 replace Spu2:=Spu2.tp T9 0
 refine wp_region_lit ?_
 refine Zg2 T (Zq (Zrm Z (T.e 0 Z))) Z (fun _ T=>Zq (rn_not Z (T.e 0 Z))) Z ?_;intro ac T
 refine wpList_nil ?_
 refine nqR_n M ?_;clear M;intro wc M
 replace SA:=SA.pt
 replace SD:=SD.pt
 replace SFu4:=SFu4.pt
 replace SLkur1_4:=SLkur1_4.pt
 replace SP:=SP.pt
 replace Spu2:=Spu2.pt
 replace T:=T.pick [0,3] rfl
 refine nm_then ?_
 refine wB_cond_split hP (T.e 0 Z) ?_ ?_
 ·intro h2
  (have h2':=h2;try simp only [Zb1,Zb2,Zb3,Zb4,Zb5,Zb6,Zb7] at h2')
  refine wpB_seq hP ?_
  refine b_lone hP w fun T9=>?_
  replace M:=M.tp T9 0 0
  replace SA:=SA.tp T9 0
  replace SD:=SD.tp T9 0
  replace SFu4:=SFu4.tp T9 0
  replace SLkur1_4:=SLkur1_4.tp T9 0
  replace SP:=SP.tp T9 0
  replace Spu2:=Spu2.tp T9 0
  refine wp_region_lit ?_
  refine Zg3 T (Zq (Zra Z evc)) Z (Zc Z) Z (Zc Z) Z ?_;intro ac T
  refine wpList_nil ?_
  refine nqR_n M ?_;clear M;intro wc M
  replace SA:=SA.pt
  replace SD:=SD.pt
  replace SFu4:=SFu4.pt
  replace SLkur1_4:=SLkur1_4.pt
  replace SP:=SP.pt
  replace Spu2:=Spu2.pt
  replace T:=T.pick [0,1,2] rfl
  refine nm_then ?_
  refine wpB_ret hP ?_
  refine Zrt ?_
  refine rt_3 T Z (T.e 2 Z) (T.e 1 Z) (T.e 0 Z) ?_
  have hsv9:svu2=sums0 b:=by rw [hsvu2,hlt];rfl
  rw [hsv9] at hffu4
  have e9:turL b p=[]∧turE b p=11:=by unfold turL turE;rw [if_neg (by omega),if_neg (by omega),hffu4,show bfu4=false by simp_all];exact ⟨rfl,rfl⟩
  rw [e9.1,e9.2]
  exact ⟨none,0,[],Z,Nat.le_refl _,⟨0,0,fun w1 ex=>Sp.nil⟩,M.sub (Zz9 _)⟩
 intro h2
 (have h2':=h2;try simp only [Zb1,Zb2,Zb3,Zb4,Zb5,Zb6,Zb7] at h2')
 have hrl:rfu4.length=p.length:=hfqu4 (by simp_all)
 refine wpB_skip hP ?_
 refine nm_then ?_
 refine wpB_seq hP ?_
 refine b_lone hP w fun T9=>?_
 replace M:=M.tp T9 0 0
 replace SA:=SA.tp T9 0
 replace SD:=SD.tp T9 0
 replace SFu4:=SFu4.tp T9 0
 replace SLkur1_4:=SLkur1_4.tp T9 0
 replace SP:=SP.tp T9 0
 replace Spu2:=Spu2.tp T9 0
 refine wp_region_lit ?_
 refine Zg2 T (Zq (Zrm Z (T.e 1 Z))) Z (Zm 2 Z Z) Z ?_;intro ac T
 refine Zl2 ?_
 refine Zod T Z Z Z Z evf (.cons (T.e 0 Z) .nil) Try.func127 Z Z ?_
 refine Calls.mono (turns_any Afu4 cfu4 rfu4 _ (SFu4.rd M (Zsq _ _)) (by omega)) ?_
 clear T;rintro e wc ⟨rfl,hb⟩ ac T
 replace M:=M.call hb;clear hb
 refine Zg3 T (Zq (Zra Z (T.e 2 Z))) Z (Za 1 Z Z) Z (Zc Z) Z ?_;intro ac T
 refine wpList_nil ?_
 refine nqR_n M ?_;clear M;intro wc M
 replace SA:=SA.pt
 replace SD:=SD.pt
 replace SFu4:=SFu4.pt
 replace SLkur1_4:=SLkur1_4.pt
 replace SP:=SP.pt
 replace Spu2:=Spu2.pt
 replace T:=T.pick [0,1,2] rfl
 refine nm_then ?_
 refine wpB_ret hP ?_
 refine rt_3 T Z (T.e 2 Z) (T.e 1 Z) (T.e 0 Z) ?_
 have hsv9:svu2=sums0 b:=by rw [hsvu2,hlt];rfl
 rw [hsv9] at hffu4
 have e9:turL b p=rfu4∧turE b p=0:=by unfold turL turE;rw [if_neg (by omega),if_neg (by omega),hffu4,show bfu4=true by simp_all];exact ⟨rfl,rfl⟩
 rw [e9.1,e9.2]
 exact ⟨_,_,Ifu4,Z,hfcu4,⟨_,_,hSfu4⟩,M.sub ((Zsq _ _))⟩
theorem Turns_any {J:Nat→Option Obj} (hP:FuncsOk Try.prog) (b:Bw) (A:Option Addr) (c:Nat) (D:Option Addr) (d:Nat) (p:List Nt) (P:Option Addr) (pc:Nat)  (w:World) (hA:Rd w w.heap.size 2 A b.cs.length (rc b.cs)) (hD:Rd w w.heap.size 4 D b.ts.length (lkc b.ts)) (hop:∀ t∈b.ts,Rd w w.heap.size 1 t.A t.op.length (ic t.op)) (nA:b.cs.length≤1000) (nD:b.ts.length≤1000) (nop:∀ t∈b.ts,t.op.length≤1000) (hP9:Rd w w.heap.size 4 P p.length (ntc p)) (nP:p.length≤1000)  :
  CallsB Try.prog J 27 #[.agg #[Zi b.full,Zi b.a0,Zi b.a1,.slice A b.cs.length c,.slice D b.ts.length d],.slice P p.length pc] w (LsMPost (turL b p) (turE b p) w):=by
 obtain ⟨bA,oA,SA⟩:=Sp.old hA
 obtain ⟨bD,oD,SD⟩:=Sp.old hD
 obtain ⟨bP,oP,SP⟩:=Sp.old hP9
 refine px_enterB hP noEx Try.func27 Z 13 Z [.agg #[Zi b.full,Zi b.a0,Zi b.a1,.slice A b.cs.length c,.slice D b.ts.length d],.slice P p.length pc] Z Z (Mem.init w _) ?_
 intro ac wc T M
 refine wpB_seq hP ?_
 refine b_lone hP w fun T9=>?_
 replace M:=M.tp T9 0 0
 replace SA:=SA.tp T9 0
 replace SD:=SD.tp T9 0
 replace SP:=SP.tp T9 0
 refine wp_region_lit ?_
 refine Zl2 ?_
 refine Zob M T Z Z Z Z (T.e 0 Z) Z ?_;clear M T;intro g1 wc ac M T
 refine Zg3 T (Zq (Zra Z evc)) Z (Zc Z) Z (Zc Z) Z ?_;intro ac T
 refine wpList_nil ?_
 refine nqR_n M ?_;clear M;intro wc M
 replace SA:=SA.pt
 replace SD:=SD.pt
 replace SP:=SP.pt
 replace T:=T.pick [3,5] rfl
 refine nm_then ?_
 refine wpB_seq hP ?_
 refine rB_preN hP w 2 (by decide) fun T9=>?_
 replace M:=M.tp T9 0 0
 replace SA:=SA.tp T9 0
 replace SD:=SD.tp T9 0
 replace SP:=SP.tp T9 0
 refine Zg2 T (Zq (Zrr (Mem.nth M 0 Z) Z (T.e 0 Z) Z)) Z (Zm 2 Z Z) Z ?_;intro ac T
 refine wpList_nil ?_
 refine pqR_n M ?_;clear M;intro wc M
 replace SA:=SA.pt
 replace SD:=SD.pt
 replace SP:=SP.pt
 refine rB_call hP (m:=6) (first:=[]) (cap:=[]) T Z Z Z Z Z evf (.cons (T.e 1 Z) (.cons (T.e 0 Z) (.cons evf .nil))) Try.func86 Z Z (waysBy_any hP b A c D d p P pc _ (SA.rd M (Zz9 _)) (SD.rd M (Zz9 _)) (fun t ht=>M.rd (hop t ht) (Nat.le_refl _)) nA nD nop (SP.rd M (Zz9 _)) nP) ?_
 clear T
 rintro e wc ⟨Atu1,ctu1,Itu1,rfl,htcu1,⟨btu1,otu1,hStu1⟩,N⟩
 refine ⟨_,Z,?_⟩
 intro ac T
 replace M:=(M.join N).swapI
 clear N
 replace M:Mem w noEx wc ((g1,.cells [Zi b.full,Zi b.a0,Zi b.a1,.slice A b.cs.length c,.slice D b.ts.length d])::Itu1):=M
 refine rB_moreN hP w 6 0 Z (by decide) fun T9=>?_
 replace M:=M.tp T9 0 0
 replace SA:=SA.tp T9 0
 replace SD:=SD.tp T9 0
 replace SP:=SP.tp T9 0
 refine Zg6 T (Zq (Zre Z (T.e 0 Z) Z)) Z (Ze 1 Z Z Z) Z (Ze 2 Z Z Z) Z (Za 2 Z Z) Z (Za 2 Z Z) Z (Za 2 Z Z) Z ?_;intro ac T
 refine wpList_nil ?_
 refine pqR_n M ?_;clear M;intro wc M
 replace SA:=SA.pt
 replace SD:=SD.pt
 replace SP:=SP.pt
 refine rB_nil hP ?_
 replace T:=T.pick [0,1,2] rfl
 replace M:=M.mask [false] rfl
 refine nm_then ?_
 refine wpB_ret hP ?_
 refine rt_3 T Z (T.e 2 Z) (T.e 1 Z) (T.e 0 Z) ?_
 exact ⟨_,_,Itu1,Z,htcu1,⟨_,_,hStu1⟩,M.sub ((List.Sublist.refl _))⟩
end
def setL {α:Type}:List α→Nat→List α→List α
 | l,_,[]=>l
 | l,o,v::r=>setL (l.set o v) (o+1) r
theorem setL_take {α:Type}:∀ (ds l:List α) (o m:Nat),(setL l o ds).take m=setL (l.take m) o ds
 | [],_,_,_=>rfl
 | v::r,l,o,m=>by unfold setL;rw [setL_take r,List.take_set]
def stC (cur:Array Value) (o:Nat):List Value→Array Value
 | []=>cur
 | v::r=>stC (cur.setIfInBounds o v) (o+1) r
theorem stC_list:∀ (ds:List Value) (cur:Array Value) (o:Nat),(stC cur o ds).toList=setL cur.toList o ds
 | [],_,_=>rfl
 | v::r,cur,o=>by unfold stC setL;rw [stC_list r];simp
theorem stC_size:∀ (ds:List Value) (cur:Array Value) (o:Nat),(stC cur o ds).size=cur.size
 | [],_,_=>rfl
 | v::r,cur,o=>by unfold stC;rw [stC_size r];simp
theorem heap_setCells {g:Nat} {e:TypeId} {fz:Nat×Nat}:∀ (ds:List Value) (o:Nat) (cur:Array Value) (w:World),w.heap[g]? = some (.cells cur e fz)→(w.setCells g o ds).heap[g]? = some (.cells (stC cur o ds) e fz)
 | [],_,_,_,h=>h
 | v::r,o,cur,w,h=>by
  unfold World.setCells stC
  refine heap_setCells r (o+1) _ _ ?_
  unfold World.setCell
  simp [Array.getElem?_modify,h]
section
variable {P:Program} {op:Oper} {a:Act} {K:Act→World→Prop} {Q:Exit→Act→World→Prop} {w0 w:World} {ex:Nat→Prop} {L:List (Nat×BA)} {E:List (Nat×Value)} {df:List Deferred} {nn:Nat}
theorem setL_rc:∀ (l:List (Int×Int)) (k:Nat) (v0 v1:Int),setL (rc l) (k * 2) [Zi v0,Zi v1]=rc (l.set k (v0,v1))
 | [],k,v0,v1=>by simp [setL,rc]
 | x::l,0,v0,v1=>by simp [setL,rc]
 | x::l,k+1,v0,v1=>by
  have:=setL_rc l k v0 v1
  have e:(k+1) * 2=k * 2+2:=by omega
  simp only [setL] at this ⊢
  rw [e]
  show ((Zi x.1::Zi x.2::rc l).set (k * 2+2) _).set (k * 2+2+1) _=Zi x.1::Zi x.2::rc (l.set k (v0,v1))
  simp only [Zz8]
  rw [this]
theorem ow_stSlR {ty : TypeId} {x y : Operand} {L0 I : List (Nat × BA)} {A : Option Addr} {e n c b k : Nat} {v0 v1 : Int} {l : List (Int × Int)} (L1 : List (Nat × BA)) (M : Mem w0 ex w L0) (hsp : L0 = L1 ++ I) (hS : Sl e 2 (.slice A n c) n (rc l) I) (T : TmD df a nn E) (ho : op.op = .store ty x y) (hd : op.dst = none)
   (hx:a.eval x=.pointer (some ⟨b,0+k * 2,none⟩)) (hA:A=some ⟨b,0,none⟩) (hy:a.eval y=.agg #[Zi v0,Zi v1]) (hk:k < l.length) (hn:l.length=n) (hi:(P.info? ty).map (·.size)=some 2)
   (h:∀ I' w' a',Sl e 2 (.slice A n c) n (rc (l.set k (v0,v1))) I'→Mem w0 ex w' (L1++I')→TmD df a' nn E→K a' w'):op.wp P a w K Q:=by
 subst hsp
 rcases hS with ⟨h1,h2,-,-⟩ | ⟨g,cap,h1,rfl⟩
 · omega
 · injection h1 with h1 _ h2
   subst h2
   rw [hA] at h1
   injection h1 with h1
   injection h1 with h1 _ _
   subst h1
   subst hA
   have hm:(b,BA.row e 2 n (rc l) c)∈L1++[(b,.row e 2 n (rc l) c)]:=by simp
   obtain ⟨⟨hl,hb⟩,hk0⟩:=(M.blk _ hm).2
   rcases hb with ⟨hb,_⟩ | ⟨g',cap',cur,e1,hge,hg,hc1,hc2,hc3,hc4⟩
   · cases hb
   · injection e1 with e1 _ ec
     injection e1 with e1
     injection e1 with e1 _ _
     subst e1
     subst ec
     have hB:Bk w b cur:=Bk.of_heap hg
     have hB':Bk w b cur.toList.toArray:=by simpa using hB
     have hsz:0+k * 2+2≤cur.toList.length:=by
       have:n * 2≤c * 2:=Nat.mul_le_mul_right _ hc1
       have h9:cur.toList.length=c * 2:=by simpa using hc3
       omega
     unfold Oper.wp execOp
     simp only [ho,hx,hy,Instr.storeAt,Instr.sureAddr,Sem.run_bind,Sem.run_pure,Result.andThen_ok,run_store_any (v:=.agg #[Zi v0,Zi v1]) (ds:=[Zi v0,Zi v1]) hi hB' rfl rfl hsz]
     refine h [(b,.row e 2 n (rc (l.set k (v0,v1))) c)] _ _ (.inr ⟨b,c,Z,Z⟩) (M.write (Upd.app L1) (Oth.setCells b _ _ _) ?_) (show TmD df (a.put op.dst undef) nn E by rw [hd];exact T)
     refine ⟨⟨by rw [rc_length,List.length_set];rw [rc_length] at hl;exact hl,.inr ⟨b,c,_,Z,Nat.le_refl _,heap_setCells _ _ _ _ hg,hc1,hc2,by rw [stC_size];exact hc3,?_⟩⟩,hk0⟩
     rw [stC_list,setL_take,hc4,Zxa,setL_rc]
theorem Sl.at {e size n c:Nat} {A:Option Addr} {xs:List Value} {I:List (Nat×BA)} (h:Sl e size (.slice A n c) n xs I) (hl:xs.length=n * size) (hn:0 < n):∃ b,A=some ⟨b,0,none⟩∧∀ (w:World) (ex:Nat→Prop),Sp w ex I A n size b 0 xs:=by
 rcases h with ⟨-,h2,-,-⟩ | ⟨g,cap,h1,rfl⟩
 ·omega
 ·injection h1 with h1 _ h2
  subst h1
  subst h2
  exact ⟨g,Z,fun w ex=>Sp.row hl⟩
end
end Go.Proofs.Ytoheddpnnjldgaa


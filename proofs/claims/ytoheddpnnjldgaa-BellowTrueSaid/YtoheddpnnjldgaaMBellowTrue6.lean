/-
  Walks of functions,and plain laws (texts put together). No condition.
-/
import Derived.ChangeKeysEq
import Derived.Test.YtoheddpnnjldgaaMBellowTrue1
import Derived.Test.YtoheddpnnjldgaaMBellowTrue2
import Derived.Test.YtoheddpnnjldgaaMBellowTrue3
import Derived.Test.YtoheddpnnjldgaaMBellowTrue4
import Derived.Test.YtoheddpnnjldgaaMBellowTrue5
set_option maxRecDepth 100000
set_option maxHeartbeats 1000000
set_option linter.unusedSimpArgs false
set_option linter.unusedVariables false
set_option linter.unusedSectionVars false
namespace Go.Proofs.Ytoheddpnnjldgaa
open Go.RowKit
section
open Go.RowKit Go.Proofs.Ytoheddpnnjldgaa.Bq
theorem eqT156 {x y:Operand} {a0 a1 a2 a3 b0 b1 b2 b3:Int} {w:World}:(do eqGuard .eql 156 x y (.agg #[.int .u64 a0,.int .u64 a1,.int .u64 a2,.int .u64 a3]) (.agg #[.int .u64 b0,.int .u64 b1,.int .u64 b2,.int .u64 b3]);binOp .eql 156 (.agg #[.int .u64 a0,.int .u64 a1,.int .u64 a2,.int .u64 a3]) (.agg #[.int .u64 b0,.int .u64 b1,.int .u64 b2,.int .u64 b3]):Sem Value).run Try.prog w=.ok (.bool (decide (a0=b0) && (decide (a1=b1) && (decide (a2=b2) && decide (a3=b3))))) w:=by
 go_simp
 obtain ⟨i,hi⟩:=Option.isSome_iff_exists.1 (by kernel_rfl:(Try.prog.info? 96).isSome=true)
 rw [show (10000:Nat)=9999+1 from rfl,run_equalIn_array w 9999 _ _ Try.underlying156 hi,show Try.prog.cellsOf 96=1 by kernel_rfl,show List.range 4=[0,1,2,3] from rfl]
 simp only [Op.eqItems]
 go_simp
 (repeat' split) <;> simp_all
def asC (s:As):List Value:=[.int .u64 s.a,.int .u64 s.b,.int .u64 s.c,.int .u64 s.d]
theorem asAt {w:World} {g:Nat} {s:As} {k:Nat} (h:Bk w g #[.int .u64 s.a,.int .u64 s.b,.int .u64 s.c,.int .u64 s.d]) (hk:k < 4):w.cell? ((⟨g,0,none⟩:Addr).add (k * 1))=some (.int .u64 (s.get k)):=by
 have:=h.cell k
 match k,hk with
 | 0,_=>exact this
 | 1,_=>exact this
 | 2,_=>exact this
 | 3,_=>exact this
section
variable {P:Program} {op:Oper} {a:Act} {K:Act→World→Prop} {Q:Exit→Act→World→Prop} {w0 w:World} {ex:Nat→Prop} {L L':List (Nat×BA)} {n:Nat} {E:List (Nat×Value)} {df:List Deferred}
theorem ow_stA {ty : TypeId} {x y : Operand} {g k : Nat} {s : As} {v : Int} (M : Mem w0 ex w L) (T : TmD df a n E) (ho : op.op = .store ty x y) (hd : op.dst = none) (hx : a.eval x = .pointer (some ((⟨g, 0, none⟩ : Addr).add (k * 1)))) (hk : k < 4) (hy : a.eval y = .int .u64 v)
   (hu:Upd L g (.cells (asC s)) (.cells (asC (s.put k v))) L') (hi:(P.info? ty).map (·.size)=some 1) (h:∀ w' a',Mem w0 ex w' L'→TmD df a' n E→K a' w'):op.wp P a w K Q:=by
 match k,hk,hx,hu with
 | 0,_,hx,hu=>exact Zos (o:=0) M T ho hd hx hy rfl hu rfl (by simp) rfl hi h
 | 1,_,hx,hu=>exact Zos (o:=1) M T ho hd hx hy rfl hu rfl (by simp) rfl hi h
 | 2,_,hx,hu=>exact Zos (o:=2) M T ho hd hx hy rfl hu rfl (by simp) rfl hi h
 | 3,_,hx,hu=>exact Zos (o:=3) M T ho hd hx hy rfl hu rfl (by simp) rfl hi h
end
def nxB (full way s:Int) (q:Nt) (S:Int→Bool) (y:Int):Bool:=(decide (0≤y) && decide (y≤full)) && (upI 0 full).any fun a=>S a && (upI q.lo q.hi).any fun d=>decide (aft way a (q.sec * (d+s))=y)
def canF (full s:Int):(Int→Bool)→List Nt→List Int→Bool
 | S,q::p,w::g=>(upI 0 full).any (nxB full w s q S) && canF full s (nxB full w s q S) p g
 | _,_,_=>true
theorem canF_nil (full s:Int) (S:Int→Bool) (g:List Int):canF full s S [] g=true:=by unfold canF;rfl
def canB (b:Bw) (p:List Nt) (g:List Int) (s:Int):Bool:=canF b.full s (fun m=>decide (b.a0≤m) && decide (m≤b.a1)) p g
def hopB (b:Bw) (p:List Nt) (ss:List Int) (g:List Int):Bool:=ss.any (canB b p g)
structure RepS (x:As) (full:Int) (S:Int→Bool):Prop where
 ok:x.ok
 eq:∀ m:Int,0≤m→m < 256→x.has m=S m
 bd:∀ m,S m=true→0≤m∧m≤full
def Src (way s:Int) (q:Nt) (S:Int→Bool) (a m:Int):Prop:=∃ a',(0≤a'∧a' < a)∧S a'=true∧∃ d,(q.lo≤d∧d≤q.hi)∧aft way a' (q.sec * (d+s))=m
def SrcD (way s:Int) (q:Nt) (S:Int→Bool) (a d m:Int):Prop:=Src way s q S a m∨S a=true∧∃ e,(q.lo≤e∧e < d)∧aft way a (q.sec * (e+s))=m
def Rep4 (x:As) (full:Int) (R:Int→Prop):Prop:=x.ok∧∀ m:Int,0≤m→m < 256→(x.has m=true↔(0≤m∧m≤full)∧R m)
section
variable {x:As} {full way s a d:Int} {q:Nt} {S:Int→Bool}
theorem Rep4.zero:Rep4 ⟨0,0,0,0⟩ full (Src way s q S 0):=by
 refine ⟨As.zero_ok,fun m k0 _=>?_⟩
 rw [As.has_zero k0]
 constructor
 · intro h;cases h
 · rintro ⟨-,a',h,-⟩;omega
theorem Rep4.iff {R R':Int→Prop} (h:Rep4 x full R) (hr:∀ m,0≤m∧m≤full→(R m↔R' m)):Rep4 x full R' :=
 ⟨h.1,fun m k0 k1=>(h.2 m k0 k1).trans (and_congr_right fun hm=>hr m hm)⟩
theorem Rep4.start (h:Rep4 x full (Src way s q S a)):Rep4 x full (SrcD way s q S a q.lo):=by
 refine h.iff fun m hm=>⟨.inl,fun h=>?_⟩
 rcases h with h | ⟨-,e,h,-⟩
 · exact h
 · omega
theorem Rep4.stop_no (h:Rep4 x full (SrcD way s q S a d)) (hs:S a=false):Rep4 x full (Src way s q S (a+1)):=by
 refine h.iff fun m hm=>⟨fun h=>?_,fun h=>?_⟩
 ·rcases h with ⟨a',h,h2⟩ | ⟨h,-⟩
  ·exact ⟨a',by omega,h2⟩
  ·rw [hs] at h;cases h
 ·obtain ⟨a',h1,h2,h3⟩:=h
  rcases (by omega:a' < a∨a'=a) with h4 | rfl
  ·exact .inl ⟨a',by omega,h2,h3⟩
  ·rw [hs] at h2;cases h2
theorem Rep4.stop_all (h:Rep4 x full (SrcD way s q S a d)) (h0:0≤a) (hd:d=q.hi+1):Rep4 x full (Src way s q S (a+1)):=by
 refine h.iff fun m hm=>⟨fun h=>?_,fun h=>?_⟩
 ·rcases h with ⟨a',h,h2⟩ | ⟨h,e,h2,h3⟩
  ·exact ⟨a',by omega,h2⟩
  ·exact ⟨a,by omega,h,e,by omega,h3⟩
 ·obtain ⟨a',h1,h2,e,h3,h5⟩:=h
  rcases (by omega:a' < a∨a'=a) with h4 | rfl
  ·exact .inl ⟨a',by omega,h2,e,h3,h5⟩
  ·exact .inr ⟨h2,e,by omega,h5⟩
theorem Rep4.miss (h:Rep4 x full (SrcD way s q S a d)) (hy : ¬ (0≤aft way a (q.sec * (d+s))∧aft way a (q.sec * (d+s))≤full)):Rep4 x full (SrcD way s q S a (d+1)):=by
 refine h.iff fun m hm=>⟨fun h=>?_,fun h=>?_⟩
 ·rcases h with h | ⟨h,e,h2,h3⟩
  ·exact .inl h
  ·exact .inr ⟨h,e,by omega,h3⟩
 ·rcases h with h | ⟨h,e,h2,h3⟩
  ·exact .inl h
  ·rcases (by omega:e < d∨e=d) with h4 | rfl
   ·exact .inr ⟨h,e,by omega,h3⟩
   ·exact absurd (h3 ▸ hm) hy
theorem Rep4.hit (h:Rep4 x full (SrcD way s q S a d)) (hS:S a=true) (hl:q.lo≤d) (hf:full < 256) (hy:0≤aft way a (q.sec * (d+s))∧aft way a (q.sec * (d+s))≤full):Rep4 (x.add (aft way a (q.sec * (d+s)))) full (SrcD way s q S a (d+1)):=by
 refine ⟨As.add_ok h.1 hy.1,fun m k0 k1=>?_⟩
 rw [As.has_add h.1 hy.1 (by omega) k0 k1,h.2 m k0 k1]
 constructor
 ·rintro (rfl | ⟨hm,h⟩)
  ·exact ⟨hy,.inr ⟨hS,d,by omega,Z⟩⟩
  ·refine ⟨hm,?_⟩
   rcases h with h | ⟨h,e,h2,h3⟩
   ·exact .inl h
   ·exact .inr ⟨h,e,by omega,h3⟩
 ·rintro ⟨hm,h⟩
  rcases h with h | ⟨h,e,h2,h3⟩
  ·exact .inr ⟨hm,.inl h⟩
  ·rcases (by omega:e < d∨e=d) with h4 | rfl
   ·exact .inr ⟨hm,.inr ⟨h,e,by omega,h3⟩⟩
   ·exact .inl h3.symm
theorem Rep4.done (h:Rep4 x full (Src way s q S (full+1))):RepS x full (nxB full way s q S):=by
 refine ⟨h.1,fun m k0 k1=>?_,fun m hm=>?_⟩
 ·rw [Bool.eq_iff_iff,h.2 m k0 k1]
  unfold nxB Src
  simp only [Bool.and_eq_true,decide_eq_true_eq,List.any_eq_true,upI_mem]
  refine and_congr_right fun _=>⟨fun ⟨a',h1,h2,e,h3,h4⟩=>⟨a',by omega,h2,e,h3,h4⟩,fun ⟨a',h1,h2,e,h3,h4⟩=>⟨a',by omega,h2,e,h3,h4⟩⟩
 ·unfold nxB at hm
  simp only [Bool.and_eq_true,decide_eq_true_eq] at hm
  exact hm.1
theorem RepS.none (h:RepS x full S) (hf:full < 256) (ha:x.a=0) (hb:x.b=0) (hc:x.c=0) (hd:x.d=0):(upI 0 full).any S=false:=by
 rw [List.any_eq_false]
 intro m hm
 have:=upI_mem.1 hm
 rw [← h.eq m (by omega) (by omega)]
 have e:x=⟨0,0,0,0⟩:=by cases x;simp_all
 rw [e,As.has_zero (by omega)]
 simp
theorem RepS.some (h:RepS x full S) (hn : ¬ (x.a=0∧x.b=0∧x.c=0∧x.d=0)):(upI 0 full).any S=true:=by
 rcases Zx9 ((upI 0 full).any S) with h1 | h1
 ·exact h1
 ·refine absurd (As.zero_of h.ok fun m k0 k1=>?_) hn
  rw [h.eq m k0 k1]
  rcases Zx9 (S m) with h2 | h2
  ·have:=List.any_eq_false.1 h1 m (upI_mem.2 (h.bd m h2))
   exact absurd h2 this
  ·exact h2
end
theorem with_any (s:As) (n:Int)  (w:World) (h0:0≤n) (h1:n < 256)  :
  Calls Try.prog 147 #[.agg #[.int .u64 s.a,.int .u64 s.b,.int .u64 s.c,.int .u64 s.d],Zi n] w fun e w'=>e=.returned (.agg #[.int .u64 ((s.add n).a),.int .u64 ((s.add n).b),.int .u64 ((s.add n).c),.int .u64 ((s.add n).d)])∧Below w.heap.size w w':=by
 have hq64:=td64 h0
 have hr64:=tm64 h0
 refine Zpx noEx Try.func147 Z 15 Z [.agg #[.int .u64 s.a,.int .u64 s.b,.int .u64 s.c,.int .u64 s.d],Zi n] Z Z (Mem.init w _) ?_
 intro ac wc T M
 refine Zsr ?_
 refine Zl2 ?_
 refine Zob M T Z Z Z Z (T.e 0 Z) Z ?_;clear M T;intro g1 wc ac M T
 refine Zl2 ?_
 refine Zoa M T Z Z Z Z ?_;clear M T;intro g2 wc ac M T
 replace T:=T.pick [0,1,3] rfl
 refine Zln ?_
 refine wp_seq ?_
 refine Zgs M (M.perm [] Z Z) 10 (by kernel_rfl) Z (by kernel_rfl) ?_
 clear M;intro wc M
 refine g_addG 9 M ?_
 refine Zgq T 0 1 Z (fun _=>(Zrm Z (T.e 2 Z))) ?_;intro ac T
 refine Zgq T 1 3 Z (fun _=>(rn_quo Z (T.e 0 Z) evc (by omega) (by omega))) ?_;intro ac T
 refine Zgq (v:=(.pointer (some ((⟨g1,0,none⟩:Addr).add ((n.toNat / 64) * 1))))) T 2 7 Z (fun _=>(rn_indexG (size:=1) (n.toNat / 64) Z (T.e 3 Z) (T.e 0 Z) (td64 h0) Try.underlying156 (by kernel_rfl) (by omega))) ?_;intro ac T
 refine gq (v:=(.int .u64 (s.get (n.toNat / 64)))) T 3 15 Z (fun B w' hD hl hS=>(rn_cell (asAt (s:=s) (Mem.nth (show Mem w noEx w' _ from ((MA.lft hS) (hD.wait (i:=3) (m:=9) (by kernel_rfl) hl))) 1 Z) (by omega)) Z (T.e 0 Z))) ?_;intro ac T
 refine Zgq T 4 31 Z (fun _=>(Zrm Z (T.e 6 Z))) ?_;intro ac T
 refine Zgq T 5 63 Z (fun _=>(rn_rem Z (T.e 0 Z) evc (by omega))) ?_;intro ac T
 refine Zgq T 6 127 Z (fun _=>(rn_shlU Z evc (T.e 0 Z) (by omega))) ?_;intro ac T
 refine Zgq T 7 255 Z (fun _=>(rn_orU Z (T.e 3 Z) (T.e 0 Z))) ?_;intro ac T
 refine Zgq (v:=(.pointer (some ((⟨g1,0,none⟩:Addr).add ((n.toNat / 64) * 1))))) T 8 511 Z (fun _=>(rn_indexG (size:=1) (n.toNat / 64) Z (T.e 9 Z) (T.e 6 Z) (td64 h0) Try.underlying156 (by kernel_rfl) (by omega))) ?_;intro ac T
 refine gw 9 1023 ?_;intro K hK
 refine ow_stA M T Z Z (T.e 0 Z) (by omega) (T.e 1 Z) (.tail .head) (by kernel_rfl) ?_;clear M T;intro wc ac M T
 replace M:Mem w noEx wc [(g2,.cells [.int .u64 0,.int .u64 0,.int .u64 0,.int .u64 0]),(g1,.cells [.int .u64 ((s.add n).a),.int .u64 ((s.add n).b),.int .u64 ((s.add n).c),.int .u64 ((s.add n).d)])]:=M
 refine Zso hK _ _ (MA.mk (fun h=>(no_of (by kernel_rfl) h).elim) (M.mask [false,false] Z)) ?_;clear hK K
 refine Zgd (by kernel_rfl) ?_
 replace T:=T.pick [9,10] rfl
 refine nm_then ?_
 refine Zsr ?_
 refine lq T (Zrr (Mem.nth M 1 Z) Z (T.e 1 Z) Z) ?_;intro ac T
 refine Zl2 ?_
 refine Zot M T Z Z (T.e 1 Z) (T.e 0 Z) Z .head Z Z ?_;clear M T;intro wc ac M T
 refine wpList_nil ?_
 replace T:=T.pick [1] rfl
 replace M:=M.mask [true,false] rfl
 refine Znr ?_
 refine rt_c M T Z (T.e 0 Z) (Zne (i:=0) Z) Z ?_
 exact ⟨rfl,M.below⟩
theorem has_any (s:As) (n:Int)  (w:World) (h0:0≤n) (h1:n < 256)  :
  Calls Try.prog 148 #[.agg #[.int .u64 s.a,.int .u64 s.b,.int .u64 s.c,.int .u64 s.d],Zi n] w fun e w'=>e=.returned (.bool (s.has n))∧Below w.heap.size w w':=by
 have hq64:=td64 h0
 have hr64:=tm64 h0
 refine Zpx noEx Try.func148 Z 14 Z [.agg #[.int .u64 s.a,.int .u64 s.b,.int .u64 s.c,.int .u64 s.d],Zi n] Z Z (Mem.init w _) ?_
 intro ac wc T M
 refine Zsr ?_
 refine Zl2 ?_
 refine Zob M T Z Z Z Z (T.e 0 Z) Z ?_;clear M T;intro g1 wc ac M T
 refine lq T (Zra Z evc) ?_;intro ac T
 replace T:=T.pick [1,3] rfl
 refine Zln ?_
 refine Zsr ?_
 refine Zg8 (v3:=(.pointer (some ((⟨g1,0,none⟩:Addr).add ((n.toNat / 64) * 1))))) (v4:=(.int .u64 (s.get (n.toNat / 64)))) T (Zq (Zrm Z (T.e 1 Z))) Z (fun _ T=>Zq (rn_quo Z (T.e 0 Z) evc (by omega) (by omega))) Z (fun _ T=>Zq (rn_indexG (size:=1) (n.toNat / 64) Z (T.e 2 Z) (T.e 0 Z) (td64 h0) Try.underlying156 (by kernel_rfl) (by omega))) Z (fun _ T=>Zq (rn_cell (asAt (s:=s) (Mem.nth M 0 Z) (by omega)) Z (T.e 0 Z))) Z (Zm 5 Z Z) Z (fun _ T=>Zq (rn_rem Z (T.e 0 Z) evc (by omega))) Z (fun _ T=>Zq (rn_shrU Z (T.e 2 Z) (T.e 0 Z) (by omega))) Z (fun _ T=>Zq (rn_andU Z (T.e 0 Z) evc)) Z ?_;intro ac T
 refine Zg2 T (Zq (rn_eql Z (T.e 0 Z) evc)) Z (Za 0 Z Z) Z ?_;intro ac T
 refine wpList_nil ?_
 replace T:=T.pick [0] rfl
 replace M:=M.mask [false] rfl
 refine Znr ?_
 refine rt_1 T Z (T.e 0 Z) ?_
 exact ⟨rfl,M.below⟩
set_option maxHeartbeats 4000000 in
theorem can_any (b:Bw) (A:Option Addr) (c:Nat) (D:Option Addr) (d:Nat) (p:List Nt) (P:Option Addr) (pc:Nat) (s:Int) (G:Option Addr) (n:Nat) (g:List Int)  (w:World) (hP9:Rd w w.heap.size 4 P p.length (ntc p)) (hG:Rd w w.heap.size 1 G g.length (ic g)) (hgp:NtGood p) (hgb:BwAir b) (hs:0≤s∧s≤20) (hgl:g.length=p.length)  :
   Calls Try.prog 137 #[.agg #[Zi b.full,Zi b.a0,Zi b.a1,.slice A b.cs.length c,.slice D b.ts.length d,.slice P p.length pc,Zi s],.slice G g.length n] w fun e w'=>e=.returned (.bool (canB b p g s))∧Below w.heap.size w w':=by
 obtain ⟨bP,oP,SP⟩:=Sp.old hP9
 obtain ⟨bG,oG,SG⟩:=Sp.old hG
 have hp6:=hgp.n6
 refine Zpx noEx Try.func137 Z 92 Z [.agg #[Zi b.full,Zi b.a0,Zi b.a1,.slice A b.cs.length c,.slice D b.ts.length d,.slice P p.length pc,Zi s],.slice G g.length n] Z Z (Mem.init w _) ?_
 intro ac wc T M
 refine Zsr ?_
 refine Zl2 ?_
 refine Zob M T Z Z Z Z (T.e 0 Z) Z ?_;clear M T;intro g1 wc ac M T
 refine lq T (Zra Z evc) ?_;intro ac T
 replace T:=T.pick [1,3] rfl
 refine Zln ?_
 refine Zsr ?_
 refine Zl2 ?_
 refine Zoa M T Z Z Z Z ?_;clear M T;intro g2 wc ac M T
 refine Zln ?_
 refine wp_seq ?_
 refine Zsr ?_
 refine Zg5 (v1:=(Zj g1)) (v2:=(.pointer (some ⟨g1,1,none⟩))) (v3:=(.pointer (some ⟨g1,1,none⟩))) T (Zq (Zrg 0 Z (T.e 1 Z))) Z (Zf 1 0 Z Z) Z (Zf 0 0 Z Z) Z (Zo M 1 0 Z Z Z Z) Z (Za 0 Z Z) Z ?_;intro ac T
 replace T:=T.pick [0,5,6,7] rfl
 refine Zln ?_
 refine wp_block ?_
 have hgb1:=hgb.full
 have hgb2:=hgb.air
 have han:airN b=(b.a1 - b.a0+1).toNat:=rfl
 rw [show b.a0=b.a0+((0:Nat):Int) by omega] at T
 refine wp_loop_n (fun mz ac wc=>∃ (j:Nat) (s9:As),mz=airN b - j∧(j≤airN b)∧s9.ok∧(∀ m:Int,0≤m→m < 256→(s9.has m=true↔b.a0≤m∧m < b.a0+(j:Int)))∧Tm ac 92 [(1,.slice G g.length n),(2,Zj g1),(5,Zj g2),(6,Zi (b.a0+(j:Int)))]∧Mem w noEx wc [(g2,.cells [.int .u64 s9.a,.int .u64 s9.b,.int .u64 s9.c,.int .u64 s9.d]),(g1,.cells [Zi b.full,Zi b.a0,Zi b.a1,.slice A b.cs.length c,.slice D b.ts.length d,.slice P p.length pc,Zi s])]) ?_ ?_
 ·exact ⟨_,0,(⟨0,0,0,0⟩:As),Z,(Nat.zero_le _),As.zero_ok,(fun m k0 _=>by rw [As.has_zero k0];constructor <;> intro h9 <;> first | (cases h9;done) | omega),T.pick [3,2,1,0] Z,M.mask [true,true] Z⟩
 clear T M
 rintro mz ac wc ⟨j,s9,hmm1,hj,hok,HX,T,M⟩
 refine wp_seq ?_
 refine Zsr ?_
 refine Zg6 (v2:=(Zj g1)) (v3:=(.pointer (some ⟨g1,1,none⟩))) (v4:=(.pointer (some ⟨g1,2,none⟩))) T (Zq (Zrm Z (T.e 3 Z))) Z (Zf 0 2 Z Z) Z (Zf 1 0 Z Z) Z (Zf 1 0 Z Z) Z (Zo M 1 0 Z Z Z Z) Z (fun _ T=>Zq (rn_leq Z (T.e 4 Z) (T.e 0 Z))) Z ?_;intro ac T
 replace T:=T.pick [0,6,7,8,9] rfl
 refine Zln ?_
 refine wp_if (T.e 0 Z) ?_ ?_
 ·intro h1
  refine Zsk ?_
  refine wp_seq ?_
  refine wp_block ?_
  refine wp_region_lit ?_
  refine Zg2 T (Zq (Zrr (Mem.nth M 0 Z) Z (T.e 3 Z) Z)) Z (Zm 5 Z Z) Z ?_;intro ac T
  refine Zl2 ?_
  refine Zod T Z Z Z Z evf (.cons (T.e 1 Z) (.cons (T.e 0 Z) .nil)) Try.func147 Z Z ?_
  refine Calls.mono (with_any s9 (b.a0+(j:Int)) _ (by omega) (by omega)) ?_
  clear T;rintro e wc ⟨rfl,hb⟩ ac T
  replace M:=M.call hb;clear hb
  refine Zl2 ?_
  refine Zot M T Z Z (T.e 6 Z) (T.e 0 Z) Z .head Z Z ?_;clear M T;intro wc ac M T
  refine wpList_nil ?_
  replace T:=T.pick [4,5,6,7] rfl
  refine Znb ?_
  refine nm_then ?_
  refine wp_region_lit ?_
  refine Zg2 T (Zq (Zrm Z (T.e 3 Z))) Z (fun _ T=>Zq (rn_add Z (T.e 0 Z) evc (by omega))) Z ?_;intro ac T
  refine l_q (v:=(Zi ((b.a0+(j:Int))+1))) (T.pick [0,1,2,3,4] Z) Z Z Z Z (Zra Z (T.e 0 Z)) ?_;intro ac T
  replace T:=T.pick [0,3,4,5] rfl
  refine Zln ?_
  rw [show b.a0+(j:Int)+1=b.a0+((j+1:Nat):Int) by omega] at T
  exact ⟨_,by omega,j+1,(s9.add (b.a0+(j:Int))),Z,(by omega),(As.add_ok hok (by omega)),(fun m k0 k1=>by rw [As.has_add hok (by omega) (by omega) k0 k1,HX m k0 k1];omega),T.pick [1,2,3,0] Z,M.mask [true,true] Z⟩
 intro h1
 obtain rfl:j=airN b:=by omega
 refine wp_exit ?_
 refine Zet ?_
 refine Zet ?_
 refine ex_hit ?_
 refine Zns ?_
 refine Zsr ?_
 refine Zg4 (v1:=(.pointer (some ⟨g1,5,none⟩))) T (Zq (Zrg 5 Z (T.e 2 Z))) Z (Zo M 1 0 Z Z Z Z) Z (Zl Try.underlying44 0 Z Z) Z (fun _ T=>Zq (Zrm Z evc)) Z ?_;intro ac T
 replace T:=T.pick [0,1,2,5,6,7] rfl
 refine Zln ?_
 refine wp_block ?_
 refine wp_loop_n (fun mz ac wc=>∃ (k:Nat) (s8:As) (S:Int→Bool),mz=p.length - k∧(k≤p.length)∧(RepS s8 b.full S)∧(canB b p g s=canF b.full s S (p.drop k) (g.drop k))∧Tm ac 92 [(1,.slice G g.length n),(2,Zj g1),(5,Zj g2),(31,.slice P p.length pc),(32,Zi ((p.length:Nat):Int)),(33,Zi (k:Int))]∧Mem w noEx wc [(g2,.cells [.int .u64 s8.a,.int .u64 s8.b,.int .u64 s8.c,.int .u64 s8.d]),(g1,.cells [Zi b.full,Zi b.a0,Zi b.a1,.slice A b.cs.length c,.slice D b.ts.length d,.slice P p.length pc,Zi s])]) ?_ ?_
 ·exact ⟨_,0,s9,(fun m=>decide (b.a0≤m) && decide (m≤b.a1)),Z,(Nat.zero_le _),⟨hok,fun m k0 k1=>by rw [Bool.eq_iff_iff,HX m k0 k1,Bool.and_eq_true,decide_eq_true_eq,decide_eq_true_eq];omega,fun m hm=>by rw [Bool.and_eq_true,decide_eq_true_eq,decide_eq_true_eq] at hm;omega⟩,Z,T.pick [3,4,5,2,1,0] Z,M.mask [true,true] Z⟩
 clear T M
 rintro mz ac wc ⟨k,s8,S,hmm2,hk,hR,H,T,M⟩
 refine Zsr ?_
 refine lq T (rn_lss Z (T.e 5 Z) (T.e 4 Z)) ?_;intro ac T
 refine Zln ?_
 refine wp_seq ?_
 refine wp_if (T.e 0 Z) ?_ ?_
 ·intro h2
  obtain ⟨q,hkq,hd⟩:=ntc_next (l:=p) (k:=k) (by omega)
  obtain ⟨wy,hky,hd2⟩:=ic_next (l:=g) (k:=k) (by omega)
  rw [hd,hd2,canF] at H
  have hgq:=hgp.ok q (List.mem_of_getElem? hkq)
  refine Zsk ?_
  refine wp_seq ?_
  refine wp_block ?_
  refine Zsr ?_
  refine Zg3 (v3:=(.agg #[Zi q.sec,Zi q.lo,Zi q.hi,.bool q.rest])) T (Zq (Zrm Z (T.e 6 Z))) Z (fun _ T=>Zq (Zri (size:=4) k Z (T.e 5 Z) (T.e 7 Z) ⟨_,Try.underlying44,by kernel_rfl⟩ Z (by omega) (SP.at0 (by omega)))) Z (fun _ T=>Zq (rn_rowat (Sp.ntcR SP M (Zz9 _) hkq) Z (T.e 0 Z) Z)) Z ?_;intro ac T
  refine Zl2 ?_
  refine Zoa M T Z Z Z Z ?_;clear M T;intro g3 wc ac M T
  refine lq T (Zra Z (T.e 3 Z)) ?_;intro ac T
  refine Zl2 ?_
  refine Zot M T Z Z (T.e 1 Z) (T.e 2 Z) Z .head Z Z ?_;clear M T;intro wc ac M T
  replace T:=T.pick [0,1,6,7,8,9,10,11] rfl
  refine Zln ?_
  refine Zsr ?_
  refine Zg4 T (Zq (Zrm Z (T.e 2 Z))) Z (Zm 1 Z Z) Z (fun _ T=>Zq (Zri (size:=1) k Z (T.e 1 Z) (T.e 0 Z) ⟨_,Try.underlying28,by kernel_rfl⟩ Z (by omega) (SG.at0 (by omega)))) Z (fun _ T=>Zq (rn_cell (Sp.ic0 SG M (Zz9 _) hky) Z (T.e 0 Z))) Z ?_;intro ac T
  refine Zl2 ?_
  refine Zod T Z Z Z Z evf (.cons (T.e 0 Z) .nil) Try.func80 Z Z ?_
  refine Calls.mono (works_fn wy _) ?_
  clear T;rintro e wc ⟨FAu2,FRu2,rfl,hfau2,hfru2,hb⟩ ac T
  replace M:=M.call hb;clear hb
  obtain ⟨fau2,ha1u2,ha2u2,ha3u2,ha4u2⟩:=hfau2
  obtain ⟨fru2,hr1u2,hr2u2,hr3u2,hr4u2⟩:=hfru2
  refine Zg2 (v1:=(.func (.func FAu2) #[] [].toArray)) T (Zq (rn_field Z (T.e 0 Z) (by kernel_rfl))) Z (Za 0 Z Z) Z ?_;intro ac T
  replace T:=T.pick [0,8,9,10,11,12,13,14] rfl
  refine Zln ?_
  refine Zsr ?_
  refine Zl2 ?_
  refine Zoa M T Z Z Z Z ?_;clear M T;intro g4 wc ac M T
  refine Zln ?_
  refine Zsr ?_
  refine Zg3 (v2:=(.func (.func 148) #[.agg #[.int .u64 s8.a,.int .u64 s8.b,.int .u64 s8.c,.int .u64 s8.d]] #[])) T (Zq (Zrr (Mem.nth M 2 Z) Z (T.e 5 Z) Z)) Z (fun _ T=>Zq (rn_makeFunc Z (.cons (T.e 0 Z) .nil) .nil)) Z (Za 0 Z Z) Z ?_;intro ac T
  replace T:=T.pick [0,3,4,5,6,7,8,9,10,11] rfl
  refine Zln ?_
  refine wp_seq ?_
  refine Zsr ?_
  refine Zg5 (v1:=(Zj g1)) (v2:=(Zj g1)) T (Zq (Zrg 0 Z (T.e 5 Z))) Z (Zf 0 0 Z Z) Z (Zo M 3 0 Z Z Z Z) Z (fun _ T=>Zq (rn_add Z (T.e 0 Z) evc (by omega))) Z (fun _ T=>Zq (Zrm Z evc)) Z ?_;intro ac T
  replace T:=T.pick [0,1,5,6,7,8,9,10,11,12,13,14] rfl
  refine Zln ?_
  refine wp_block ?_
  refine wp_loop_n (fun mz ac wc=>∃ (a:Nat) (x:As),mz=(b.full+1 - (a:Int)).toNat∧((a:Int)≤b.full+1)∧(Rep4 x b.full (Src wy s q S (a:Int)))∧Tm ac 92 [(1,.slice G g.length n),(2,Zj g1),(5,Zj g2),(8,Zj g3),(9,.func (.func FAu2) #[] [].toArray),(10,Zj g4),(11,.func (.func 148) #[.agg #[.int .u64 s8.a,.int .u64 s8.b,.int .u64 s8.c,.int .u64 s8.d]] #[]),(31,.slice P p.length pc),(32,Zi ((p.length:Nat):Int)),(33,Zi (k:Int)),(49,Zi (b.full+1)),(50,Zi (a:Int))]∧Mem w noEx wc [(g4,.cells [.int .u64 x.a,.int .u64 x.b,.int .u64 x.c,.int .u64 x.d]),(g3,.cells [Zi q.sec,Zi q.lo,Zi q.hi,.bool q.rest]),(g2,.cells [.int .u64 s8.a,.int .u64 s8.b,.int .u64 s8.c,.int .u64 s8.d]),(g1,.cells [Zi b.full,Zi b.a0,Zi b.a1,.slice A b.cs.length c,.slice D b.ts.length d,.slice P p.length pc,Zi s])]) ?_ ?_
  ·exact ⟨_,0,(⟨0,0,0,0⟩:As),Z,(by omega),Rep4.zero,T.pick [6,7,8,5,4,3,2,9,10,11,1,0] Z,M.mask [true,true,true,true] Z⟩
  clear T M
  rintro mz ac wc ⟨a,x,hmm3,ha,hX,T,M⟩
  refine Zsr ?_
  refine lq T (rn_lss Z (T.e 11 Z) (T.e 10 Z)) ?_;intro ac T
  refine Zln ?_
  refine wp_seq ?_
  refine wp_if (T.e 0 Z) ?_ ?_
  ·intro h3
   refine Zsk ?_
   refine wp_seq ?_
   refine wp_block ?_
   refine Zsr ?_
   refine Zg2 T (Zq (Zrm Z (T.e 12 Z))) Z (Za 0 Z Z) Z ?_;intro ac T
   replace T:=T.pick [0,3,4,5,6,7,8,9,10,11,12,13,14] rfl
   refine Zln ?_
   refine Zsr ?_
   refine Zg4 (v1:=(.pointer (some ⟨g3,1,none⟩))) (v2:=(.pointer (some ⟨g3,1,none⟩))) T (Zq (Zrg 1 Z (T.e 4 Z))) Z (Zf 0 0 Z Z) Z (Zo M 1 0 Z Z Z Z) Z (Za 0 Z Z) Z ?_;intro ac T
   replace T:=T.pick [0,4,5,6,7,8,9,10,11,12,13,14,15,16] rfl
   refine Zln ?_
   refine wp_block ?_
   rw [show q.lo=q.lo+((0:Nat):Int) by omega] at T
   refine wp_loop_n (fun mz ac wc=>∃ (dn:Nat) (x4:As),mz=(q.hi+1 - (q.lo+(dn:Int))).toNat∧(q.lo+(dn:Int)≤q.hi+1)∧(Rep4 x4 b.full (SrcD wy s q S (a:Int) (q.lo+(dn:Int))))∧Tm ac 92 [(1,.slice G g.length n),(2,Zj g1),(5,Zj g2),(8,Zj g3),(9,.func (.func FAu2) #[] [].toArray),(10,Zj g4),(11,.func (.func 148) #[.agg #[.int .u64 s8.a,.int .u64 s8.b,.int .u64 s8.c,.int .u64 s8.d]] #[]),(12,Zi (a:Int)),(13,Zi (q.lo+(dn:Int))),(31,.slice P p.length pc),(32,Zi ((p.length:Nat):Int)),(33,Zi (k:Int)),(49,Zi (b.full+1)),(50,Zi (a:Int))]∧Mem w noEx wc [(g4,.cells [.int .u64 x4.a,.int .u64 x4.b,.int .u64 x4.c,.int .u64 x4.d]),(g3,.cells [Zi q.sec,Zi q.lo,Zi q.hi,.bool q.rest]),(g2,.cells [.int .u64 s8.a,.int .u64 s8.b,.int .u64 s8.c,.int .u64 s8.d]),(g1,.cells [Zi b.full,Zi b.a0,Zi b.a1,.slice A b.cs.length c,.slice D b.ts.length d,.slice P p.length pc,Zi s])]) ?_ ?_
   ·exact ⟨_,0,x,Z,(by omega),(by rw [show q.lo+((0:Nat):Int)=q.lo by omega];exact hX.start),T.pick [2,3,4,5,6,7,8,1,0,9,10,11,12,13] Z,M.mask [true,true,true,true] Z⟩
   clear T M
   rintro mz ac wc ⟨dn,x4,hmm4,hd4,hX4,T,M⟩
   refine wp_seq ?_
   refine cut_seq (fun ac wc=>Tm ac 92 [(1,.slice G g.length n),(2,Zj g1),(5,Zj g2),(8,Zj g3),(9,.func (.func FAu2) #[] [].toArray),(10,Zj g4),(11,.func (.func 148) #[.agg #[.int .u64 s8.a,.int .u64 s8.b,.int .u64 s8.c,.int .u64 s8.d]] #[]),(12,Zi (a:Int)),(13,Zi (q.lo+(dn:Int))),(31,.slice P p.length pc),(32,Zi ((p.length:Nat):Int)),(33,Zi (k:Int)),(49,Zi (b.full+1)),(50,Zi (a:Int)),(65,.bool ((s8.has (a:Int)) && (decide ((q.lo+(dn:Int))≤q.hi))))]∧Mem w noEx wc [(g4,.cells [.int .u64 x4.a,.int .u64 x4.b,.int .u64 x4.c,.int .u64 x4.d]),(g3,.cells [Zi q.sec,Zi q.lo,Zi q.hi,.bool q.rest]),(g2,.cells [.int .u64 s8.a,.int .u64 s8.b,.int .u64 s8.c,.int .u64 s8.d]),(g1,.cells [Zi b.full,Zi b.a0,Zi b.a1,.slice A b.cs.length c,.slice D b.ts.length d,.slice P p.length pc,Zi s])]) ?_ ?_
   ·refine wp_region_lit ?_
    refine Zg2 T (Zq (Zrm Z (T.e 6 Z))) Z (Zm 8 Z Z) Z ?_;intro ac T
    refine Zl2 ?_
    refine Zoc (first:=[.agg #[.int .u64 s8.a,.int .u64 s8.b,.int .u64 s8.c,.int .u64 s8.d]]) (cap:=[]) T Z Z Z Z (T.e 1 Z) (.cons (T.e 0 Z) .nil) Try.func148 Z Z ?_
    refine Calls.mono (has_any s8 (a:Int) _ (by omega) (by omega)) ?_
    clear T;rintro e wc ⟨rfl,hb⟩ ac T
    replace M:=M.call hb;clear hb
    refine lq T (Zrm Z (T.e 0 Z)) ?_;intro ac T
    rcases Zx9 (s8.has (a:Int)) with h4 | h4
    ·refine Zg6 (v2:=(.pointer (some ⟨g3,1,none⟩))) (v3:=(.pointer (some ⟨g3,2,none⟩))) T (Zw (Zwy Z Z (T.e 0 Z) h4) (Zrm Z (T.e 12 Z))) Z (fun _ T=>Zw (Zwy Z Z (T.e 1 Z) h4) (Zrg 1 Z (T.e 8 Z))) Z (fun _ T=>Zw (Zwy Z Z (T.e 2 Z) h4) (Zrg 1 Z (T.e 0 Z))) Z (fun _ T=>Zw (Zwy Z Z (T.e 3 Z) h4) (Zro (Mem.nth M 1 Z) Z (T.e 0 Z) Z)) Z (fun _ T=>Zw (Zwy Z Z (T.e 4 Z) h4) (rn_leq Z (T.e 3 Z) (T.e 0 Z))) Z (fun _ T=>Zq (Zr1 Z (T.e 5 Z) h4 (T.e 0 Z))) Z ?_;intro ac T
     refine wpList_nil ?_
     replace T:=T.pick [0,1,2,3,4,5,10,11,12,13,14,15,16,17,18,19,20,21,22,23] rfl
     exact ⟨(T.pick (E':=[(1,.slice G g.length n),(2,Zj g1),(5,Zj g2),(8,Zj g3),(9,.func (.func FAu2) #[] [].toArray),(10,Zj g4),(11,.func (.func 148) #[.agg #[.int .u64 s8.a,.int .u64 s8.b,.int .u64 s8.c,.int .u64 s8.d]] #[]),(12,Zi (a:Int)),(13,Zi (q.lo+(dn:Int))),(31,.slice P p.length pc),(32,Zi ((p.length:Nat):Int)),(33,Zi (k:Int)),(49,Zi (b.full+1)),(50,Zi (a:Int)),(65,.bool (decide ((q.lo+(dn:Int))≤q.hi)))]) [6,7,8,9,10,11,12,13,14,15,16,17,18,19,0] Z).as (by (try rw [show (s8.has (a:Int))=true from h4]);(try rfl)),M.mask [true,true,true,true] Z⟩
    refine Zg6 T (Zp (Zwn Z Z (T.e 0 Z) h4)) Z (fun _ T=>Zp (Zwn Z Z (T.e 1 Z) h4)) Z (fun _ T=>Zp (Zwn Z Z (T.e 2 Z) h4)) Z (fun _ T=>Zp (Zwn Z Z (T.e 3 Z) h4)) Z (fun _ T=>Zp (Zwn Z Z (T.e 4 Z) h4)) Z (fun _ T=>Zq (Zr0 Z (T.e 5 Z) h4 evc)) Z ?_;intro ac T
    refine wpList_nil ?_
    replace T:=T.pick [0,1,2,3,4,5,10,11,12,13,14,15,16,17,18,19,20,21,22,23] rfl
    exact ⟨(T.pick (E':=[(1,.slice G g.length n),(2,Zj g1),(5,Zj g2),(8,Zj g3),(9,.func (.func FAu2) #[] [].toArray),(10,Zj g4),(11,.func (.func 148) #[.agg #[.int .u64 s8.a,.int .u64 s8.b,.int .u64 s8.c,.int .u64 s8.d]] #[]),(12,Zi (a:Int)),(13,Zi (q.lo+(dn:Int))),(31,.slice P p.length pc),(32,Zi ((p.length:Nat):Int)),(33,Zi (k:Int)),(49,Zi (b.full+1)),(50,Zi (a:Int)),(65,.bool false)]) [6,7,8,9,10,11,12,13,14,15,16,17,18,19,0] Z).as (by (try rw [show (s8.has (a:Int))=false from h4]);(try rfl)),M.mask [true,true,true,true] Z⟩
   clear T M
   rintro ac wc ⟨T,M⟩
   refine wp_cond_split (T.e 14 Z) ?_ ?_
   ·intro h5
    (have h5':=h5;try simp only [Zb1,Zb2,Zb3,Zb4,Zb5,Zb6,Zb7] at h5')
    have hSa:S (a:Int)=true:=by rw [← hR.eq (a:Int) (by omega) (by omega)];simp_all
    have hm1:=secM (s:=q.sec) (q:=q.lo+(dn:Int)+s) (by omega) (by omega)
    have haf : -1000≤aft wy (a:Int) (q.sec * (q.lo+(dn:Int)+s))∧aft wy (a:Int) (q.sec * (q.lo+(dn:Int)+s))≤1000:=by unfold aft;split <;> omega
    refine Zsk ?_
    refine wp_seq ?_
    refine wp_block ?_
    refine Zsr ?_
    refine Zg8 (v3:=(Zj g3)) (v6:=(.pointer (some ⟨g1,6,none⟩))) T (Zq (Zrm Z (T.e 4 Z))) Z (Zm 8 Z Z) Z (Zf 0 5 Z Z) Z (Zo M 1 0 Z Z Z Z) Z (Zm 12 Z Z) Z (Zf 6 6 Z Z) Z (Zo M 3 0 Z Z Z Z) Z (fun _ T=>Zq (rn_add Z (T.e 2 Z) (T.e 0 Z) (by omega))) Z ?_;intro ac T
    refine lq T (rn_mul Z (T.e 4 Z) (T.e 0 Z) (by omega)) ?_;intro ac T
    refine Zl2 ?_
    refine Zod T Z Z Z Z (T.e 8 Z) (.cons (T.e 7 Z) (.cons (T.e 0 Z) .nil)) ha1u2 ha2u2 ha3u2 ?_
    refine Calls.mono (ha4u2 (a:Int) (q.sec * ((q.lo+(dn:Int))+s)) _ (by omega)) ?_
    clear T;rintro e wc ⟨rfl,hb⟩ ac T
    replace M:=M.call hb;clear hb
    refine lq T (Zra Z (T.e 0 Z)) ?_;intro ac T
    replace T:=T.pick [0,11,12,13,14,15,16,17,18,19,20,21,22,23,24] rfl
    refine Zln ?_
    refine Zsr ?_
    refine Zg4 (v2:=(Zj g1)) (v3:=(Zj g1)) T (Zq (Zrm Z (T.e 0 Z))) Z (Zf 0 3 Z Z) Z (Zf 0 0 Z Z) Z (Zo M 3 0 Z Z Z Z) Z ?_;intro ac T
    refine Zl2 ?_
    refine Zod T Z Z Z Z evf (.cons (T.e 3 Z) (.cons evc (.cons (T.e 0 Z) .nil))) Try.func76 Z Z ?_
    refine Calls.mono (bin_any (aft wy (a:Int) (q.sec * ((q.lo+(dn:Int))+s))) 0 b.full _) ?_
    clear T;rintro e wc ⟨rfl,hb⟩ ac T
    replace M:=M.call hb;clear hb
    replace T:=T.pick [0,5,6,7,8,9,10,11,12,13,14,15,16,17,18,19] rfl
    refine Zln ?_
    refine wp_cond_split (T.e 0 Z) ?_ ?_
    ·intro h6
     have hw6:=withinB_iff.1 (by simpa using h6)
     refine wp_region_lit ?_
     refine Zg2 T (Zq (Zrr (Mem.nth M 0 Z) Z (T.e 7 Z) Z)) Z (Zm 2 Z Z) Z ?_;intro ac T
     refine Zl2 ?_
     refine Zod T Z Z Z Z evf (.cons (T.e 1 Z) (.cons (T.e 0 Z) .nil)) Try.func147 Z Z ?_
     refine Calls.mono (with_any x4 (aft wy (a:Int) (q.sec * ((q.lo+(dn:Int))+s))) _ (by omega) (by omega)) ?_
     clear T;rintro e wc ⟨rfl,hb⟩ ac T
     replace M:=M.call hb;clear hb
     refine Zl2 ?_
     refine Zot M T Z Z (T.e 10 Z) (T.e 0 Z) Z .head Z Z ?_;clear M T;intro wc ac M T
     refine wpList_nil ?_
     replace T:=T.pick [5,6,7,8,9,10,11,12,13,14,15,16,17,18] rfl
     refine Znb ?_
     refine nm_then ?_
     refine wp_region_lit ?_
     refine Zg2 T (Zq (Zrm Z (T.e 8 Z))) Z (fun _ T=>Zq (rn_add Z (T.e 0 Z) evc (by omega))) Z ?_;intro ac T
     refine l_q (v:=(Zi ((q.lo+(dn:Int))+1))) (T.pick [0,1,2,3,4,5,6,7,8,9,11,12,13,14,15] Z) Z Z Z Z (Zra Z (T.e 0 Z)) ?_;intro ac T
     replace T:=T.pick [0,3,4,5,6,7,8,9,10,11,12,13,14,15] rfl
     refine Zln ?_
     rw [show q.lo+(dn:Int)+1=q.lo+((dn+1:Nat):Int) by omega] at T
     exact ⟨_,by omega,dn+1,(x4.add (aft wy (a:Int) (q.sec * ((q.lo+(dn:Int))+s)))),Z,(by omega),(by rw [show q.lo+((dn+1:Nat):Int)=q.lo+(dn:Int)+1 by omega];exact hX4.hit hSa (by omega) (by omega) hw6),T.pick [1,2,3,4,5,6,7,8,0,9,10,11,12,13] Z,M.mask [true,true,true,true] Z⟩
    intro h6
    refine wp_skip ?_
    refine Znb ?_
    refine nm_then ?_
    refine wp_region_lit ?_
    refine Zg2 T (Zq (Zrm Z (T.e 10 Z))) Z (fun _ T=>Zq (rn_add Z (T.e 0 Z) evc (by omega))) Z ?_;intro ac T
    refine l_q (v:=(Zi ((q.lo+(dn:Int))+1))) (T.pick [0,1,2,3,4,5,6,7,8,9,10,11,13,14,15,16,17] Z) Z Z Z Z (Zra Z (T.e 0 Z)) ?_;intro ac T
    replace T:=T.pick [0,5,6,7,8,9,10,11,12,13,14,15,16,17] rfl
    refine Zln ?_
    rw [show q.lo+(dn:Int)+1=q.lo+((dn+1:Nat):Int) by omega] at T
    exact ⟨_,by omega,dn+1,x4,Z,(by omega),(by rw [show q.lo+((dn+1:Nat):Int)=q.lo+(dn:Int)+1 by omega];exact hX4.miss (fun h9=>by have:=withinB_iff.2 h9;simp_all)),T.pick [1,2,3,4,5,6,7,8,0,9,10,11,12,13] Z,M.mask [true,true,true,true] Z⟩
   intro h5
   (have h5':=h5;try simp only [Zb1,Zb2,Zb3,Zb4,Zb5,Zb6,Zb7] at h5')
   refine wp_exit ?_
   refine Zet ?_
   refine Zet ?_
   refine ex_hit ?_
   refine Znb ?_
   refine nm_then ?_
   refine wp_region_lit ?_
   refine lq T (rn_add Z (T.e 13 Z) evc (by omega)) ?_;intro ac T
   refine l_q (v:=(Zi ((a:Int)+1))) (T.pick [0,1,2,3,4,5,6,7,8,9,10,11,12,13,15] Z) Z Z Z Z (Zrm Z (T.e 0 Z)) ?_;intro ac T
   replace T:=T.pick [0,2,3,4,5,6,7,8,11,12,13,14] rfl
   refine Zln ?_
   have hX9:Rep4 x4 b.full (Src wy s q S ((a:Int)+1)):=by
     rcases Zx9 (S (a:Int)) with hs9 | hs9
     · have h8:=hR.eq (a:Int) (by omega) (by omega);rw [hs9] at h8;have h7 : ¬ (q.lo+(dn:Int)≤q.hi):=(by simp_all);exact hX4.stop_all (by omega) (by omega)
     · exact hX4.stop_no hs9
   rw [show (a:Int)+1=((a+1:Nat):Int) by omega] at T hX9
   exact ⟨_,by omega,a+1,x4,Z,(by omega),hX9,T.pick [1,2,3,4,5,6,7,8,9,10,11,0] Z,M.mask [true,true,true,true] Z⟩
  intro h3
  have ha9:(a:Int)=b.full+1:=by omega
  have hR2:=(show Rep4 x b.full (Src wy s q S (b.full+1)) by rw [← ha9];exact hX).done
  refine wp_exit ?_
  refine Zet ?_
  refine Zet ?_
  refine ex_hit ?_
  refine nm_then ?_
  refine Zsr ?_
  refine lq T (Zrr (Mem.nth M 0 Z) Z (T.e 6 Z) Z) ?_;intro ac T
  refine Zl2 ?_
  refine Zot M T Z Z (T.e 4 Z) (T.e 0 Z) Z (.tail (.tail .head)) Z Z ?_;clear M T;intro wc ac M T
  refine wpList_nil ?_
  replace T:=T.pick [2,3,4,9,10,11] rfl
  replace M:=M.mask [false,false,true,true] rfl
  refine nm_then ?_
  refine Zsr ?_
  refine Zg3 (v2:=(.agg #[.int .u64 0,.int .u64 0,.int .u64 0,.int .u64 0])) (v3:=(.bool ((decide (x.a=0)) && ((decide (x.b=0)) && ((decide (x.c=0)) && (decide (x.d=0))))))) T (Zq (Zrr (Mem.nth M 0 Z) Z (T.e 2 Z) Z)) Z (fun _ T=>Zq (rn_build Z .nil (fun _=>by kernel_rfl))) Z (fun _ T=>Zq (rn_bin Z (T.e 1 Z) (T.e 0 Z) eqT156)) Z ?_;intro ac T
  replace T:=T.pick [0,3,4,5,6,7,8] rfl
  refine Zln ?_
  refine wp_cond_split (T.e 0 Z) ?_ ?_
  ·intro h7
   (have h7':=h7;try simp only [Zb1,Zb2,Zb3,Zb4,Zb5,Zb6,Zb7] at h7')
   refine Zsr ?_
   refine lq T (Zra Z evc) ?_;intro ac T
   refine wpList_nil ?_
   replace T:=T.pick [0] rfl
   replace M:=M.mask [false,false] rfl
   refine Znr ?_
   refine Zrb ?_
   refine Zrt ?_
   refine Zrt ?_
   refine Zrb ?_
   refine Zrt ?_
   refine rt_1 T Z (T.e 0 Z) ?_
   rw [hR2.none (by omega) (by simp_all) (by simp_all) (by simp_all) (by simp_all),Bool.false_and] at H
   exact ⟨ret_bool H.symm,M.below⟩
  intro h7
  (have h7':=h7;try simp only [Zb1,Zb2,Zb3,Zb4,Zb5,Zb6,Zb7] at h7')
  refine wp_skip ?_
  refine Znb ?_
  refine nm_then ?_
  refine wp_region_lit ?_
  refine lq T (rn_add Z (T.e 6 Z) evc (by omega)) ?_;intro ac T
  refine l_q (v:=(Zi ((k:Int)+1))) (T.pick [0,1,2,3,4,5,6] Z) Z Z Z Z (Zrm Z (T.e 0 Z)) ?_;intro ac T
  replace T:=T.pick [0,3,4,5,6,7] rfl
  refine Zln ?_
  rw [hR2.some (fun h9=>by simp_all),Bool.true_and] at H
  exact ⟨_,by omega,k+1,x,(nxB b.full wy s q S),Z,(by omega),hR2,H,T.pick [1,2,3,4,5,0] Z,M.mask [true,true] Z⟩
 intro h2
 rw [List.drop_of_length_le (l:=p) (by omega),canF_nil] at H
 refine wp_exit ?_
 refine Zet ?_
 refine Zet ?_
 refine ex_hit ?_
 refine nm_then ?_
 refine Zsr ?_
 refine lq T (Zra Z evc) ?_;intro ac T
 refine wpList_nil ?_
 replace T:=T.pick [0] rfl
 replace M:=M.mask [false,false] rfl
 refine Znr ?_
 refine rt_1 T Z (T.e 0 Z) ?_
 exact ⟨ret_bool H.symm,M.below⟩
theorem maybe1_any (b:Bw) (A:Option Addr) (c:Nat) (D:Option Addr) (d:Nat) (p:List Nt) (P:Option Addr) (pc:Nat) (s:Int) (G:Option Addr) (n:Nat) (g:List Int) (gw:Nat)  (w:World) (hP9:Rd w w.heap.size 4 P p.length (ntc p)) (hG:Rd w w.heap.size 1 G g.length (ic g)) (hgp:NtGood p) (hgb:BwAir b) (hs:0≤s∧s≤20) (hgl:g.length=p.length) (q1:Bk w gw #[.slice G g.length n])  :
  Calls Try.prog 136 #[.agg #[Zi b.full,Zi b.a0,Zi b.a1,.slice A b.cs.length c,.slice D b.ts.length d,.slice P p.length pc,Zi s],Zj gw] w fun e w'=>e=.returned (.bool (canB b p g s))∧Below w.heap.size w w':=by
 obtain ⟨bP,oP,SP⟩:=Sp.old hP9
 obtain ⟨bG,oG,SG⟩:=Sp.old hG
 refine Zpx noEx Try.func136 Z 7 Z [.agg #[Zi b.full,Zi b.a0,Zi b.a1,.slice A b.cs.length c,.slice D b.ts.length d,.slice P p.length pc,Zi s],Zj gw] Z Z (Mem.init w _) ?_
 intro ac wc T M
 refine Zsr ?_
 refine Zl2 ?_
 refine Zob M T Z Z Z Z (T.e 0 Z) Z ?_;clear M T;intro g1 wc ac M T
 refine lq T (Zra Z evc) ?_;intro ac T
 replace T:=T.pick [1,3] rfl
 refine Zln ?_
 refine Zsr ?_
 refine Zg2 T (Zq (Zrr (Mem.nth M 0 Z) Z (T.e 0 Z) Z)) Z (fun _ T=>Zq (Zro (Mem.old M q1 (fun h=>h)) Z (T.e 2 Z) Z)) Z ?_;intro ac T
 refine Zl2 ?_
 refine Zod T Z Z Z Z evf (.cons (T.e 1 Z) (.cons (T.e 0 Z) .nil)) Try.func137 Z Z ?_
 refine Calls.mono (can_any b A c D d p P pc s G n g _ (SP.rd M (Zz9 _)) (SG.rd M (Zz9 _)) hgp hgb (by omega) hgl) ?_
 clear T;rintro e wc ⟨rfl,hb⟩ ac T
 replace M:=M.call hb;clear hb
 refine lq T (Zra Z (T.e 0 Z)) ?_;intro ac T
 refine wpList_nil ?_
 replace T:=T.pick [0] rfl
 replace M:=M.mask [false] rfl
 refine Znr ?_
 refine rt_1 T Z (T.e 0 Z) ?_
 exact ⟨rfl,M.below⟩
theorem hop_any {b:Bw} {A:Option Addr} {c:Nat} {D:Option Addr} {d:Nat} {P:Option Addr} {pc:Nat} {p:List Nt} {g:List Int} (ss:List Int):((ss.map (mkP b A c D d P pc p)).any fun x=>canB x.b x.l g x.s)=hopB b p ss g:=by
 unfold hopB
 rw [List.any_map]
 rfl
theorem maybe_any (b:Bw) (A:Option Addr) (c:Nat) (D:Option Addr) (d:Nat) (p:List Nt) (P:Option Addr) (pc:Nat) (ss:List Int) (B:Option Addr) (lc:Nat) (G:Option Addr) (n:Nat) (g:List Int)  (w:World) (hP9:Rd w w.heap.size 4 P p.length (ntc p)) (hG:Rd w w.heap.size 1 G g.length (ic g)) (hL:Rd w w.heap.size 7 B ss.length (pdc (ss.map (mkP b A c D d P pc p)))) (nL:ss.length≤1000000) (hgp:NtGood p) (hgb:BwAir b) (hss:∀ s∈ss,0≤s∧s≤20) (hgl:g.length=p.length)  :
  Calls Try.prog 96 #[.slice B ss.length lc,.slice G g.length n] w fun e w'=>e=.returned (.bool (hopB b p ss g))∧Below w.heap.size w w':=by
 obtain ⟨bP,oP,SP⟩:=Sp.old hP9
 obtain ⟨bG,oG,SG⟩:=Sp.old hG
 obtain ⟨bL,oL,SL⟩:=Sp.old hL
 refine Zpx noEx Try.func96 Z 8 Z [.slice B ss.length lc,.slice G g.length n] Z Z (Mem.init w _) ?_
 intro ac wc T M
 refine Zsr ?_
 refine Zl2 ?_
 refine Zob M T Z Z Z Z (T.e 1 Z) Z ?_;clear M T;intro g1 wc ac M T
 refine lq T (Zra Z evc) ?_;intro ac T
 replace T:=T.pick [1,2] rfl
 refine Zln ?_
 refine Zsr ?_
 refine Zg2 (v2:=(.func (.func 136) #[] #[Zj g1])) T (Zq (Zrm Z (T.e 1 Z))) Z (fun _ T=>Zq (rn_makeFunc Z .nil (.cons (T.e 1 Z) .nil))) Z ?_;intro ac T
 refine Zl2 ?_
 obtain ⟨l9,hl9⟩:∃ q,q=ss.map (mkP b A c D d P pc p):=⟨_,rfl⟩
 have hL9:=SL.rd M (Zz9 _)
 rw [← hl9,show ss.length=l9.length by rw [hl9,List.length_map]] at hL9
 rw [show ss.length=l9.length by rw [hl9,List.length_map]] at T
 have q9:=M.nth 0 rfl
 have hP8:=SP.rd M (Zz9 _)
 have hG8:=SG.rd M (Zz9 _)
 refine Zod T Z Z Z Z evf (.cons (T.e 1 Z) (.cons (T.e 0 Z) .nil)) Try.func128 Z Z ?_
 refine Calls.mono (containsF_any 136 _ [Zj g1] (fun x=>canB x.b x.l g x.s) l9 B lc _ hL9 (by rw [hl9,List.length_map];exact nL) Try.func136 rfl rfl (fun x hx w1 hb1=>by rw [hl9] at hx;obtain ⟨s,hs9,rfl⟩:=List.mem_map.1 hx;exact maybe1_any b A c D d p P pc s G n g g1 w1 ((hP8.below hb1).more hb1.size) ((hG8.below hb1).more hb1.size) hgp hgb (hss s hs9) hgl (q9.below hb1))) ?_
 clear T;rintro e wc ⟨rfl,hb⟩ ac T
 replace M:=M.call hb;clear hb
 refine lq T (Zra Z (T.e 0 Z)) ?_;intro ac T
 refine wpList_nil ?_
 replace T:=T.pick [0] rfl
 replace M:=M.mask [false] rfl
 refine Znr ?_
 refine rt_1 T Z (T.e 0 Z) ?_
 refine ⟨ret_bool ?_,M.below⟩
 rw [hl9]
 exact hop_any ss
def plaV (b:Bw) (p:List Nt) (g:List Int):Int:=if lvlE b p g≠0 then 0 else if alwB b p (sums0 b) g then 1 else if hopB b p (sums0 b) g then 3 else 2
set_option maxHeartbeats 4000000 in
theorem Plays_any {J:Nat→Option Obj} (hP:FuncsOk Try.prog) (b:Bw) (A:Option Addr) (c:Nat) (D:Option Addr) (d:Nat) (p:List Nt) (P:Option Addr) (pc:Nat) (G:Option Addr) (n:Nat) (g:List Int)  (w:World) (hA:Rd w w.heap.size 2 A b.cs.length (rc b.cs)) (hD:Rd w w.heap.size 4 D b.ts.length (lkc b.ts)) (hop:∀ t∈b.ts,Rd w w.heap.size 1 t.A t.op.length (ic t.op)) (nA:b.cs.length≤1000) (nD:b.ts.length≤1000) (nop:∀ t∈b.ts,t.op.length≤1000) (hP9:Rd w w.heap.size 4 P p.length (ntc p)) (nP:p.length≤1000) (hG:Rd w w.heap.size 1 G g.length (ic g)) (nG:g.length≤1000)  :
   CallsB Try.prog J 38 #[.agg #[Zi b.full,Zi b.a0,Zi b.a1,.slice A b.cs.length c,.slice D b.ts.length d],.slice P p.length pc,.slice G g.length n] w fun e w'=>e=.returned (.tuple #[Zi (plaV b p g),Zi (lvlE b p g)])∧Below w.heap.size w w':=by
 obtain ⟨bA,oA,SA⟩:=Sp.old hA
 obtain ⟨bD,oD,SD⟩:=Sp.old hD
 obtain ⟨bP,oP,SP⟩:=Sp.old hP9
 obtain ⟨bG,oG,SG⟩:=Sp.old hG
 refine px_enterB hP noEx Try.func38 Z 37 Z [.agg #[Zi b.full,Zi b.a0,Zi b.a1,.slice A b.cs.length c,.slice D b.ts.length d],.slice P p.length pc,.slice G g.length n] Z Z (Mem.init w _) ?_
 intro ac wc T M
 refine wpB_seq hP ?_
 refine b_lone hP w fun T9=>?_
 replace M:=M.tp T9 0 0
 replace SA:=SA.tp T9 0
 replace SD:=SD.tp T9 0
 replace SG:=SG.tp T9 0
 replace SP:=SP.tp T9 0
 refine wp_region_lit ?_
 refine Zl2 ?_
 refine Zob M T Z Z Z Z (T.e 0 Z) Z ?_;clear M T;intro g1 wc ac M T
 refine Zg2 T (Zq (Zra Z evc)) Z (Zc Z) Z ?_;intro ac T
 refine wpList_nil ?_
 refine nqR_n M ?_;clear M;intro wc M
 replace SA:=SA.pt
 replace SD:=SD.pt
 replace SG:=SG.pt
 replace SP:=SP.pt
 replace T:=T.pick [2,4,5] rfl
 refine nm_then ?_
 refine wpB_seq hP ?_
 refine gB_start2 hP M (M.mask [true] Z) 13 (by kernel_rfl) Z (by kernel_rfl) ?_
 clear M;intro wc M
 refine gB_q (T:=T) (i:=0) Z (by kernel_rfl) (by kernel_rfl:(Zpb 13 0).setIfInBounds 0 true=Zpb 13 1) (fun _=>si_U) Z Z Z Z (fun T9 B w' hD hl hS=>(Zrr (Mem.nth (show Mem (Bq.tp w T9 0) noEx w' _ from hS) 0 Z) Z (T.e 0 Z) Z)) ?_;intro ac T
 refine gB_q (T:=T) (i:=1) Z (by kernel_rfl) (by kernel_rfl:(Zpb 13 1).setIfInBounds 1 true=Zpb 13 3) (fun _=>si_U) Z Z Z Z (fun _ _ _ _ _ _=>(Zrm Z (T.e 2 Z))) ?_;intro ac T
 refine gB_q (T:=T) (i:=3) Z (by kernel_rfl) (by kernel_rfl:(Zpb 13 3).setIfInBounds 3 true=Zpb 13 11) (fun _=>si_U) Z Z Z Z (fun _ _ _ _ _ _=>(Zrm Z (T.e 3 Z))) ?_;intro ac T
 refine gB_q (T:=T) (i:=4) Z (by kernel_rfl) (by kernel_rfl:(Zpb 13 11).setIfInBounds 4 true=Zpb 13 27) (fun _=>si_U) Z Z Z Z (fun _ _ _ _ _ _=>(Zrm Z (T.e 5 Z))) ?_;intro ac T
 refine gB_w (i:=2) (by kernel_rfl) Z (by kernel_rfl:(Zpb 13 27).setIfInBounds 2 true=Zpb 13 31) Z ?_;intro T9 K hK
 replace M:=M.tp T9 0 0
 replace SA:=SA.tp T9 0
 replace SD:=SD.tp T9 0
 replace SG:=SG.tp T9 0
 replace SP:=SP.tp T9 0
 refine Zod T Z Z Z Z evf (.cons (T.e 2 Z) .nil) Try.func40 Z Z ?_
 refine Calls.mono (piece_any p P pc _ (SP.rd M (Zz9 _)) (by omega)) ?_
 clear T;rintro e wc ⟨rfl,hb⟩ ac T
 replace M:=M.call hb;clear hb
 refine gB_out hK M ?_;clear hK K M;intro wc M
 replace SA:=SA.pt
 replace SD:=SD.pt
 replace SG:=SG.pt
 replace SP:=SP.pt
 refine ⟨(M.mask [true] Z),?_⟩
 refine gB_w (i:=5) (by kernel_rfl) Z (by kernel_rfl:(Zpb 13 31).setIfInBounds 5 true=Zpb 13 63) Z ?_;intro T9 K hK
 replace M:=M.tp T9 0 0
 replace SA:=SA.tp T9 0
 replace SD:=SD.tp T9 0
 replace SG:=SG.tp T9 0
 replace SP:=SP.tp T9 0
 refine Zod T Z Z Z Z evf (.cons (T.e 2 Z) (.cons (T.e 1 Z) .nil)) Try.func91 Z Z ?_
 refine Calls.mono (checkWays_any p P pc G n g _ (SP.rd M (Zz9 _)) (by omega) (SG.rd M (Zz9 _)) (by omega)) ?_
 clear T;rintro e wc ⟨rfl,hb⟩ ac T
 replace M:=M.call hb;clear hb
 refine gB_out hK M ?_;clear hK K M;intro wc M
 replace SA:=SA.pt
 replace SD:=SD.pt
 replace SG:=SG.pt
 replace SP:=SP.pt
 refine ⟨(M.mask [true] Z),?_⟩
 refine gB_w (i:=6) (by kernel_rfl) Z (by kernel_rfl:(Zpb 13 63).setIfInBounds 6 true=Zpb 13 127) Z ?_;intro T9 K hK
 replace M:=M.tp T9 0 0
 replace SA:=SA.tp T9 0
 replace SD:=SD.tp T9 0
 replace SG:=SG.tp T9 0
 replace SP:=SP.tp T9 0
 refine ow_bs (e:=39) [Zi (pieceE p),Zi (waysE p g)] M T Z Z Z Z (.cons (T.e 1 Z) (.cons (T.e 0 Z) .nil)) (fun _=>by kernel_rfl) ?_;clear M T;intro g2 wc ac M T
 refine gB_out hK M ?_;clear hK K M;intro wc M
 replace SA:=SA.pt
 replace SD:=SD.pt
 replace SG:=SG.pt
 replace SP:=SP.pt
 refine ⟨(M.mask [false,true] Z),?_⟩
 refine gB_one (i:=7) (by kernel_rfl) (by kernel_rfl:(Zpb 13 127).setIfInBounds 7 true=Zpb 13 255) (opB_call (first:=[]) (cap:=[]) T Z Z Z Z Z evf (.cons (T.e 6 Z) (.cons (T.e 0 Z) .nil)) Try.func77 Z Z (known_any hP b A c D d (some ⟨g2,0,none⟩) 2 [(pieceE p),(waysE p g)] _ (SA.rd M (Zz9 _)) (SD.rd M (Zz9 _)) (fun t ht=>M.rd (hop t ht) (Nat.le_refl _)) nA nD nop (M.rdOwn (Zne (i:=0) Z) Z Z) (by first | omega | simp)) ?_ Z)
 clear T
 rintro e wc ⟨Akur1_7,ckur1_7,Ikur1_7,rfl,hckur1_7,N⟩
 refine ⟨_,Z,?_⟩
 intro ac T
 obtain ⟨lkur1_7,hlkur1_7⟩:∃ q,q=knownL b [(pieceE p),(waysE p g)]:=⟨_,rfl⟩
 obtain ⟨ekur1_7,hekur1_7⟩:∃ q,q=knownE b [(pieceE p),(waysE p g)]:=⟨_,rfl⟩
 rw [← hlkur1_7] at hckur1_7 T
 rw [← hekur1_7] at T
 obtain ⟨bkur1_7,okur1_7,hSkur1_7⟩:=hckur1_7.spV (l4c_length _)
 have SLkur1_7:=hSkur1_7 w noEx
 clear hSkur1_7
 replace M:=(M.join N).swapI
 clear N
 replace M:Mem w noEx wc ((g2,.cells [Zi (pieceE p),Zi (waysE p g)])::(g1,.cells [Zi b.full,Zi b.a0,Zi b.a1,.slice A b.cs.length c,.slice D b.ts.length d])::Ikur1_7):=M
 refine ⟨(M.perm [1] Z Z),?_⟩
 refine gB_q (T:=T) (i:=8) Z (by kernel_rfl) (by kernel_rfl:(Zpb 13 255).setIfInBounds 8 true=Zpb 13 511) (fun _=>si_U) Z Z Z Z (fun _ _ _ _ _ _=>(Zrm Z (T.e 0 Z))) ?_;intro ac T
 refine gB_q (T:=T) (i:=9) Z (by kernel_rfl) (by kernel_rfl:(Zpb 13 511).setIfInBounds 9 true=Zpb 13 1023) (fun _=>si_U) Z Z Z Z (fun _ _ _ _ _ _=>(Zre Z (T.e 0 Z) Z)) ?_;intro ac T
 refine gB_q (T:=T) (i:=10) Z (by kernel_rfl) (by kernel_rfl:(Zpb 13 1023).setIfInBounds 10 true=Zpb 13 2047) (fun _=>si_U) Z Z Z Z (fun _ _ _ _ _ _=>(Zre Z (T.e 1 Z) Z)) ?_;intro ac T
 refine gB_q (T:=T) (i:=11) Z (by kernel_rfl) (by kernel_rfl:(Zpb 13 2047).setIfInBounds 11 true=Zpb 13 4095) (fun _=>si_U) Z Z Z Z (fun _ _ _ _ _ _=>(Zra Z (T.e 1 Z))) ?_;intro ac T
 refine gB_q (T:=T) (i:=12) Z (by kernel_rfl) (by kernel_rfl:(Zpb 13 4095).setIfInBounds 12 true=Zpb 13 8191) (fun _=>si_U) Z Z Z Z (fun _ _ _ _ _ _=>(Zra Z (T.e 1 Z))) ?_;intro ac T
 refine gB_done (by kernel_rfl) M ?_;clear M;intro wc M
 replace T:=T.pick [0,1,13,14,15] rfl
 replace M:=M.mask [false,true] rfl
 refine nm_then ?_
 refine b_lone hP w fun T9=>?_
 replace M:=M.tp T9 0 0
 replace SA:=SA.tp T9 0
 replace SD:=SD.tp T9 0
 replace SG:=SG.tp T9 0
 replace SLkur1_7:=SLkur1_7.tp T9 0
 replace SP:=SP.tp T9 0
 generalize hw9:Bq.tp w T9 0=w at M SA SD SG SLkur1_7 SP
 generalize Bq.tp wc T9 0=wc at M ⊢
 refine wp_seq ?_
 refine Zsr ?_
 refine Zg2 T (Zq (Zrm Z (T.e 0 Z))) Z (fun _ T=>Zq (rn_neq Z (T.e 0 Z) evc)) Z ?_;intro ac T
 replace T:=T.pick [0,2,3,4,5,6] rfl
 refine Zln ?_
 refine wp_ifn (T.e 0 Z) ?_ ?_
 ·intro h1
  refine Zsr ?_
  refine Zg3 T (Zq (Zrm Z (T.e 1 Z))) Z (Zc Z) Z (Za 1 Z Z) Z ?_;intro ac T
  refine wpList_nil ?_
  replace T:=T.pick [0,1] rfl
  replace M:=M.mask [false] rfl
  refine Znr ?_
  refine Zrt ?_
  subst hw9
  refine nqR_r M ?_;clear M;intro wc M
  refine rt_2 T Z (T.e 1 Z) (T.e 0 Z) ?_
  have hke:lvlE b p g≠0:=by unfold lvlE;rw [← hekur1_7];omega
  have e9:plaV b p g=0∧lvlE b p g=ekur1_7:=⟨by unfold plaV;rw [if_pos hke],hekur1_7.symm⟩
  rw [e9.1,e9.2]
  exact ⟨rfl,M.below⟩
 intro h1
 have hke:knownE b [pieceE p,waysE p g]=0:=by rw [← hekur1_7];omega
 obtain ⟨hgood,hf9,hlt,hl4,hlp,hln⟩:=known_ok nop hke
 rw [← hlkur1_7] at hlt hl4 hlp hln
 obtain ⟨hpe,hwe9⟩:=first2 hf9
 have hgp:=pieceE_good hpe
 have hgb:=hgood.airs
 have h4:=hgood.n4
 have hgl:=waysE_len hwe9
 refine Zsk ?_
 refine Zsr ?_
 refine Zg3 T (Zq (Zrr (Mem.nth M 0 Z) Z (T.e 3 Z) Z)) Z (Zm 3 Z Z) Z (Zm 6 Z Z) Z ?_;intro ac T
 refine Zl2 ?_
 refine Zod T Z Z Z Z evf (.cons (T.e 2 Z) (.cons (T.e 1 Z) (.cons (T.e 0 Z) (.cons evc .nil)))) Try.func85 Z Z ?_
 refine Calls.mono (playedBy_any b A c D d lkur1_7 Akur1_7 ckur1_7 p P pc none 0 [] _ (SLkur1_7.rd M (.cons _ (List.Sublist.refl _))) (by omega) hl4 h4 (⟨by simp [ic],fun h=>absurd h (by simp)⟩) (by first | omega | simp)) ?_
 clear T;rintro e wc ⟨Apu3,cpu3,Ipu3,rfl,hclu3,N⟩ ac T
 obtain ⟨svu3,hsvu3⟩:∃ q,q=sumsB (cornL b.cs.length []) lkur1_7:=⟨_,rfl⟩
 rw [← hsvu3] at hclu3 T
 have hssvu3:∀ s∈svu3,0≤s∧s≤20:=by rw [hsvu3];exact sums_bd hl4 h4
 have hnsvu3:svu3.length≤lkur1_7.length:=by rw [hsvu3];exact sumsB_len _
 obtain ⟨bpu3,opu3,Spu3⟩:=hclu3.spV (by rw [pdc_length,List.length_map])
 replace Spu3:=Spu3 w noEx
 replace M:=(M.join N).swapI
 clear N
 replace M:Mem w noEx wc ((g1,.cells [Zi b.full,Zi b.a0,Zi b.a1,.slice A b.cs.length c,.slice D b.ts.length d])::(Ikur1_7++Ipu3)):=M
 refine lq T (Zra Z (T.e 0 Z)) ?_;intro ac T
 refine wpList_nil ?_
 replace T:=T.pick [0,10] rfl
 replace M:=M.mask [false] rfl
 refine Zns ?_
 refine wp_block ?_
 refine Zsr ?_
 refine Zg2 T (Zq (Zrm Z (T.e 0 Z))) Z (Zm 2 Z Z) Z ?_;intro ac T
 refine Zl2 ?_
 refine Zod T Z Z Z Z evf (.cons (T.e 1 Z) (.cons (T.e 0 Z) .nil)) Try.func87 Z Z ?_
 refine Calls.mono (always_any b A c D d p P pc svu3 Apu3 cpu3 G n g _ (SP.rd M (Zz9 _)) (SG.rd M (Zz9 _)) (Spu3.rd M (Zsq _ _)) (by omega) hgp hgb hssvu3 hgl) ?_
 clear T;rintro e wc ⟨rfl,hb⟩ ac T
 replace M:=M.call hb;clear hb
 refine lq T (Zra Z (T.e 0 Z)) ?_;intro ac T
 replace T:=T.pick [0,4,5] rfl
 refine Zln ?_
 refine wp_cond_split (T.e 0 Z) ?_ ?_
 ·intro h2
  refine Zsr ?_
  refine Zg2 T (Zq (Zra Z evc)) Z (Zc Z) Z ?_;intro ac T
  replace T:=T.pick [0,1] rfl
  refine Zln ?_
  refine wp_ret ?_
  refine Zrb ?_
  refine Zrt ?_
  subst hw9
  refine nqR_r M ?_;clear M;intro wc M
  refine rt_2 T Z (T.e 1 Z) (T.e 0 Z) ?_
  have e8:lvlE b p g=0:=hke
  have hss9:svu3=sums0 b:=by rw [hsvu3,hlt];rfl
  skip
  have e9:plaV b p g=1:=by unfold plaV;rw [if_neg (by omega),← hss9,if_pos h2]
  rw [e8,e9]
  exact ⟨rfl,M.below⟩
 intro h2
 refine Zsr ?_
 refine Zg2 T (Zq (Zrm Z (T.e 1 Z))) Z (Zm 3 Z Z) Z ?_;intro ac T
 refine Zl2 ?_
 refine Zod T Z Z Z Z evf (.cons (T.e 1 Z) (.cons (T.e 0 Z) .nil)) Try.func96 Z Z ?_
 refine Calls.mono (maybe_any b A c D d p P pc svu3 Apu3 cpu3 G n g _ (SP.rd M (Zz9 _)) (SG.rd M (Zz9 _)) (Spu3.rd M (Zsq _ _)) (by omega) hgp hgb hssvu3 hgl) ?_
 clear T;rintro e wc ⟨rfl,hb⟩ ac T
 replace M:=M.call hb;clear hb
 refine lq T (Zra Z (T.e 0 Z)) ?_;intro ac T
 replace T:=T.pick [0] rfl
 refine Zln ?_
 refine wp_cond_split (T.e 0 Z) ?_ ?_
 ·intro h3
  refine Zsr ?_
  refine Zg2 T (Zq (Zra Z evc)) Z (Zc Z) Z ?_;intro ac T
  replace T:=T.pick [0,1] rfl
  refine Zln ?_
  refine wp_ret ?_
  refine Zrb ?_
  refine Zrt ?_
  subst hw9
  refine nqR_r M ?_;clear M;intro wc M
  refine rt_2 T Z (T.e 1 Z) (T.e 0 Z) ?_
  have e8:lvlE b p g=0:=hke
  have hss9:svu3=sums0 b:=by rw [hsvu3,hlt];rfl
  skip
  have e9:plaV b p g=3:=by unfold plaV;rw [if_neg (by omega),← hss9,if_neg (by rw [h2];simp),if_pos h3]
  rw [e8,e9]
  exact ⟨rfl,M.below⟩
 intro h3
 refine wp_skip ?_
 refine Znb ?_
 refine nm_then ?_
 refine Zsr ?_
 refine Zg2 T (Zq (Zra Z evc)) Z (Zc Z) Z ?_;intro ac T
 replace T:=T.pick [0,1] rfl
 refine Zln ?_
 refine wp_ret ?_
 subst hw9
 refine nqR_r M ?_;clear M;intro wc M
 refine rt_2 T Z (T.e 1 Z) (T.e 0 Z) ?_
 have e8:lvlE b p g=0:=hke
 have hss9:svu3=sums0 b:=by rw [hsvu3,hlt];rfl
 skip
 have e9:plaV b p g=2:=by unfold plaV;rw [if_neg (by omega),← hss9,if_neg (by rw [h2];simp),if_neg (by rw [h3];simp)]
 rw [e8,e9]
 exact ⟨rfl,M.below⟩
end
def lastO (b:List Int):Option Int:=if b.length=0 then none else some (b.getD (b.length - 1) 0)
theorem wyE_steps {p:List Nt}:∀ (r b:List Int),stepsOk p b r→b.length+r.length=p.length→wyE (p.drop b.length) r (lastO b)=0
 | [],b,_,_=>by
  cases p.drop b.length <;> rfl
 | w::r,b,h,hl=>by
  simp only [Zx1] at hl
  have hb:b.length < p.length:=by omega
  rw [List.drop_eq_getElem_cons hb]
  unfold wyE
  have hw:withinB w 1 2=true:=withinB_iff.2 (by have:=h.1;omega)
  have ih:=wyE_steps r (b++[w]) h.2.2 (by rw [Zx3,List.length_singleton];omega)
  rw [Zx3,List.length_singleton,show lastO (b++[w])=some w by
   unfold lastO
   rw [Zx3,List.length_singleton,if_neg (by omega),List.getD_eq_getElem?_getD,show b.length+1 - 1=b.length by omega,List.getElem?_append_right (Nat.le_refl _),Nat.sub_self]
   rfl] at ih
  rw [hw,if_neg (by simp),if_neg]
  ·exact ih
  ·rintro ⟨⟨h1,h2⟩,h3⟩
   have h4:=h.2.1
   unfold stepW at h4
   rw [List.getD_eq_getElem?_getD,List.getElem?_eq_getElem hb] at h4
   unfold lastO at h1 h2
   by_cases h5:b.length=0
   ·rw [if_pos h5] at h1;cases h1
   ·rw [if_neg h5] at h2
    have h6:(p[b.length]).rest=true∨w=b.getD (b.length - 1) 0:=by simpa [h5] using h4
    rcases h6 with h6 | h6
    ·rw [h6] at h3;cases h3
    ·exact h2 (by rw [h6])
theorem WayOk.err {p:List Nt} {g:List Int} (h:WayOk p g):waysE p g=0:=by
 unfold waysE
 rw [if_neg (by have:=h.len;omega),if_neg (by have:=h.len;omega)]
 have:=wyE_steps g [] h.ok (by simpa using h.len)
 simpa [lastO] using this
theorem BwTrue.lvl {b:Bw} {gl:List Int} {air:Int} {p:List Nt} {g:List Int} (hb:BwTrue b gl air) (h4:gl.length≤4) (h3:b.ts.length≤3) (hp:NtGood p) (hw:WayOk p g):lvlE b p g=0 :=
 hb.known h4 h3 fun e he=>by
  rcases Zx7.1 he with rfl | he
  ·exact pieceE_of hp
  ·rw [List.mem_singleton.1 he];exact hw.err
theorem sums_pos {b:Bw} {el:List Int} (h:knownE b el=0):sums0 b≠[]:=by
 unfold knownE at h
 split at h
 ·rename_i h1;exact absurd h h1
 ·split at h
  ·rename_i h2;exact absurd h h2
  ·split at h
   ·cases h
   ·rename_i h3
    intro h4
    have h5:0 < (truthsL b).length:=by unfold truthsL;rw [List.length_map];omega
    obtain ⟨x,hx⟩:=List.exists_mem_of_length_pos h5
    have h6:totL x.l (cornL b.cs.length [])∈sums0 b:=sumsB_mem.2 ⟨x,hx,rfl⟩
    rw [h4] at h6
    cases h6
theorem levF_len {f:Int→List (Int×Int)} {n:Nat} (hf:∀ s,(f s).length=n):∀ {ss:List Int},ss≠[]→(levF f ss).length=n
 | [],h=>absurd rfl h
 | s::r,_=>by
  unfold levF
  have key:∀ (r:List Int) (acc:List (Int×Int)),acc.length=n→(r.foldl (fun acc t=>List.zipWith mm2 acc (f t)) acc).length=n:=fun r=>by
   induction r with
   | nil=>intro acc h;exact h
   | cons t r ih =>
    intro acc h
    rw [List.foldl_cons]
    exact ih _ (by rw [List.length_zipWith,h,hf,Nat.min_self])
  exact key r _ (hf s)
theorem lvlL_of {b:Bw} {p:List Nt} {g:List Int} (h:lvlE b p g=0):lvlL b p g=levF (fun s=>levs s (b.a0,b.a1) p g) (sums0 b):=by
 unfold lvlL
 rw [if_neg (by omega)]
theorem lvlL_len {b:Bw} {p:List Nt} {g:List Int} (h:lvlE b p g=0) (hw:g.length=p.length):(lvlL b p g).length=p.length:=by
 rw [lvlL_of h]
 exact levF_len (fun s=>levs_len2 _ _ _ _ hw) (sums_pos h)
theorem plaV_of {b:Bw} {p:List Nt} {g:List Int} (h:lvlE b p g=0):plaV b p g=if alwB b p (sums0 b) g then 1 else if hopB b p (sums0 b) g then 3 else 2:=by
 unfold plaV
 rw [if_neg (by omega)]
section
open Go.RowKit Go.Proofs.Ytoheddpnnjldgaa.Bq
theorem rn_sliceA {P:Program} {op:Oper} {a:Act} {w:World} {ty e:TypeId} {size n h:Nat} {x y:Operand} {g:Nat} (ho:op.op=.slice ty x none (some y) none) (hu:P.underlying ty=some (.array n e)) (hs:(P.info? e).map (·.size)=some size) (hx:a.eval x=Zj g) (hh:a.eval y=Zi (h:Int)) (h2:h≤n):Runs P op a (.slice (some ⟨g,0,none⟩) h n) w:=by
 cases hi':P.info? e with
 | none=>rw [hi'] at hs;simp at hs
 | some inf =>
   have e0:(⟨g,0,none⟩:Addr).add 0=⟨g,0,none⟩:=rfl
   unfold Runs execOp
   simp [ho,hx,hh,Instr.sliceAt,Instr.sureAddr,Instr.sliceBounds,Instr.sliceBound,asIntOf,Sem.run_bind,run_underlying,hu,sizeOf,typeInfo,hi',hs,h2,e0]
theorem rdPre {w:World} {g:Nat} {cs:List Value} (h:Bk w g cs.toArray) {xs:List Value} {n:Nat} (hx:xs.length=n) (hp:xs <+: cs):Rd w w.heap.size 1 (some ⟨g,0,none⟩) n xs :=
 ⟨by omega,fun _=>⟨g,0,rfl,h.lt,fun j u hu=>by
  rw [h.cell,Zxa,List.getElem?_toArray]
  obtain ⟨t,rfl⟩:=hp
  rw [List.getElem?_append_left (List.getElem?_eq_some_iff.1 hu).1]
  exact hu⟩⟩
def leakC (l:List L4) (k:Nat):Int×Int:=spn (l.map fun x=>x.l.getD k 0)
def leksL (b:Bw):List (Int×Int):=if knownE b []≠0 then [] else (List.range b.cs.length).map (leakC (truthsL b))
def lekR (b:Bw):Int×Int:=if knownE b []≠0 then (0,0) else spn ((truthsL b).map fun x=>totL x.l (cornL b.cs.length []))
def mosN (n:Nat) (l:List L4) (k:Nat):Nat:=l.countP fun x=>decide (x.l.getD k 0=(spn (x.l.take n)).2)
def mosL (b:Bw):List Int:=if knownE b []≠0 then [] else (List.range b.cs.length).map fun k=>verd (mosN b.cs.length (truthsL b) k:Int) ((truthsL b).length:Int)
theorem mosN_succ {n:Nat} {l:List L4} {k j:Nat} {x:L4} (h:l[j]? = some x):mosN n (l.take (j+1)) k=mosN n (l.take j) k+if x.l.getD k 0=(spn (x.l.take n)).2 then 1 else 0:=by
 unfold mosN
 rw [List.take_add_one,h,List.countP_append]
 simp [List.countP_cons]
theorem mapR_succ {α:Type} (f:Nat→α) (k:Nat):(List.range (k+1)).map f=(List.range k).map f++[f k]:=by rw [List.range_succ,List.map_append];rfl
theorem spanL_any (F : FuncId) (fn : Func) (cap : List Value) (pr : L4 → Int) (l : List L4) (B : Option Addr) (lc : Nat)  (w : World) (hL : Rd w w.heap.size 4 B l.length (l4c l)) (nL : l.length ≤ 1000000) (h0 : 0 < l.length) (hF1 : Try.prog.funcs[F]? = some fn) (hF2 : (fn.name == "runtime.NumGoroutine") = false) (hF3 : fn.body.isNone = false) (hF : ∀ x ∈ l, ∀ w1, Below w.heap.size w w1 → Calls Try.prog F ([] ++ [(.agg #[Zi x.a, Zi x.b, Zi x.c, Zi x.d] : Value)] ++ cap).toArray w1 fun e w2 => e = .returned (Zi (pr x)) ∧ Below w1.heap.size w1 w2)  :
   Calls Try.prog 103 #[.slice B l.length lc,.func (.func F) #[] cap.toArray] w fun e w'=>e=.returned (.agg #[Zi ((spn (l.map pr)).1),Zi ((spn (l.map pr)).2)])∧Below w.heap.size w w':=by
 obtain ⟨bL,oL,SL⟩:=Sp.old hL
 obtain ⟨z,hkz,-⟩:=l4c_next (l:=l) (k:=0) h0
 have hz9:spn (l.map pr)=spnI (pr z,pr z) (l.map pr):=by unfold spn;rw [List.getD_eq_getElem?_getD,List.getElem?_map,hkz];rfl
 refine Zpx noEx Try.func103 Z 40 Z [.slice B l.length lc,.func (.func F) #[] cap.toArray] Z Z (Mem.init w _) ?_
 intro ac wc T M
 refine Zsr ?_
 refine Zl2 ?_
 refine Zoa M T Z Z Z Z ?_;clear M T;intro g1 wc ac M T
 refine Zln ?_
 refine wp_seq ?_
 refine Zgs M (M.mask [true] Z) 13 (by kernel_rfl) Z (by kernel_rfl) ?_
 clear M;intro wc M
 refine g_have (fun ac wc=>∃ (gr1_11:Nat),Tm ac 40 [(5,Zj gr1_11),(18,.agg #[Zi (pr z),Zi (pr z)]),(17,Zi (pr z)),(12,Zi (pr z)),(16,.agg #[Zi z.a,Zi z.b,Zi z.c,Zi z.d]),(15,.pointer (some ⟨bL,oL+0 * 4,none⟩)),(14,.slice B l.length lc),(13,.func (.func F) #[] cap.toArray),(11,.agg #[Zi z.a,Zi z.b,Zi z.c,Zi z.d]),(10,.pointer (some ⟨bL,oL+0 * 4,none⟩)),(9,.slice B l.length lc),(8,.func (.func F) #[] cap.toArray),(4,Zj g1),(0,.slice B l.length lc),(1,.func (.func F) #[] cap.toArray)]∧Mem w noEx wc [(gr1_11,.cells [Zi 0,Zi 0]),(g1,.cells [Zi 0,Zi 0])]) (Zpb 13 4095) 1 ?_ ?_
 ·clear T M
  rintro ac wc ⟨gr1_11,T,M⟩
  refine gw 12 8191 ?_;intro K hK
  refine Zot M T Z Z (T.e 0 Z) (T.e 1 Z) Z .head Z Z ?_;clear M T;intro wc ac M T
  refine Zso hK _ _ (M.mask [false,true] Z) ?_;clear hK K
  refine Zgd (by kernel_rfl) ?_
  replace T:=T.pick [0,12,13,14] rfl
  refine Zns ?_
  refine Zsr ?_
  refine Zg3 T (Zq (Zrm Z (T.e 2 Z))) Z (Zl Try.underlying104 0 Z Z) Z (fun _ T=>Zq (Zrm Z evc)) Z ?_;intro ac T
  replace T:=T.pick [0,1,2,3,4,6] rfl
  refine Zln ?_
  refine wp_block ?_
  refine wp_loop_n (fun mz ac wc=>∃ (k:Nat) (m0 m1:Int),mz=l.length - k∧(k≤l.length)∧((m0,m1)=spnI (pr z,pr z) ((l.take k).map pr))∧Tm ac 40 [(1,.func (.func F) #[] cap.toArray),(4,Zj g1),(5,Zj gr1_11),(19,.slice B l.length lc),(20,Zi ((l.length:Nat):Int)),(21,Zi (k:Int))]∧Mem w noEx wc [(gr1_11,.cells [Zi m0,Zi m1]),(g1,.cells [Zi 0,Zi 0])]) ?_ ?_
  ·exact ⟨_,0,(pr z),(pr z),Z,(Nat.zero_le _),Z,T.pick [5,4,3,2,1,0] Z,M.mask [true,true] Z⟩
  clear T M
  rintro mz ac wc ⟨k,m0,m1,hmm1,hk,H,T,M⟩
  refine Zsr ?_
  refine lq T (rn_lss Z (T.e 5 Z) (T.e 4 Z)) ?_;intro ac T
  refine Zln ?_
  refine wp_seq ?_
  refine wp_if (T.e 0 Z) ?_ ?_
  ·intro h1
   obtain ⟨y,hky,-⟩:=l4c_next (l:=l) (k:=k) (by omega)
   have hsc:=spnI_succ (x0:=(pr z,pr z)) (l:=l.map pr) (k:=k) (y:=pr y) (by rw [List.getElem?_map,hky];rfl)
   rw [← List.map_take,← List.map_take,← H] at hsc
   refine Zsk ?_
   refine wp_seq ?_
   refine wp_block ?_
   refine Zsr ?_
   refine Zg2 (v2:=(.agg #[Zi y.a,Zi y.b,Zi y.c,Zi y.d])) T (Zq (Zri (size:=4) k Z (T.e 4 Z) (T.e 6 Z) ⟨_,Try.underlying104,by kernel_rfl⟩ Z (by omega) (SL.at0 (by omega)))) Z (fun _ T=>Zq (rn_rowat (Sp.l4cR SL M (Zz9 _) hky) Z (T.e 0 Z) Z)) Z ?_;intro ac T
   refine Zl2 ?_
   refine Zoa M T Z Z Z Z ?_;clear M T;intro g2 wc ac M T
   refine Zl2 ?_
   refine Zot M T Z Z (T.e 0 Z) (T.e 1 Z) Z .head Z Z ?_;clear M T;intro wc ac M T
   replace T:=T.pick [0,4,5,6,7,8,9] rfl
   refine Zln ?_
   refine Zgs M (M.perm [0,2] Z Z) 14 (by kernel_rfl) Z (by kernel_rfl) ?_
   clear M;intro wc M
   refine g_addG 13 M ?_
   refine Zgq (v:=(Zj gr1_11)) T 0 1 Z (fun _=>(Zrg 0 Z (T.e 3 Z))) ?_;intro ac T
   refine gq T 1 3 Z (fun B w' hD hl hS=>(Zro (Mem.nth (show Mem w noEx w' _ from ((MA.lft hS) (hD.wait (i:=1) (m:=13) (by kernel_rfl) hl))) 1 Z) Z (T.e 0 Z) Z)) ?_;intro ac T
   refine Zgq T 2 7 Z (fun _=>(Zrm Z (T.e 3 Z))) ?_;intro ac T
   refine gq T 3 15 Z (fun B w' hD hl hS=>(Zrr (Mem.nth (show Mem w noEx w' _ from ((MA.lft hS) (hD.wait (i:=3) (m:=13) (by kernel_rfl) hl))) 0 Z) Z (T.e 3 Z) Z)) ?_;intro ac T
   refine Zgq (v:=(.pointer (some ⟨gr1_11,1,none⟩))) T 6 79 Z (fun _=>(Zrg 1 Z (T.e 7 Z))) ?_;intro ac T
   refine gq T 7 207 Z (fun B w' hD hl hS=>(Zro (Mem.nth (show Mem w noEx w' _ from ((MA.lft hS) (hD.wait (i:=7) (m:=13) (by kernel_rfl) hl))) 1 Z) Z (T.e 0 Z) Z)) ?_;intro ac T
   refine Zgq T 8 463 Z (fun _=>(Zrm Z (T.e 7 Z))) ?_;intro ac T
   refine gq T 9 975 Z (fun B w' hD hl hS=>(Zrr (Mem.nth (show Mem w noEx w' _ from ((MA.lft hS) (hD.wait (i:=9) (m:=13) (by kernel_rfl) hl))) 0 Z) Z (T.e 7 Z) Z)) ?_;intro ac T
   refine gw 4 991 ?_;intro K hK
   refine Zoc (first:=[]) (cap:=cap) T Z Z Z Z (T.e 5 Z) (.cons (T.e 4 Z) .nil) hF1 hF2 hF3 ?_
   refine Calls.mono (hF y (List.mem_of_getElem? hky) _ M.below) ?_
   clear T;rintro e wc ⟨rfl,hb⟩ ac T
   replace M:=M.call hb;clear hb
   refine Zso hK _ _ (MA.mk (fun _=>M.mask [true,true,true] Z) (M.mask [true,false,true] Z)) ?_;clear hK K
   refine Zgq T 5 1023 Z (fun _=>(rn_min2 Z (T.e 7 Z) (T.e 0 Z))) ?_;intro ac T
   refine gw 10 2047 ?_;intro K hK
   refine Zoc (first:=[]) (cap:=cap) T Z Z Z Z (T.e 3 Z) (.cons (T.e 2 Z) .nil) hF1 hF2 hF3 ?_
   refine Calls.mono (hF y (List.mem_of_getElem? hky) _ M.below) ?_
   clear T;rintro e wc ⟨rfl,hb⟩ ac T
   replace M:=M.call hb;clear hb
   refine Zso hK _ _ (MA.mk (fun _=>M.mask [true,true,true] Z) (M.mask [true,false,true] Z)) ?_;clear hK K
   refine Zgq T 11 4095 Z (fun _=>(rn_max2 Z (T.e 5 Z) (T.e 0 Z))) ?_;intro ac T
   refine Zgq (v:=(.agg #[Zi (min m0 (pr y)),Zi (max m1 (pr y))])) T 12 8191 Z (fun _=>(rn_build Z (.cons (T.e 2 Z) (.cons (T.e 0 Z) .nil)) (fun _=>by kernel_rfl))) ?_;intro ac T
   refine gw 13 16383 ?_;intro K hK
   refine Zot M T Z Z (T.e 16 Z) (T.e 0 Z) Z (.tail .head) Z Z ?_;clear M T;intro wc ac M T
   refine Zso hK _ _ (MA.mk (fun h=>(no_of (by kernel_rfl) h).elim) (M.mask [true,false,true] Z)) ?_;clear hK K
   refine Zgd (by kernel_rfl) ?_
   replace T:=T.pick [14,15,16,17,18,19] rfl
   replace M:=M.mask [false,true,true] rfl
   refine Znb ?_
   refine nm_then ?_
   refine wp_region_lit ?_
   refine lq T (rn_add Z (T.e 5 Z) evc (by omega)) ?_;intro ac T
   refine l_q (v:=(Zi ((k:Int)+1))) (T.pick [0,1,2,3,4,5] Z) Z Z Z Z (Zrm Z (T.e 0 Z)) ?_;intro ac T
   replace T:=T.pick [0,2,3,4,5,6] rfl
   refine Zln ?_
   exact ⟨_,by omega,k+1,(min m0 (pr y)),(max m1 (pr y)),Z,(by omega),(by rw [hsc]),T.pick [1,2,3,4,5,0] Z,M.mask [true,true] Z⟩
  intro h1
  rw [List.take_of_length_le (by omega)] at H
  refine wp_exit ?_
  refine Zet ?_
  refine Zet ?_
  refine ex_hit ?_
  refine nm_then ?_
  refine Zsr ?_
  refine lq T (Zrr (Mem.nth M 0 Z) Z (T.e 3 Z) Z) ?_;intro ac T
  refine Zl2 ?_
  refine Zot M T Z Z (T.e 3 Z) (T.e 0 Z) Z (.tail .head) Z Z ?_;clear M T;intro wc ac M T
  refine wpList_nil ?_
  replace T:=T.pick [3] rfl
  replace M:=M.mask [false,true] rfl
  refine Znr ?_
  refine rt_c M T Z (T.e 0 Z) (Zne (i:=0) Z) Z ?_
  rw [hz9,← H]
  exact ⟨rfl,M.below⟩
 intro H1
 refine g_have (fun ac wc=>∃ (gr1_11:Nat),Tm ac 40 [(5,Zj gr1_11),(12,Zi (pr z)),(16,.agg #[Zi z.a,Zi z.b,Zi z.c,Zi z.d]),(15,.pointer (some ⟨bL,oL+0 * 4,none⟩)),(14,.slice B l.length lc),(13,.func (.func F) #[] cap.toArray),(11,.agg #[Zi z.a,Zi z.b,Zi z.c,Zi z.d]),(10,.pointer (some ⟨bL,oL+0 * 4,none⟩)),(9,.slice B l.length lc),(8,.func (.func F) #[] cap.toArray),(4,Zj g1),(0,.slice B l.length lc),(1,.func (.func F) #[] cap.toArray)]∧Mem w noEx wc [(gr1_11,.cells [Zi 0,Zi 0]),(g1,.cells [Zi 0,Zi 0])]) (Zpb 13 2559) 3 ?_ ?_
 ·clear T M
  rintro ac wc ⟨gr1_11,T,M⟩
  refine gw 9 3071 ?_;intro K hK
  refine Zoc (first:=[]) (cap:=cap) T Z Z Z Z (T.e 5 Z) (.cons (T.e 2 Z) .nil) hF1 hF2 hF3 ?_
  refine Calls.mono (hF z (List.mem_of_getElem? hkz) _ M.below) ?_
  clear T;rintro e wc ⟨rfl,hb⟩ ac T
  replace M:=M.call hb;clear hb
  refine Zso hK _ _ (M.mask [false,true] Z) ?_;clear hK K
  refine Zgq (v:=(.agg #[Zi (pr z),Zi (pr z)])) T 10 4095 Z (fun _=>(rn_build Z (.cons (T.e 2 Z) (.cons (T.e 0 Z) .nil)) (fun _=>by kernel_rfl))) ?_;intro ac T
  exact H1 _ _ ⟨gr1_11,T.pick [2,0,1,3,4,5,6,7,8,9,10,11,12,13,14] Z,M⟩
 intro H0
 refine Zgq T 0 1 Z (fun _=>(Zrm Z (T.e 2 Z))) ?_;intro ac T
 refine Zgq T 1 3 Z (fun _=>(Zrm Z (T.e 2 Z))) ?_;intro ac T
 refine Zgq T 2 7 Z (fun _=>(Zri (size:=4) 0 Z (T.e 0 Z) evc ⟨_,Try.underlying104,by kernel_rfl⟩ Z (by omega) (SL.at0 (by omega)))) ?_;intro ac T
 refine gq (v:=(.agg #[Zi z.a,Zi z.b,Zi z.c,Zi z.d])) T 3 15 Z (fun B w' hD hl hS=>(rn_rowat (Sp.l4cR SL (show Mem w noEx w' _ from hS) (Zz9 _) hkz) Z (T.e 0 Z) Z)) ?_;intro ac T
 refine Zgq T 5 47 Z (fun _=>(Zrm Z (T.e 6 Z))) ?_;intro ac T
 refine Zgq T 6 111 Z (fun _=>(Zrm Z (T.e 6 Z))) ?_;intro ac T
 refine Zgq T 7 239 Z (fun _=>(Zri (size:=4) 0 Z (T.e 0 Z) evc ⟨_,Try.underlying104,by kernel_rfl⟩ Z (by omega) (SL.at0 (by omega)))) ?_;intro ac T
 refine gq (v:=(.agg #[Zi z.a,Zi z.b,Zi z.c,Zi z.d])) T 8 495 Z (fun B w' hD hl hS=>(rn_rowat (Sp.l4cR SL (show Mem w noEx w' _ from hS) (Zz9 _) hkz) Z (T.e 0 Z) Z)) ?_;intro ac T
 refine g_m2 (i:=4) (j:=11) (by kernel_rfl) ?_ ?_
 ·refine gi 511 ?_;intro K hK
  refine Zoc (first:=[]) (cap:=cap) T Z Z Z Z (T.e 7 Z) (.cons (T.e 4 Z) .nil) hF1 hF2 hF3 ?_
  refine Calls.mono (hF z (List.mem_of_getElem? hkz) _ M.below) ?_
  clear T;rintro e wc ⟨rfl,hb⟩ ac T
  replace M:=M.call hb;clear hb
  refine Zso hK _ _ (M.mask [true] Z) ?_;clear hK K
  refine g_m2 (i:=9) (j:=11) (by kernel_rfl) ?_ ?_
  ·refine gi 1023 ?_;intro K hK
   refine Zoc (first:=[]) (cap:=cap) T Z Z Z Z (T.e 4 Z) (.cons (T.e 1 Z) .nil) hF1 hF2 hF3 ?_
   refine Calls.mono (hF z (List.mem_of_getElem? hkz) _ M.below) ?_
   clear T;rintro e wc ⟨rfl,hb⟩ ac T
   replace M:=M.call hb;clear hb
   refine Zso hK _ _ (M.mask [true] Z) ?_;clear hK K
   refine Zgq (v:=(.agg #[Zi (pr z),Zi (pr z)])) T 10 2047 Z (fun _=>(rn_build Z (.cons (T.e 1 Z) (.cons (T.e 0 Z) .nil)) (fun _=>by kernel_rfl))) ?_;intro ac T
   refine gw 11 4095 ?_;intro K hK
   refine Zoa M T Z Z Z Z ?_;clear M T;intro gr1_11 wc ac M T
   refine Zso hK _ _ (M.mask [false,true] Z) ?_;clear hK K
   exact H1 _ _ ⟨gr1_11,T,M⟩
  refine gi 2559 ?_;intro K hK
  refine Zoa M T Z Z Z Z ?_;clear M T;intro gr1_11 wc ac M T
  refine Zso hK _ _ (M.mask [false,true] Z) ?_;clear hK K
  exact H0 _ _ ⟨gr1_11,T,M⟩
 refine gi 2543 ?_;intro K hK
 refine Zoa M T Z Z Z Z ?_;clear M T;intro gr1_11 wc ac M T
 refine Zso hK _ _ (M.mask [false,true] Z) ?_;clear hK K
 refine gw 4 2559 ?_;intro K hK
 refine Zoc (first:=[]) (cap:=cap) T Z Z Z Z (T.e 8 Z) (.cons (T.e 5 Z) .nil) hF1 hF2 hF3 ?_
 refine Calls.mono (hF z (List.mem_of_getElem? hkz) _ M.below) ?_
 clear T;rintro e wc ⟨rfl,hb⟩ ac T
 replace M:=M.call hb;clear hb
 refine Zso hK _ _ (M.mask [false,true] Z) ?_;clear hK K
 exact H0 _ _ ⟨gr1_11,T.pick [1,0,2,3,4,5,6,7,8,9,10,11,12] Z,M⟩
theorem leaks1_any (x:L4) (c gc:Nat)  (w:World) (hc:c < 4) (q1:Bk w gc #[Zi (c:Int)])  :
  Calls Try.prog 104 #[.agg #[Zi x.a,Zi x.b,Zi x.c,Zi x.d],Zj gc] w fun e w'=>e=.returned (Zi (x.l.getD c 0))∧Below w.heap.size w w':=by
 refine Zpx noEx Try.func104 Z 7 Z [.agg #[Zi x.a,Zi x.b,Zi x.c,Zi x.d],Zj gc] Z Z (Mem.init w _) ?_
 intro ac wc T M
 refine Zsr ?_
 refine Zl2 ?_
 refine Zob M T Z Z Z Z (T.e 0 Z) Z ?_;clear M T;intro g1 wc ac M T
 refine lq T (Zra Z evc) ?_;intro ac T
 replace T:=T.pick [1,3] rfl
 refine Zln ?_
 refine Zsr ?_
 refine Zg4 (v2:=(.pointer (some ((⟨g1,0,none⟩:Addr).add (c * 1))))) (v3:=(Zi (x.l.getD c 0))) T (Zq (Zro (Mem.old M q1 (fun h=>h)) Z (T.e 1 Z) Z)) Z (fun _ T=>Zq (rn_indexG (size:=1) c Z (T.e 1 Z) (T.e 0 Z) Z Try.underlying109 (by kernel_rfl) (by omega))) Z (fun _ T=>Zq (rn_cell (l4At (M.nth 0 Z) (by omega)) Z (T.e 0 Z))) Z (Za 0 Z Z) Z ?_;intro ac T
 refine wpList_nil ?_
 replace T:=T.pick [0] rfl
 replace M:=M.mask [false] rfl
 refine Znr ?_
 refine rt_1 T Z (T.e 0 Z) ?_
 exact ⟨rfl,M.below⟩
theorem leak1_any (x:L4) (G:Option Addr) (n:Nat) (g:List Int) (ga:Nat)  (w:World) (hxx:x.ok) (hG:Rd w w.heap.size 1 G g.length (ic g)) (nG:g.length≤1000) (hgrl:∀ c∈g,0≤c∧c < 4) (q1:Bk w ga #[.slice G g.length n])  :
  Calls Try.prog 106 #[.agg #[Zi x.a,Zi x.b,Zi x.c,Zi x.d],Zj ga] w fun e w'=>e=.returned (Zi (totL x.l g))∧Below w.heap.size w w':=by
 obtain ⟨bG,oG,SG⟩:=Sp.old hG
 refine Zpx noEx Try.func106 Z 7 Z [.agg #[Zi x.a,Zi x.b,Zi x.c,Zi x.d],Zj ga] Z Z (Mem.init w _) ?_
 intro ac wc T M
 refine Zsr ?_
 refine Zl2 ?_
 refine Zob M T Z Z Z Z (T.e 0 Z) Z ?_;clear M T;intro g1 wc ac M T
 refine lq T (Zra Z evc) ?_;intro ac T
 replace T:=T.pick [1,3] rfl
 refine Zln ?_
 refine Zsr ?_
 refine Zg2 T (Zq (Zrr (Mem.nth M 0 Z) Z (T.e 0 Z) Z)) Z (fun _ T=>Zq (Zro (Mem.old M q1 (fun h=>h)) Z (T.e 2 Z) Z)) Z ?_;intro ac T
 refine Zl2 ?_
 refine Zod T Z Z Z Z evf (.cons (T.e 1 Z) (.cons (T.e 0 Z) .nil)) Try.func79 Z Z ?_
 refine Calls.mono (total_any x G n g _ hxx (SG.rd M (Zz9 _)) (by omega) hgrl) ?_
 clear T;rintro e wc ⟨rfl,hb⟩ ac T
 replace M:=M.call hb;clear hb
 refine lq T (Zra Z (T.e 0 Z)) ?_;intro ac T
 refine wpList_nil ?_
 replace T:=T.pick [0] rfl
 replace M:=M.mask [false] rfl
 refine Znr ?_
 refine rt_1 T Z (T.e 0 Z) ?_
 exact ⟨rfl,M.below⟩
theorem maxS_any (G:Option Addr) (n:Nat) (g:List Int)  (w:World) (hG:Rd w w.heap.size 1 G g.length (ic g)) (nG:g.length≤1000000) (h0:0 < g.length)  :
   Calls Try.prog 107 #[.slice G g.length n] w fun e w'=>e=.returned (Zi ((spn g).2))∧Below w.heap.size w w':=by
 obtain ⟨bG,oG,SG⟩:=Sp.old hG
 obtain ⟨z,hkz,-⟩:=ic_next (l:=g) (k:=0) h0
 have hz9:spn g=spnI (z,z) g:=by unfold spn;rw [List.getD_eq_getElem?_getD,hkz];rfl
 refine Zpx noEx Try.func107 Z 25 Z [.slice G g.length n] Z Z (Mem.init w _) ?_
 intro ac wc T M
 refine Zsr ?_
 refine lq T (Zra Z evc) ?_;intro ac T
 replace T:=T.pick [1] rfl
 refine Zln ?_
 refine wp_seq ?_
 refine Zsr ?_
 refine Zg3 T (Zq (Zrm Z (T.e 0 Z))) Z (Zl Try.underlying28 0 Z Z) Z (fun _ T=>Zq (rn_lss Z (T.e 0 Z) evc)) Z ?_;intro ac T
 replace T:=T.pick [0,3] rfl
 refine Zln ?_
 refine wp_if (T.e 0 Z) ?_ ?_
 ·intro h1
  exfalso
  omega
 intro h1
 refine Zsk ?_
 refine Zsr ?_
 refine Zg4 T (Zq (Zrm Z (T.e 1 Z))) Z (fun _ T=>Zq (Zri (size:=1) 0 Z (T.e 0 Z) evc ⟨_,Try.underlying28,by kernel_rfl⟩ Z (by omega) (SG.at0 (by omega)))) Z (fun _ T=>Zq (rn_cell (Sp.ic0 SG M (Zz9 _) hkz) Z (T.e 0 Z))) Z (Za 0 Z Z) Z ?_;intro ac T
 replace T:=T.pick [0,5] rfl
 refine Zln ?_
 refine wp_seq ?_
 refine Zsr ?_
 refine lq T (Zra Z evc) ?_;intro ac T
 refine Zln ?_
 refine wp_block ?_
 refine wp_loop_n (fun mz ac wc=>∃ (k:Nat) (m9:Int),mz=g.length - k∧(1≤k∧k≤g.length)∧(m9=(spnI (z,z) (g.take k)).2)∧Tm ac 25 [(0,.slice G g.length n),(3,Zi m9),(4,Zi (k:Int))]∧Mem w noEx wc []) ?_ ?_
 ·exact ⟨_,1,z,Z,(by omega),(by rw [List.take_add_one (i:=0),hkz];simp [spnI]),T.pick [2,1,0] Z,M.mask [] Z⟩
 clear T M
 rintro mz ac wc ⟨k,m9,hmm1,hk,H,T,M⟩
 refine wp_seq ?_
 refine Zsr ?_
 refine Zg4 T (Zq (Zrm Z (T.e 2 Z))) Z (Zm 1 Z Z) Z (Zl Try.underlying28 0 Z Z) Z (fun _ T=>Zq (rn_lss Z (T.e 2 Z) (T.e 0 Z))) Z ?_;intro ac T
 replace T:=T.pick [0,4,5,6] rfl
 refine Zln ?_
 refine wp_if (T.e 0 Z) ?_ ?_
 ·intro h2
  obtain ⟨y,hky,-⟩:=ic_next (l:=g) (k:=k) (by omega)
  have hsc:=spnI_succ (x0:=(z,z)) hky
  refine Zsk ?_
  refine wp_seq ?_
  refine wp_block ?_
  refine wp_region_lit ?_
  refine Zg6 T (Zq (Zrm Z (T.e 2 Z))) Z (Zm 2 Z Z) Z (Zm 5 Z Z) Z (fun _ T=>Zq (Zri (size:=1) k Z (T.e 1 Z) (T.e 0 Z) ⟨_,Try.underlying28,by kernel_rfl⟩ Z (by omega) (SG.at0 (by omega)))) Z (fun _ T=>Zq (rn_cell (Sp.ic0 SG M (Zz9 _) hky) Z (T.e 0 Z))) Z (fun _ T=>Zq (rn_max2 Z (T.e 4 Z) (T.e 0 Z))) Z ?_;intro ac T
  refine l_q (v:=(Zi (max m9 y))) (T.pick [0,1,2,3,4,5,6,7,9] Z) Z Z Z Z (Zra Z (T.e 0 Z)) ?_;intro ac T
  refine wpList_nil ?_
  replace T:=T.pick [0,8,9] rfl
  refine Znb ?_
  refine nm_then ?_
  refine wp_region_lit ?_
  refine Zg2 T (Zq (Zrm Z (T.e 2 Z))) Z (fun _ T=>Zq (rn_add Z (T.e 0 Z) evc (by omega))) Z ?_;intro ac T
  refine l_q (v:=(Zi ((k:Int)+1))) (T.pick [0,1,2,3] Z) Z Z Z Z (Zra Z (T.e 0 Z)) ?_;intro ac T
  replace T:=T.pick [0,3,4] rfl
  refine Zln ?_
  exact ⟨_,by omega,k+1,(max m9 y),Z,(by omega),(by rw [hsc,H]),T.pick [2,1,0] Z,M.mask [] Z⟩
 intro h2
 rw [List.take_of_length_le (by omega)] at H
 refine wp_exit ?_
 refine Zet ?_
 refine Zet ?_
 refine ex_hit ?_
 refine nm_then ?_
 refine Zsr ?_
 refine Zg2 T (Zq (Zrm Z (T.e 2 Z))) Z (Za 0 Z Z) Z ?_;intro ac T
 replace T:=T.pick [0] rfl
 refine Zln ?_
 refine wp_ret ?_
 refine rt_1 T Z (T.e 0 Z) ?_
 rw [hz9,← H]
 exact ⟨rfl,M.below⟩
theorem maxS_len (G:Option Addr) (n m:Nat) (g:List Int) (w:World) (hm:g.length=m) (hG:Rd w w.heap.size 1 G m (ic g)) (nG:m≤1000000) (h0:0 < m):Calls Try.prog 107 #[.slice G m n] w fun e w'=>e=.returned (Zi (spn g).2)∧Below w.heap.size w w':=by
 subst hm
 exact maxS_any G n g w hG nG h0
theorem L4.take_len {x:L4} {n:Nat} (h:n≤4):(x.l.take n).length=n:=by
 rw [List.length_take]
 exact Nat.min_eq_left h
set_option maxHeartbeats 4000000 in
theorem Leaks_any {J:Nat→Option Obj} (hP:FuncsOk Try.prog) (b:Bw) (A:Option Addr) (c:Nat) (D:Option Addr) (d:Nat)  (w:World) (hA:Rd w w.heap.size 2 A b.cs.length (rc b.cs)) (hD:Rd w w.heap.size 4 D b.ts.length (lkc b.ts)) (hop:∀ t∈b.ts,Rd w w.heap.size 1 t.A t.op.length (ic t.op)) (nA:b.cs.length≤1000) (nD:b.ts.length≤1000) (nop:∀ t∈b.ts,t.op.length≤1000)  :
   CallsB Try.prog J 52 #[.agg #[Zi b.full,Zi b.a0,Zi b.a1,.slice A b.cs.length c,.slice D b.ts.length d]] w (RsEPost (leksL b) (knownE b []) w):=by
 obtain ⟨bA,oA,SA⟩:=Sp.old hA
 obtain ⟨bD,oD,SD⟩:=Sp.old hD
 refine px_enterB hP noEx Try.func52 Z 30 Z [.agg #[Zi b.full,Zi b.a0,Zi b.a1,.slice A b.cs.length c,.slice D b.ts.length d]] Z Z (Mem.init w _) ?_
 intro ac wc T M
 refine wpB_seq hP ?_
 refine b_lone hP w fun T9=>?_
 replace M:=M.tp T9 0 0
 replace SA:=SA.tp T9 0
 replace SD:=SD.tp T9 0
 refine wp_region_lit ?_
 refine Zl2 ?_
 refine Zob M T Z Z Z Z (T.e 0 Z) Z ?_;clear M T;intro g1 wc ac M T
 refine Zg2 T (Zq (Zra Z evc)) Z (Zc Z) Z ?_;intro ac T
 refine wpList_nil ?_
 refine nqR_n M ?_;clear M;intro wc M
 replace SA:=SA.pt
 replace SD:=SD.pt
 replace T:=T.pick [2] rfl
 refine nm_then ?_
 refine wpB_seq hP ?_
 refine rB_preN hP w 1 (by decide) fun T9=>?_
 replace M:=M.tp T9 0 0
 replace SA:=SA.tp T9 0
 replace SD:=SD.tp T9 0
 refine lq T (Zrr (Mem.nth M 0 Z) Z (T.e 0 Z) Z) ?_;intro ac T
 refine wpList_nil ?_
 refine pqR_n M ?_;clear M;intro wc M
 replace SA:=SA.pt
 replace SD:=SD.pt
 refine rB_call hP (m:=5) (first:=[]) (cap:=[]) T Z Z Z Z Z evf (.cons (T.e 0 Z) (.cons evc .nil)) Try.func77 Z Z (known_any hP b A c D d none 0 [] _ (SA.rd M (Zz9 _)) (SD.rd M (Zz9 _)) (fun t ht=>M.rd (hop t ht) (Nat.le_refl _)) nA nD nop (⟨by simp [ic],fun h=>absurd h (by simp)⟩) (by first | omega | simp)) ?_
 clear T
 rintro e wc ⟨Aku1,cku1,Iku1,rfl,hcku1,N⟩
 refine ⟨_,Z,?_⟩
 intro ac T
 obtain ⟨lku1,hlku1⟩:∃ q,q=knownL b []:=⟨_,rfl⟩
 obtain ⟨eku1,heku1⟩:∃ q,q=knownE b []:=⟨_,rfl⟩
 rw [← hlku1] at hcku1 T
 rw [← heku1] at T
 obtain ⟨bku1,oku1,hSku1⟩:=hcku1.spV (l4c_length _)
 have SLku1:=hSku1 w noEx
 clear hSku1
 replace M:=(M.join N).swapI
 clear N
 replace M:Mem w noEx wc ((g1,.cells [Zi b.full,Zi b.a0,Zi b.a1,.slice A b.cs.length c,.slice D b.ts.length d])::Iku1):=M
 refine rB_moreN hP w 5 0 Z (by decide) fun T9=>?_
 replace M:=M.tp T9 0 0
 replace SA:=SA.tp T9 0
 replace SD:=SD.tp T9 0
 replace SLku1:=SLku1.tp T9 0
 refine Zg5 T (Zq (Zrm Z (T.e 0 Z))) Z (Ze 0 Z Z Z) Z (Ze 1 Z Z Z) Z (Za 1 Z Z) Z (Za 1 Z Z) Z ?_;intro ac T
 refine wpList_nil ?_
 refine pqR_n M ?_;clear M;intro wc M
 replace SA:=SA.pt
 replace SD:=SD.pt
 replace SLku1:=SLku1.pt
 refine rB_nil hP ?_
 replace T:=T.pick [0,1,7] rfl
 refine nm_then ?_
 refine b_lone hP w fun T9=>?_
 replace M:=M.tp T9 0 0
 replace SA:=SA.tp T9 0
 replace SD:=SD.tp T9 0
 replace SLku1:=SLku1.tp T9 0
 generalize hw9:Bq.tp w T9 0=w at M SA SD SLku1
 generalize Bq.tp wc T9 0=wc at M ⊢
 refine wp_seq ?_
 refine Zsr ?_
 refine Zg2 T (Zq (Zrm Z (T.e 0 Z))) Z (fun _ T=>Zq (rn_neq Z (T.e 0 Z) evc)) Z ?_;intro ac T
 replace T:=T.pick [0,2,3,4] rfl
 refine Zln ?_
 refine wp_ifn (T.e 0 Z) ?_ ?_
 ·intro h1
  refine Zsr ?_
  refine Zg3 T (Zq (Zrm Z (T.e 1 Z))) Z (Zc Z) Z (Za 1 Z Z) Z ?_;intro ac T
  refine wpList_nil ?_
  replace T:=T.pick [0,1] rfl
  replace M:=M.mask [false] rfl
  refine Znr ?_
  refine Zrt ?_
  subst hw9
  refine nqR_r M ?_;clear M;intro wc M
  refine rt_2 T Z (T.e 1 Z) (T.e 0 Z) ?_
  have hke:knownE b []≠0:=by rw [← heku1];omega
  have e9:leksL b=[]∧knownE b []=eku1:=⟨by unfold leksL;rw [if_pos hke],heku1.symm⟩
  rw [e9.1,e9.2]
  exact ⟨none,0,[],Z,Nat.le_refl _,⟨0,0,fun w1 ex=>Sp.nil⟩,M.sub (Zz9 _)⟩
 intro h1
 have hke:knownE b []=0:=by rw [← heku1];omega
 obtain ⟨hgood,-,hlt,hl4,hlp,hln⟩:=known_ok nop hke
 rw [← hlku1] at hlt hl4 hlp hln
 have h4:=hgood.n4
 refine Zsk ?_
 refine Zsr ?_
 refine lq T (Zra Z evc) ?_;intro ac T
 replace T:=T.pick [0,3,4] rfl
 refine Zln ?_
 refine wp_seq ?_
 refine Zsr ?_
 refine Zg4 (v1:=(.pointer (some ⟨g1,3,none⟩))) T (Zq (Zrg 3 Z (T.e 2 Z))) Z (Zo M 0 0 Z Z Z Z) Z (Zl Try.underlying24 0 Z Z) Z (fun _ T=>Zq (Zrm Z evc)) Z ?_;intro ac T
 refine wpList_nil ?_
 replace T:=T.pick [0,1,4,5] rfl
 replace M:=M.mask [false] rfl
 refine nm_then ?_
 refine wp_block ?_
 refine wp_loop_n (fun mz ac wc=>∃ (k:Nat) (OL:List (Int×Int)) (A3:Option Addr) (c3:Nat) (Io:List (Nat×BA)),mz=b.cs.length - k∧(k≤b.cs.length)∧(OL=(List.range k).map (leakC lku1))∧(OL.length=k)∧(Sl 23 2 (.slice A3 OL.length c3) OL.length (rc OL) Io)∧Tm ac 30 [(4,.slice Aku1 lku1.length cku1),(6,.slice A3 OL.length c3),(18,Zi ((b.cs.length:Nat):Int)),(19,Zi (k:Int))]∧Mem w noEx wc ((Iku1++Io))) ?_ ?_
 ·exact ⟨_,0,[],none,0,[],Z,(Nat.zero_le _),Z,Z,(Sl.nil _ _),T.pick [3,2,1,0] Z,(by simp only [Zx4];exact M)⟩
 clear T M
 rintro mz ac wc ⟨k,OL,A3,c3,Io,hmm1,hk,hO,hOl,hsl,T,M⟩
 refine Zsr ?_
 refine lq T (rn_lss Z (T.e 3 Z) (T.e 2 Z)) ?_;intro ac T
 refine Zln ?_
 refine wp_seq ?_
 refine wp_if (T.e 0 Z) ?_ ?_
 ·intro h2
  refine Zsk ?_
  refine wp_seq ?_
  refine wp_block ?_
  refine Zsr ?_
  refine lq T (Zrm Z (T.e 4 Z)) ?_;intro ac T
  refine Zl2 ?_
  refine Zoa M T Z Z Z Z ?_;clear M T;intro g2 wc ac M T
  refine Zl2 ?_
  refine Zot M T Z Z (T.e 0 Z) (T.e 1 Z) Z .head Z Z ?_;clear M T;intro wc ac M T
  replace T:=T.pick [0,3,4,5,6] rfl
  refine Zln ?_
  refine wp_region_lit ?_
  refine Zg3 (v3:=(.func (.func 104) #[] #[Zj g2])) T (Zq (Zrm Z (T.e 2 Z))) Z (Zm 2 Z Z) Z (fun _ T=>Zq (rn_makeFunc Z .nil (.cons (T.e 2 Z) .nil))) Z ?_;intro ac T
  refine Zl2 ?_
  have q9:=M.nth 0 rfl
  refine Zod T Z Z Z Z evf (.cons (T.e 1 Z) (.cons (T.e 0 Z) .nil)) Try.func103 Z Z ?_
  refine Calls.mono (spanL_any 104 _ [Zj g2] (fun x=>x.l.getD k 0) lku1 Aku1 cku1 _ (SLku1.rd M (.cons _ (subL (List.Sublist.refl _)))) (by omega) hlp Try.func104 Z Z (fun x hx w1 hb1=>leaks1_any x k g2 w1 (by omega) (q9.below hb1))) ?_
  clear T;rintro e wc ⟨rfl,hb⟩ ac T
  replace M:=M.call hb;clear hb
  obtain ⟨spu2,hspu2⟩:∃ q,q=spn (lku1.map fun x=>x.l.getD k 0):=⟨_,rfl⟩
  skip
  refine Zl2 ?_
  refine ow_bs (e:=23) [Zi ((spn (lku1.map fun x=>x.l.getD k 0)).1),Zi ((spn (lku1.map fun x=>x.l.getD k 0)).2)] M T Z Z Z Z (.cons (T.e 0 Z) .nil) (fun _=>by kernel_rfl) ?_;clear M T;intro g3 wc ac M T
  refine Zl2 ?_
  refine ow_app (((g3,.cells [Zi ((spn (lku1.map fun x=>x.l.getD k 0)).1),Zi ((spn (lku1.map fun x=>x.l.getD k 0)).2)])::(g2,.cells [Zi (k:Int)])::Iku1)) Try.info23 hsl M (by first | rfl | simp) T Z Z Z Z Try.underlying24 Z Z Z (by omega) (T.e 4 Z) (T.e 0 Z) (Zne (i:=0) Z) Z Z ?_;clear M T;intro ga1 cga1 wc ac M T
  refine l_q (v:=(.slice (some ⟨ga1,0,none⟩) (OL.length+1) cga1)) (T.pick [0,1,2,3,4,5,6,7,9,10] Z) Z Z Z Z (Zra Z (T.e 0 Z)) ?_;intro ac T
  refine wpList_nil ?_
  replace T:=T.pick [0,8,9,10] rfl
  replace M:=M.mask [true,false,false] rfl
  refine Znb ?_
  refine nm_then ?_
  refine wp_region_lit ?_
  refine lq T (rn_add Z (T.e 3 Z) evc (by omega)) ?_;intro ac T
  refine l_q (v:=(Zi ((k:Int)+1))) (T.pick [0,1,2,3] Z) Z Z Z Z (Zrm Z (T.e 0 Z)) ?_;intro ac T
  replace T:=T.pick [0,2,3,4] rfl
  refine Zln ?_
  have e9:OL.length+1=(OL++[((spn (lku1.map fun x=>x.l.getD k 0)).1,(spn (lku1.map fun x=>x.l.getD k 0)).2)]).length:=by simp
  have e8:((rc OL)++[Zi ((spn (lku1.map fun x=>x.l.getD k 0)).1),Zi ((spn (lku1.map fun x=>x.l.getD k 0)).2)])=rc (OL++[((spn (lku1.map fun x=>x.l.getD k 0)).1,(spn (lku1.map fun x=>x.l.getD k 0)).2)]):=by rw [← rc_snoc]
  rw [e9,e8] at M
  rw [e9] at T
  clear e9 e8
  exact ⟨_,by omega,k+1,(OL++[((spn (lku1.map fun x=>x.l.getD k 0)).1,(spn (lku1.map fun x=>x.l.getD k 0)).2)]),_,_,[(ga1,.row 23 2 (OL++[((spn (lku1.map fun x=>x.l.getD k 0)).1,(spn (lku1.map fun x=>x.l.getD k 0)).2)]).length (rc (OL++[((spn (lku1.map fun x=>x.l.getD k 0)).1,(spn (lku1.map fun x=>x.l.getD k 0)).2)])) cga1)],Z,(by omega),(by rw [mapR_succ,← hO];rfl),(by simp [hOl]),(Sl.row _ _ _ _ _ _),T.pick [2,1,3,0] Z,(Mem.swapI (I:=[(ga1,.row 23 2 (OL++[((spn (lku1.map fun x=>x.l.getD k 0)).1,(spn (lku1.map fun x=>x.l.getD k 0)).2)]).length (rc (OL++[((spn (lku1.map fun x=>x.l.getD k 0)).1,(spn (lku1.map fun x=>x.l.getD k 0)).2)])) cga1)]) (L:=(Iku1)) (M.permT [0] 1 Z Z Z Z))⟩
 intro h2
 obtain rfl:k=b.cs.length:=by omega
 refine wp_exit ?_
 refine Zet ?_
 refine Zet ?_
 refine ex_hit ?_
 refine nm_then ?_
 refine Zsr ?_
 refine Zg3 T (Zq (Zrm Z (T.e 2 Z))) Z (Za 0 Z Z) Z (Zc Z) Z ?_;intro ac T
 replace T:=T.pick [0,1] rfl
 refine Zln ?_
 refine wp_ret ?_
 subst hw9
 refine nqR_r M ?_;clear M;intro wc M
 refine rt_2 T Z (T.e 1 Z) (T.e 0 Z) ?_
 have e9:leksL b=OL:=by unfold leksL;rw [if_neg (by omega),hO,hlt]
 rw [hke,e9]
 have hcap:=hsl.capLe M (Zsq _ _)
 exact ⟨A3,c3,Io,Z,hcap,hsl.spV (rc_length _),M.sub ((Zsq _ _))⟩
set_option maxHeartbeats 4000000 in
theorem Leak_any {J:Nat→Option Obj} (hP:FuncsOk Try.prog) (b:Bw) (A:Option Addr) (c:Nat) (D:Option Addr) (d:Nat)  (w:World) (hA:Rd w w.heap.size 2 A b.cs.length (rc b.cs)) (hD:Rd w w.heap.size 4 D b.ts.length (lkc b.ts)) (hop:∀ t∈b.ts,Rd w w.heap.size 1 t.A t.op.length (ic t.op)) (nA:b.cs.length≤1000) (nD:b.ts.length≤1000) (nop:∀ t∈b.ts,t.op.length≤1000)  :
   CallsB Try.prog J 54 #[.agg #[Zi b.full,Zi b.a0,Zi b.a1,.slice A b.cs.length c,.slice D b.ts.length d]] w fun e w'=>e=.returned (.tuple #[.agg #[Zi ((lekR b).1),Zi ((lekR b).2)],Zi (knownE b [])])∧Below w.heap.size w w':=by
 obtain ⟨bA,oA,SA⟩:=Sp.old hA
 obtain ⟨bD,oD,SD⟩:=Sp.old hD
 refine px_enterB hP noEx Try.func54 Z 21 Z [.agg #[Zi b.full,Zi b.a0,Zi b.a1,.slice A b.cs.length c,.slice D b.ts.length d]] Z Z (Mem.init w _) ?_
 intro ac wc T M
 refine wpB_seq hP ?_
 refine b_lone hP w fun T9=>?_
 replace M:=M.tp T9 0 0
 replace SA:=SA.tp T9 0
 replace SD:=SD.tp T9 0
 refine wp_region_lit ?_
 refine Zl2 ?_
 refine Zob M T Z Z Z Z (T.e 0 Z) Z ?_;clear M T;intro g1 wc ac M T
 refine Zl2 ?_
 refine Zoa M T Z Z Z Z ?_;clear M T;intro g2 wc ac M T
 refine lq T (Zra Z evc) ?_;intro ac T
 refine wpList_nil ?_
 refine nqR_n M ?_;clear M;intro wc M
 replace SA:=SA.pt
 replace SD:=SD.pt
 replace T:=T.pick [1,2] rfl
 refine nm_then ?_
 refine wpB_seq hP ?_
 refine rB_preN hP w 1 (by decide) fun T9=>?_
 replace M:=M.tp T9 0 0
 replace SA:=SA.tp T9 0
 replace SD:=SD.tp T9 0
 refine lq T (Zrr (Mem.nth M 1 Z) Z (T.e 1 Z) Z) ?_;intro ac T
 refine wpList_nil ?_
 refine pqR_n M ?_;clear M;intro wc M
 replace SA:=SA.pt
 replace SD:=SD.pt
 refine rB_call hP (m:=5) (first:=[]) (cap:=[]) T Z Z Z Z Z evf (.cons (T.e 0 Z) (.cons evc .nil)) Try.func77 Z Z (known_any hP b A c D d none 0 [] _ (SA.rd M (Zz9 _)) (SD.rd M (Zz9 _)) (fun t ht=>M.rd (hop t ht) (Nat.le_refl _)) nA nD nop (⟨by simp [ic],fun h=>absurd h (by simp)⟩) (by first | omega | simp)) ?_
 clear T
 rintro e wc ⟨Aku1,cku1,Iku1,rfl,hcku1,N⟩
 refine ⟨_,Z,?_⟩
 intro ac T
 obtain ⟨lku1,hlku1⟩:∃ q,q=knownL b []:=⟨_,rfl⟩
 obtain ⟨eku1,heku1⟩:∃ q,q=knownE b []:=⟨_,rfl⟩
 rw [← hlku1] at hcku1 T
 rw [← heku1] at T
 obtain ⟨bku1,oku1,hSku1⟩:=hcku1.spV (l4c_length _)
 have SLku1:=hSku1 w noEx
 clear hSku1
 replace M:=(M.join N).swapI
 clear N
 replace M:Mem w noEx wc ((g2,.cells [Zi 0,Zi 0])::(g1,.cells [Zi b.full,Zi b.a0,Zi b.a1,.slice A b.cs.length c,.slice D b.ts.length d])::Iku1):=M
 refine rB_moreN hP w 5 0 Z (by decide) fun T9=>?_
 replace M:=M.tp T9 0 0
 replace SA:=SA.tp T9 0
 replace SD:=SD.tp T9 0
 replace SLku1:=SLku1.tp T9 0
 refine Zg5 T (Zq (Zrm Z (T.e 0 Z))) Z (Ze 0 Z Z Z) Z (Ze 1 Z Z Z) Z (Za 1 Z Z) Z (Za 1 Z Z) Z ?_;intro ac T
 refine wpList_nil ?_
 refine pqR_n M ?_;clear M;intro wc M
 replace SA:=SA.pt
 replace SD:=SD.pt
 replace SLku1:=SLku1.pt
 refine rB_nil hP ?_
 replace T:=T.pick [0,1,7,8] rfl
 refine nm_then ?_
 refine b_lone hP w fun T9=>?_
 replace M:=M.tp T9 0 0
 replace SA:=SA.tp T9 0
 replace SD:=SD.tp T9 0
 replace SLku1:=SLku1.tp T9 0
 generalize hw9:Bq.tp w T9 0=w at M SA SD SLku1
 generalize Bq.tp wc T9 0=wc at M ⊢
 refine wp_seq ?_
 refine Zsr ?_
 refine Zg2 T (Zq (Zrm Z (T.e 0 Z))) Z (fun _ T=>Zq (rn_neq Z (T.e 0 Z) evc)) Z ?_;intro ac T
 replace T:=T.pick [0,2,3,4,5] rfl
 refine Zln ?_
 refine wp_ifn (T.e 0 Z) ?_ ?_
 ·intro h1
  refine Zsr ?_
  refine Zg2 (v1:=(.agg #[Zi 0,Zi 0])) T (Zq (rn_build Z .nil (fun _=>by kernel_rfl))) Z (Zm 2 Z Z) Z ?_;intro ac T
  refine Zl2 ?_
  refine Zot M T Z Z (T.e 5 Z) (T.e 1 Z) Z .head Z Z ?_;clear M T;intro wc ac M T
  refine lq T (Zra Z (T.e 0 Z)) ?_;intro ac T
  refine wpList_nil ?_
  replace T:=T.pick [0,6] rfl
  replace M:=M.mask [true,false] rfl
  refine Znr ?_
  refine Zrt ?_
  subst hw9
  refine nqR_r M ?_;clear M;intro wc M
  refine rt_ct M T Z (T.e 1 Z) (T.e 0 Z) (Zne (i:=0) Z) Z ?_
  have hke:knownE b []≠0:=by rw [← heku1];omega
  have e9:lekR b=(0,0):=by unfold lekR;rw [if_pos hke]
  rw [e9,← heku1]
  exact ⟨rfl,M.below⟩
 intro h1
 have hke:knownE b []=0:=by rw [← heku1];omega
 obtain ⟨hgood,-,hlt,hl4,hlp,hln⟩:=known_ok nop hke
 rw [← hlku1] at hlt hl4 hlp hln
 have h4:=hgood.n4
 refine Zsk ?_
 refine Zsr ?_
 refine lq T (Zrr (Mem.nth M 1 Z) Z (T.e 4 Z) Z) ?_;intro ac T
 refine Zl2 ?_
 refine Zod T Z Z Z Z evf (.cons (T.e 0 Z) (.cons evc .nil)) Try.func78 Z Z ?_
 refine Calls.mono (corners_any b A c D d none 0 [] _ (by omega) ⟨by simp [ic],fun h=>absurd h (by simp)⟩ (by simp)) ?_
 clear T;rintro e wc ⟨Acu2,ccu2,Icu2,rfl,hclu2,N⟩ ac T
 obtain ⟨rlu2,hrlu2⟩:∃ q,q=cornL b.cs.length []:=⟨_,rfl⟩
 rw [← hrlu2] at hclu2 T
 have hnrlu2:rlu2.length≤b.cs.length:=by rw [hrlu2];exact cornL_len _ _
 have hgrlu2:∀ c∈rlu2,0≤c∧c < 4:=fun c hc=>by rw [hrlu2] at hc;have:=cornL_mem hc;omega
 obtain ⟨bRu2,oRu2,SRu2⟩:=hclu2.spV (by simp [ic_length])
 replace SRu2:=SRu2 w noEx
 replace M:=(M.join N).swapI
 clear N
 replace M:Mem w noEx wc ((g2,.cells [Zi 0,Zi 0])::(g1,.cells [Zi b.full,Zi b.a0,Zi b.a1,.slice A b.cs.length c,.slice D b.ts.length d])::(Iku1++Icu2)):=M
 refine Zl2 ?_
 refine Zoa M T Z Z Z Z ?_;clear M T;intro g3 wc ac M T
 refine Zl2 ?_
 refine Zot M T Z Z (T.e 0 Z) (T.e 1 Z) Z .head Z Z ?_;clear M T;intro wc ac M T
 refine wpList_nil ?_
 replace T:=T.pick [0,5,6] rfl
 replace M:=M.mask [true,true,false] rfl
 refine nm_then ?_
 refine Zsr ?_
 refine Zg2 (v2:=(.func (.func 106) #[] #[Zj g3])) T (Zq (Zrm Z (T.e 1 Z))) Z (fun _ T=>Zq (rn_makeFunc Z .nil (.cons (T.e 1 Z) .nil))) Z ?_;intro ac T
 refine Zl2 ?_
 have q9:=M.nth 0 rfl
 have hR9:=SRu2.rd M (.cons _ (.cons _ (Zsq _ _)))
 refine Zod T Z Z Z Z evf (.cons (T.e 1 Z) (.cons (T.e 0 Z) .nil)) Try.func103 Z Z ?_
 refine Calls.mono (spanL_any 106 _ [Zj g3] (fun x=>totL x.l rlu2) lku1 Aku1 cku1 _ (SLku1.rd M (.cons _ (.cons _ (subL (List.Sublist.refl _))))) (by omega) hlp Try.func106 Z Z (fun x hx w1 hb1=>leak1_any x Acu2 ccu2 rlu2 g3 w1 (hl4 x hx) ((hR9.below hb1).more hb1.size) (by omega) hgrlu2 (q9.below hb1))) ?_
 clear T;rintro e wc ⟨rfl,hb⟩ ac T
 replace M:=M.call hb;clear hb
 obtain ⟨spu3,hspu3⟩:∃ q,q=spn (lku1.map fun x=>totL x.l rlu2):=⟨_,rfl⟩
 skip
 refine Zl2 ?_
 refine Zot M T Z Z (T.e 5 Z) (T.e 0 Z) Z (.tail .head) Z Z ?_;clear M T;intro wc ac M T
 refine lq T (Zra Z evc) ?_;intro ac T
 refine wpList_nil ?_
 replace T:=T.pick [0,6] rfl
 replace M:=M.mask [false,true] rfl
 refine Znr ?_
 subst hw9
 refine nqR_r M ?_;clear M;intro wc M
 refine rt_ct M T Z (T.e 1 Z) (T.e 0 Z) (Zne (i:=0) Z) Z ?_
 have e9:lekR b=spn (lku1.map fun x=>totL x.l rlu2):=by unfold lekR;rw [if_neg (by omega),hlt,hrlu2]
 rw [hke,e9]
 exact ⟨rfl,M.below⟩
set_option maxHeartbeats 4000000 in
theorem Most_any {J:Nat→Option Obj} (hP:FuncsOk Try.prog) (b:Bw) (A:Option Addr) (c:Nat) (D:Option Addr) (d:Nat)  (w:World) (hA:Rd w w.heap.size 2 A b.cs.length (rc b.cs)) (hD:Rd w w.heap.size 4 D b.ts.length (lkc b.ts)) (hop:∀ t∈b.ts,Rd w w.heap.size 1 t.A t.op.length (ic t.op)) (nA:b.cs.length≤1000) (nD:b.ts.length≤1000) (nop:∀ t∈b.ts,t.op.length≤1000)  :
   CallsB Try.prog J 56 #[.agg #[Zi b.full,Zi b.a0,Zi b.a1,.slice A b.cs.length c,.slice D b.ts.length d]] w (LsEPost (mosL b) (knownE b []) w):=by
 obtain ⟨bA,oA,SA⟩:=Sp.old hA
 obtain ⟨bD,oD,SD⟩:=Sp.old hD
 refine px_enterB hP noEx Try.func56 Z 52 Z [.agg #[Zi b.full,Zi b.a0,Zi b.a1,.slice A b.cs.length c,.slice D b.ts.length d]] Z Z (Mem.init w _) ?_
 intro ac wc T M
 refine wpB_seq hP ?_
 refine b_lone hP w fun T9=>?_
 replace M:=M.tp T9 0 0
 replace SA:=SA.tp T9 0
 replace SD:=SD.tp T9 0
 refine wp_region_lit ?_
 refine Zl2 ?_
 refine Zob M T Z Z Z Z (T.e 0 Z) Z ?_;clear M T;intro g1 wc ac M T
 refine Zg2 T (Zq (Zra Z evc)) Z (Zc Z) Z ?_;intro ac T
 refine wpList_nil ?_
 refine nqR_n M ?_;clear M;intro wc M
 replace SA:=SA.pt
 replace SD:=SD.pt
 replace T:=T.pick [2] rfl
 refine nm_then ?_
 refine wpB_seq hP ?_
 refine rB_preN hP w 1 (by decide) fun T9=>?_
 replace M:=M.tp T9 0 0
 replace SA:=SA.tp T9 0
 replace SD:=SD.tp T9 0
 refine lq T (Zrr (Mem.nth M 0 Z) Z (T.e 0 Z) Z) ?_;intro ac T
 refine wpList_nil ?_
 refine pqR_n M ?_;clear M;intro wc M
 replace SA:=SA.pt
 replace SD:=SD.pt
 refine rB_call hP (m:=5) (first:=[]) (cap:=[]) T Z Z Z Z Z evf (.cons (T.e 0 Z) (.cons evc .nil)) Try.func77 Z Z (known_any hP b A c D d none 0 [] _ (SA.rd M (Zz9 _)) (SD.rd M (Zz9 _)) (fun t ht=>M.rd (hop t ht) (Nat.le_refl _)) nA nD nop (⟨by simp [ic],fun h=>absurd h (by simp)⟩) (by first | omega | simp)) ?_
 clear T
 rintro e wc ⟨Aku1,cku1,Iku1,rfl,hcku1,N⟩
 refine ⟨_,Z,?_⟩
 intro ac T
 obtain ⟨lku1,hlku1⟩:∃ q,q=knownL b []:=⟨_,rfl⟩
 obtain ⟨eku1,heku1⟩:∃ q,q=knownE b []:=⟨_,rfl⟩
 rw [← hlku1] at hcku1 T
 rw [← heku1] at T
 obtain ⟨bku1,oku1,hSku1⟩:=hcku1.spV (l4c_length _)
 have SLku1:=hSku1 w noEx
 clear hSku1
 replace M:=(M.join N).swapI
 clear N
 replace M:Mem w noEx wc ((g1,.cells [Zi b.full,Zi b.a0,Zi b.a1,.slice A b.cs.length c,.slice D b.ts.length d])::Iku1):=M
 refine rB_moreN hP w 5 0 Z (by decide) fun T9=>?_
 replace M:=M.tp T9 0 0
 replace SA:=SA.tp T9 0
 replace SD:=SD.tp T9 0
 replace SLku1:=SLku1.tp T9 0
 refine Zg5 T (Zq (Zrm Z (T.e 0 Z))) Z (Ze 0 Z Z Z) Z (Ze 1 Z Z Z) Z (Za 1 Z Z) Z (Za 1 Z Z) Z ?_;intro ac T
 refine wpList_nil ?_
 refine pqR_n M ?_;clear M;intro wc M
 replace SA:=SA.pt
 replace SD:=SD.pt
 replace SLku1:=SLku1.pt
 refine rB_nil hP ?_
 replace T:=T.pick [0,1,7] rfl
 refine nm_then ?_
 refine b_lone hP w fun T9=>?_
 replace M:=M.tp T9 0 0
 replace SA:=SA.tp T9 0
 replace SD:=SD.tp T9 0
 replace SLku1:=SLku1.tp T9 0
 generalize hw9:Bq.tp w T9 0=w at M SA SD SLku1
 generalize Bq.tp wc T9 0=wc at M ⊢
 refine wp_seq ?_
 refine Zsr ?_
 refine Zg2 T (Zq (Zrm Z (T.e 0 Z))) Z (fun _ T=>Zq (rn_neq Z (T.e 0 Z) evc)) Z ?_;intro ac T
 replace T:=T.pick [0,2,3,4] rfl
 refine Zln ?_
 refine wp_ifn (T.e 0 Z) ?_ ?_
 ·intro h1
  refine Zsr ?_
  refine Zg3 T (Zq (Zrm Z (T.e 1 Z))) Z (Zc Z) Z (Za 1 Z Z) Z ?_;intro ac T
  refine wpList_nil ?_
  replace T:=T.pick [0,1] rfl
  replace M:=M.mask [false] rfl
  refine Znr ?_
  refine Zrt ?_
  subst hw9
  refine nqR_r M ?_;clear M;intro wc M
  refine rt_2 T Z (T.e 1 Z) (T.e 0 Z) ?_
  have hke:knownE b []≠0:=by rw [← heku1];omega
  have e9:mosL b=[]∧knownE b []=eku1:=⟨by unfold mosL;rw [if_pos hke],heku1.symm⟩
  rw [e9.1,e9.2]
  exact ⟨none,0,[],Z,Nat.le_refl _,⟨0,0,fun w1 ex=>Sp.nil⟩,M.sub (Zz9 _)⟩
 intro h1
 have hke:knownE b []=0:=by rw [← heku1];omega
 obtain ⟨hgood,-,hlt,hl4,hlp,hln⟩:=known_ok nop hke
 rw [← hlku1] at hlt hl4 hlp hln
 have h4:=hgood.n4
 refine Zsk ?_
 refine Zsr ?_
 refine lq T (Zra Z evc) ?_;intro ac T
 replace T:=T.pick [0,3,4] rfl
 refine Zln ?_
 refine wp_seq ?_
 refine Zsr ?_
 refine Zg4 (v1:=(.pointer (some ⟨g1,3,none⟩))) T (Zq (Zrg 3 Z (T.e 2 Z))) Z (Zo M 0 0 Z Z Z Z) Z (Zl Try.underlying24 0 Z Z) Z (fun _ T=>Zq (Zrm Z evc)) Z ?_;intro ac T
 replace T:=T.pick [0,1,4,5,6] rfl
 refine Zln ?_
 refine wp_block ?_
 refine wp_loop_n (fun mz ac wc=>∃ (k:Nat) (OL:List Int) (A3:Option Addr) (c3:Nat) (Io:List (Nat×BA)),mz=b.cs.length - k∧(k≤b.cs.length)∧(OL=(List.range k).map fun k=>verd (mosN b.cs.length lku1 k:Int) (lku1.length:Int))∧(OL.length=k)∧(Sl 3 1 (.slice A3 OL.length c3) OL.length (ic OL) Io)∧Tm ac 52 [(1,Zj g1),(4,.slice Aku1 lku1.length cku1),(6,.slice A3 OL.length c3),(21,Zi ((b.cs.length:Nat):Int)),(22,Zi (k:Int))]∧Mem w noEx wc ((g1,.cells [Zi b.full,Zi b.a0,Zi b.a1,.slice A b.cs.length c,.slice D b.ts.length d])::(Iku1++Io))) ?_ ?_
 ·exact ⟨_,0,[],none,0,[],Z,(Nat.zero_le _),Z,Z,(Sl.nil _ _),T.pick [4,3,2,1,0] Z,(by simp only [Zx4];exact M)⟩
 clear T M
 rintro mz ac wc ⟨k,OL,A3,c3,Io,hmm1,hk,hO,hOl,hsl,T,M⟩
 refine Zsr ?_
 refine lq T (rn_lss Z (T.e 4 Z) (T.e 3 Z)) ?_;intro ac T
 refine Zln ?_
 refine wp_seq ?_
 refine wp_if (T.e 0 Z) ?_ ?_
 ·intro h2
  refine Zsk ?_
  refine wp_seq ?_
  refine wp_block ?_
  refine Zsr ?_
  refine Zg2 T (Zq (Zrm Z (T.e 5 Z))) Z (Za 0 Z Z) Z ?_;intro ac T
  replace T:=T.pick [0,3,4,5,6,7] rfl
  refine Zln ?_
  refine Zsr ?_
  refine lq T (Zra Z evc) ?_;intro ac T
  refine Zln ?_
  refine wp_seq ?_
  refine Zsr ?_
  refine Zg3 T (Zq (Zrm Z (T.e 3 Z))) Z (Zl Try.underlying104 0 Z Z) Z (fun _ T=>Zq (Zrm Z evc)) Z ?_;intro ac T
  refine Zln ?_
  refine wp_block ?_
  refine wp_loop_n (fun mz ac wc=>∃ (j:Nat) (n9:Int),mz=lku1.length - j∧(j≤lku1.length)∧(n9=(mosN b.cs.length (lku1.take j) k:Int))∧(0≤n9∧n9≤(j:Int))∧Tm ac 52 [(1,Zj g1),(4,.slice Aku1 lku1.length cku1),(6,.slice A3 OL.length c3),(7,Zi (k:Int)),(8,Zi n9),(21,Zi ((b.cs.length:Nat):Int)),(22,Zi (k:Int)),(25,.slice Aku1 lku1.length cku1),(26,Zi ((lku1.length:Nat):Int)),(27,Zi (j:Int))]∧Mem w noEx wc ((g1,.cells [Zi b.full,Zi b.a0,Zi b.a1,.slice A b.cs.length c,.slice D b.ts.length d])::(Iku1++Io))) ?_ ?_
  ·exact ⟨_,0,0,Z,(Nat.zero_le _),Z,(by omega),T.pick [5,6,7,4,3,8,9,2,1,0] Z,M.mask [true] Z⟩
  clear T M
  rintro mz ac wc ⟨j,n9,hmm2,hj,hn9,hnb,T,M⟩
  refine Zsr ?_
  refine lq T (rn_lss Z (T.e 9 Z) (T.e 8 Z)) ?_;intro ac T
  refine Zln ?_
  refine wp_seq ?_
  refine wp_if (T.e 0 Z) ?_ ?_
  ·intro h3
   obtain ⟨x,hkx,-⟩:=l4c_next (l:=lku1) (k:=j) (by omega)
   have hms:=mosN_succ (n:=b.cs.length) (k:=k) hkx
   refine Zsk ?_
   refine wp_seq ?_
   refine wp_block ?_
   refine Zsr ?_
   refine Zg2 (v2:=(.agg #[Zi x.a,Zi x.b,Zi x.c,Zi x.d])) T (Zq (Zri (size:=4) j Z (T.e 8 Z) (T.e 10 Z) ⟨_,Try.underlying104,by kernel_rfl⟩ Z (by omega) (SLku1.at0 (by omega)))) Z (fun _ T=>Zq (rn_rowat (Sp.l4cR SLku1 M (.cons _ (subL (List.Sublist.refl _))) hkx) Z (T.e 0 Z) Z)) Z ?_;intro ac T
   refine Zl2 ?_
   refine Zoa M T Z Z Z Z ?_;clear M T;intro g2 wc ac M T
   refine Zl2 ?_
   refine Zot M T Z Z (T.e 0 Z) (T.e 1 Z) Z .head Z Z ?_;clear M T;intro wc ac M T
   replace T:=T.pick [0,4,5,6,7,8,9,10,11,12,13] rfl
   refine Zln ?_
   refine wp_seq ?_
   refine Zgs M (M.mask [true,true] Z) 9 (by kernel_rfl) Z (by kernel_rfl) ?_
   clear M;intro wc M
   refine Zgq T 0 1 Z (fun _=>(Zrm Z (T.e 4 Z))) ?_;intro ac T
   refine Zgq (v:=(.pointer (some ((⟨g2,0,none⟩:Addr).add (k * 1))))) T 1 3 Z (fun _=>(rn_indexG (size:=1) k Z (T.e 1 Z) (T.e 0 Z) Z Try.underlying109 (by kernel_rfl) (by omega))) ?_;intro ac T
   refine gq (v:=(Zi (x.l.getD k 0))) T 2 7 Z (fun B w' hD hl hS=>(rn_cell (l4At (Mem.nth (show Mem w noEx w' _ from hS) 0 Z) (by omega)) Z (T.e 0 Z))) ?_;intro ac T
   refine Zgq (v:=(.pointer (some ⟨g1,3,none⟩))) T 3 15 Z (fun _=>(Zrg 3 Z (T.e 4 Z))) ?_;intro ac T
   refine gq T 4 31 Z (fun B w' hD hl hS=>(Zro (Mem.nth (show Mem w noEx w' _ from hS) 1 Z) Z (T.e 0 Z) Z)) ?_;intro ac T
   refine Zgq T 5 63 Z (fun _=>(Zrl Z Try.underlying24 (T.e 0 Z))) ?_;intro ac T
   refine Zgq (v:=(.slice (some ⟨g2,0,none⟩) b.cs.length 4)) T 6 127 Z (fun _=>(rn_sliceA (size:=1) (n:=4) (h:=b.cs.length) Z Try.underlying109 (by kernel_rfl) (T.e 6 Z) (T.e 0 Z) (by omega))) ?_;intro ac T
   refine gw 7 255 ?_;intro K hK
   have hmx9:=L4.take_len (x:=x) h4
   have hbk9:=M.nth 0 rfl
   have hrd9:=rdPre (cs:=ic x.l) (xs:=ic (x.l.take b.cs.length)) hbk9 (n:=b.cs.length) (by rw [ic_length];exact hmx9) (by unfold ic;exact (List.take_prefix _ _).map _)
   refine Zod T Z Z Z Z evf (.cons (T.e 0 Z) .nil) Try.func107 Z Z ?_
   refine Calls.mono (maxS_len (some ⟨g2,0,none⟩) 4 b.cs.length (x.l.take b.cs.length) _ hmx9 hrd9 (by omega) (by omega)) ?_
   clear T;rintro e wc ⟨rfl,hb⟩ ac T
   replace M:=M.call hb;clear hb
   refine Zso hK _ _ (M.mask [true,true] Z) ?_;clear hK K
   refine Zgq T 8 511 Z (fun _=>(rn_eql Z (T.e 5 Z) (T.e 0 Z))) ?_;intro ac T
   refine Zgd (by kernel_rfl) ?_
   replace T:=T.pick [0,10,11,12,13,14,15,16,17,18,19] rfl
   replace M:=M.mask [false,true] rfl
   refine nm_then ?_
   refine wp_if (T.e 0 Z) ?_ ?_
   ·intro h4
    refine wp_region_lit ?_
    refine Zg2 T (Zq (Zrm Z (T.e 5 Z))) Z (fun _ T=>Zq (rn_add Z (T.e 0 Z) evc (by omega))) Z ?_;intro ac T
    refine l_q (v:=(Zi (n9+1))) (T.pick [0,1,2,3,4,5,6,8,9,10,11,12] Z) Z Z Z Z (Zra Z (T.e 0 Z)) ?_;intro ac T
    refine wpList_nil ?_
    replace T:=T.pick [0,4,5,6,7,8,9,10,11,12] rfl
    refine Znb ?_
    refine nm_then ?_
    refine wp_region_lit ?_
    refine lq T (rn_add Z (T.e 9 Z) evc (by omega)) ?_;intro ac T
    refine l_q (v:=(Zi ((j:Int)+1))) (T.pick [0,1,2,3,4,5,6,7,8,9] Z) Z Z Z Z (Zrm Z (T.e 0 Z)) ?_;intro ac T
    replace T:=T.pick [0,2,3,4,5,6,7,8,9,10] rfl
    refine Zln ?_
    exact ⟨_,by omega,j+1,(n9+1),Z,(by omega),(by rw [hms];first | (rw [if_pos (by assumption)];push_cast;omega) | (rw [if_neg (by assumption)];push_cast;omega)),(by omega),T.pick [2,3,4,5,1,6,7,8,9,0] Z,(M.mask [true] Z)⟩
   intro h4
   refine wp_skip ?_
   refine Znb ?_
   refine nm_then ?_
   refine wp_region_lit ?_
   refine lq T (rn_add Z (T.e 10 Z) evc (by omega)) ?_;intro ac T
   refine l_q (v:=(Zi ((j:Int)+1))) (T.pick [0,1,2,3,4,5,6,7,8,9,10] Z) Z Z Z Z (Zrm Z (T.e 0 Z)) ?_;intro ac T
   replace T:=T.pick [0,3,4,5,6,7,8,9,10,11] rfl
   refine Zln ?_
   exact ⟨_,by omega,j+1,n9,Z,(by omega),(by rw [hms];first | (rw [if_pos (by assumption)];push_cast;omega) | (rw [if_neg (by assumption)];push_cast;omega)),(by omega),T.pick [1,2,3,4,5,6,7,8,9,0] Z,(M.mask [true] Z)⟩
  intro h3
  rw [List.take_of_length_le (by omega)] at hn9
  refine wp_exit ?_
  refine Zet ?_
  refine Zet ?_
  refine ex_hit ?_
  refine nm_then ?_
  refine wp_region_lit ?_
  refine Zg4 T (Zq (Zrm Z (T.e 3 Z))) Z (Zm 6 Z Z) Z (Zm 4 Z Z) Z (Zl Try.underlying104 0 Z Z) Z ?_;intro ac T
  refine Zl2 ?_
  refine Zod T Z Z Z Z evf (.cons (T.e 2 Z) (.cons (T.e 0 Z) .nil)) Try.func108 Z Z ?_
  refine Calls.mono (verdict_any n9 ((lku1.length:Nat):Int) _) ?_
  clear T;rintro e wc ⟨rfl,hb⟩ ac T
  replace M:=M.call hb;clear hb
  refine Zl2 ?_
  refine ow_bs (e:=3) [Zi (verd n9 ((lku1.length:Nat):Int))] M T Z Z Z Z (.cons (T.e 0 Z) .nil) (fun _=>by kernel_rfl) ?_;clear M T;intro g3 wc ac M T
  refine Zl2 ?_
  refine ow_app (((g3,.cells [Zi (verd n9 ((lku1.length:Nat):Int))])::(g1,.cells [Zi b.full,Zi b.a0,Zi b.a1,.slice A b.cs.length c,.slice D b.ts.length d])::Iku1)) Try.info3 hsl M (by first | rfl | simp) T Z Z Z Z Try.underlying28 Z Z Z (by omega) (T.e 5 Z) (T.e 0 Z) (Zne (i:=0) Z) Z Z ?_;clear M T;intro ga1 cga1 wc ac M T
  refine l_q (v:=(.slice (some ⟨ga1,0,none⟩) (OL.length+1) cga1)) (T.pick [0,1,2,3,4,5,6,7,8,9,11,12,13,14,15,16,17] Z) Z Z Z Z (Zra Z (T.e 0 Z)) ?_;intro ac T
  refine wpList_nil ?_
  replace T:=T.pick [0,9,10,13,14] rfl
  replace M:=M.mask [true,false,true] rfl
  refine Znb ?_
  refine nm_then ?_
  refine wp_region_lit ?_
  refine lq T (rn_add Z (T.e 4 Z) evc (by omega)) ?_;intro ac T
  refine l_q (v:=(Zi ((k:Int)+1))) (T.pick [0,1,2,3,4] Z) Z Z Z Z (Zrm Z (T.e 0 Z)) ?_;intro ac T
  replace T:=T.pick [0,2,3,4,5] rfl
  refine Zln ?_
  have e9:OL.length+1=(OL++[(verd n9 ((lku1.length:Nat):Int))]).length:=by simp
  have e8:((ic OL)++[Zi (verd n9 ((lku1.length:Nat):Int))])=ic (OL++[(verd n9 ((lku1.length:Nat):Int))]):=by rw [← ic_snoc]
  rw [e9,e8] at M
  rw [e9] at T
  clear e9 e8
  exact ⟨_,by omega,k+1,(OL++[(verd n9 ((lku1.length:Nat):Int))]),_,_,[(ga1,.row 3 1 (OL++[(verd n9 ((lku1.length:Nat):Int))]).length (ic (OL++[(verd n9 ((lku1.length:Nat):Int))])) cga1)],Z,(by omega),(by rw [mapR_succ,← hO,hn9]),(by simp [hOl]),(Sl.row _ _ _ _ _ _),T.pick [2,3,1,4,0] Z,(Mem.swapI (I:=[(ga1,.row 3 1 (OL++[(verd n9 ((lku1.length:Nat):Int))]).length (ic (OL++[(verd n9 ((lku1.length:Nat):Int))])) cga1)]) (L:=((g1,.cells [Zi b.full,Zi b.a0,Zi b.a1,.slice A b.cs.length c,.slice D b.ts.length d])::Iku1)) (M.permT [0,1] 2 Z Z Z Z))⟩
 intro h2
 obtain rfl:k=b.cs.length:=by omega
 refine wp_exit ?_
 refine Zet ?_
 refine Zet ?_
 refine ex_hit ?_
 refine nm_then ?_
 refine Zsr ?_
 refine Zg3 T (Zq (Zrm Z (T.e 3 Z))) Z (Za 0 Z Z) Z (Zc Z) Z ?_;intro ac T
 refine wpList_nil ?_
 replace T:=T.pick [0,1] rfl
 replace M:=M.mask [false] rfl
 refine Znr ?_
 subst hw9
 refine nqR_r M ?_;clear M;intro wc M
 refine rt_2 T Z (T.e 1 Z) (T.e 0 Z) ?_
 have e9:mosL b=OL:=by unfold mosL;rw [if_neg (by omega),hO,hlt]
 rw [hke,e9]
 have hcap:=hsl.capLe M (Zsq _ _)
 exact ⟨A3,c3,Io,Z,hcap,hsl.spV (by simp [ic_length]),M.sub ((Zsq _ _))⟩
end
theorem spnI_le:∀ (l:List Int) (x0:Int×Int),(spnI x0 l).1≤x0.1∧x0.2≤(spnI x0 l).2∧∀ v∈l,(spnI x0 l).1≤v∧v≤(spnI x0 l).2
 | [],x0=>⟨Int.le_refl _,Int.le_refl _,fun v h=>by cases h⟩
 | y::l,x0=>by
  have ih:=spnI_le l (min x0.1 y,max x0.2 y)
  have e:spnI x0 (y::l)=spnI (min x0.1 y,max x0.2 y) l:=rfl
  rw [e]
  obtain ⟨h1,h2,h3⟩:=ih
  dsimp only at h1 h2
  refine ⟨by omega,by omega,fun v hv=>?_⟩
  rcases Zx7.1 hv with rfl | hv
  ·omega
  ·exact h3 v hv
theorem spn_mem {l:List Int} {v:Int} (h:v∈l):(spn l).1≤v∧v≤(spn l).2:=by
 unfold spn
 exact (spnI_le l _).2.2 v h
theorem spnI_ends:∀ (l:List Int) (x0:Int×Int),((spnI x0 l).1=x0.1∨(spnI x0 l).1∈l)∧((spnI x0 l).2=x0.2∨(spnI x0 l).2∈l)
 | [],x0=>⟨.inl rfl,.inl rfl⟩
 | y::l,x0=>by
  have ih:=spnI_ends l (min x0.1 y,max x0.2 y)
  have e:spnI x0 (y::l)=spnI (min x0.1 y,max x0.2 y) l:=rfl
  rw [e]
  obtain ⟨h1,h2⟩:=ih
  dsimp only at h1 h2
  refine ⟨?_,?_⟩
  ·rcases h1 with h1 | h1
   ·rcases (by omega:min x0.1 y=x0.1∨min x0.1 y=y) with h | h
    ·exact .inl (h1.trans h)
    ·exact .inr (by rw [h1,h];exact Zz2)
   ·exact .inr (Zz1 h1)
  ·rcases h2 with h2 | h2
   ·rcases (by omega:max x0.2 y=x0.2∨max x0.2 y=y) with h | h
    ·exact .inl (h2.trans h)
    ·exact .inr (by rw [h2,h];exact Zz2)
   ·exact .inr (Zz1 h2)
theorem spn_ends {l:List Int} (h:l≠[]):(spn l).1∈l∧(spn l).2∈l:=by
 have h0:l.getD 0 0∈l:=by
  cases l with
  | nil=>exact absurd rfl h
  | cons x r=>exact Zz2
 obtain ⟨h1,h2⟩:=spnI_ends l (l.getD 0 0,l.getD 0 0)
 unfold spn
 exact ⟨h1.elim (fun e=>by rw [e];exact h0) id,h2.elim (fun e=>by rw [e];exact h0) id⟩
def plyL (leak:Int):Int→List Nt→List Int→List Int→List Int
 | air,q::p,w::g,a::aa=>aft w air (q.sec * (a+leak))::plyL leak (aft w air (q.sec * (a+leak))) p g aa
 | _,_,_,_=>[]
def plyF (full leak air:Int) (p:List Nt) (g aa:List Int):Bool:=(plyL leak air p g aa).all fun x=>decide (0≤x) && decide (x≤full)
def TakeOk:List Nt→List Int→Prop
 | [],[]=>True
 | q::p,a::aa=>(1≤q.sec∧q.lo≤a∧a≤q.hi)∧TakeOk p aa
 | _,_=>False
theorem NtsTrue.take:∀ {p:List Nt} {aa:List Int},NtsTrue p aa→TakeOk p aa
 | [],[],_=>trivial
 | _::_,_::_,h=>⟨⟨h.1.1.1,h.1.2.2.1,h.1.2.2.2.1⟩,NtsTrue.take h.2⟩
 | [],_::_,h=>h.elim
 | _::_,[],h=>h.elim
theorem lv1_in {w s air a:Int} {r:Int×Int} {q:Nt} (hs:1≤q.sec) (h:r.1≤air∧air≤r.2) (ha:q.lo≤a∧a≤q.hi):(lv1 w r q s).1≤aft w air (q.sec * (a+s))∧aft w air (q.sec * (a+s))≤(lv1 w r q s).2:=by
 have h1:q.sec * (q.lo+s)≤q.sec * (a+s):=Int.mul_le_mul_of_nonneg_left (by omega) (by omega)
 have h2:q.sec * (a+s)≤q.sec * (q.hi+s):=Int.mul_le_mul_of_nonneg_left (by omega) (by omega)
 unfold lv1 aft
 split <;> omega
theorem levs_in {s:Int}:∀ (p:List Nt) (r:Int×Int) (air:Int) (g aa:List Int),g.length=p.length→TakeOk p aa→(r.1≤air∧air≤r.2)→(plyL s air p g aa).length=p.length∧∀ (i:Nat) (x:Int),(plyL s air p g aa)[i]? = some x→∃ y,(levs s r p g)[i]? = some y∧y.1≤x∧x≤y.2
 | [],r,air,g,aa,_,_,_=>⟨by cases aa <;> rfl,fun i x h=>by unfold plyL at h;simp at h⟩
 | q::p,r,air,[],aa,hl,_,_=>by simp at hl
 | q::p,r,air,w::g,[],_,ht,_=>ht.elim
 | q::p,r,air,w::g,a::aa,hl,ht,h=>by
  have h1:=lv1_in (w:=w) (s:=s) ht.1.1 h ht.1.2
  obtain ⟨ih1,ih2⟩:=levs_in (s:=s) p (lv1 w r q s) (aft w air (q.sec * (a+s))) g aa (by simpa using hl) ht.2 h1
  unfold plyL levs
  refine ⟨by simp [ih1],fun i x hx=>?_⟩
  cases i with
  | zero =>
   rw [List.getElem?_cons_zero,Option.some.injEq] at hx
   subst hx
   exact ⟨_,Z,h1⟩
  | succ i=>exact ih2 i x hx
theorem must_fine {b:Bw} {p:List Nt} {g aa:List Int} {s air:Int} (hg:g.length=p.length) (ht:TakeOk p aa) (ha:b.a0≤air∧air≤b.a1) (h:mustB b p g s=true):plyF b.full s air p g aa=true:=by
 obtain ⟨-,h2⟩:=levs_in (s:=s) p (b.a0,b.a1) air g aa hg ht ha
 unfold mustB at h
 unfold plyF
 rw [List.all_eq_true] at h ⊢
 intro x hx
 obtain ⟨i,hi⟩:=List.getElem?_of_mem hx
 obtain ⟨y,hy,hb⟩:=h2 i x hi
 have:=h y (List.mem_of_getElem? hy)
 simp only [Bool.and_eq_true,decide_eq_true_eq] at this ⊢
 omega
theorem fine_canF {full s:Int}:∀ (p:List Nt) (S:Int→Bool) (air:Int) (g aa:List Int),g.length=p.length→TakeOk p aa→S air=true→(0≤air∧air≤full)→plyF full s air p g aa=true→canF full s S p g=true
 | [],S,air,g,aa,_,_,_,_,_=>canF_nil _ _ _ _
 | q::p,S,air,[],aa,hl,_,_,_,_=>by simp at hl
 | q::p,S,air,w::g,[],_,ht,_,_,_=>ht.elim
 | q::p,S,air,w::g,a::aa,hl,ht,hS,hr,h=>by
  unfold plyF plyL at h
  rw [List.all_cons,Bool.and_eq_true,Bool.and_eq_true,decide_eq_true_eq,decide_eq_true_eq] at h
  have hn:nxB full w s q S (aft w air (q.sec * (a+s)))=true:=by
   unfold nxB
   simp only [Bool.and_eq_true,decide_eq_true_eq,List.any_eq_true,upI_mem]
   exact ⟨h.1,air,hr,hS,a,ht.1.2,Z⟩
  unfold canF
  rw [Bool.and_eq_true]
  exact ⟨List.any_eq_true.2 ⟨_,upI_mem.2 h.1,hn⟩,fine_canF p _ _ g aa (by simpa using hl) ht.2 hn h.1 h.2⟩
theorem fine_can {b:Bw} {p:List Nt} {g aa:List Int} {s air:Int} (hg:g.length=p.length) (ht:TakeOk p aa) (ha:b.a0≤air∧air≤b.a1) (h0:0≤b.a0∧b.a1≤b.full) (h:plyF b.full s air p g aa=true):canB b p g s=true:=by
 unfold canB
 exact fine_canF p _ air g aa hg ht (by simp;omega) (by omega) h
def sumL:List Int→Int
 | []=>0
 | x::r=>x+sumL r
theorem sumL_snoc (x:Int):∀ l:List Int,sumL (l++[x])=sumL l+x
 | []=>by simp [sumL]
 | y::l=>by
  rw [Zx6]
  unfold sumL
  rw [sumL_snoc x l]
  omega
theorem sumL_take {l:List Int} {k:Nat} {x:Int} (h:l[k]? = some x):sumL (l.take (k+1))=sumL (l.take k)+x:=by
 rw [List.take_add_one,h]
 exact sumL_snoc x _
def rgtB (v:Int) (b:Bool):Bool:=decide (v=3) || (decide (v=1) && b) || (decide (v=2) && !b)
theorem rgtB_of {v:Int} {b:Bool} (h:v=1∨v=2∨v=3) (h1:v=1→b=true) (h2:v=2→b=false):rgtB v b=true:=by
 unfold rgtB
 rcases h with rfl | rfl | rfl
 · rw [h1 rfl];rfl
 · rw [h2 rfl];rfl
 · rfl
theorem toL4_l {l:List Int} (h:l.length=4):(toL4 l).l=l:=by
 match l,h with
 | [a,b,c,d],_=>rfl
theorem setAll_take {g:List Int} (h:g.length≤4):(setAll [0,0,0,0] 0 g).take g.length=g:=by
 refine List.ext_getElem? fun i=>?_
 rcases Nat.lt_or_ge i g.length with hi | hi
 ·rw [List.getElem?_take_of_lt hi]
  have:=setAll_get g [0,0,0,0] 0 i hi (by simp;omega)
  rwa [Zxa] at this
 ·rw [List.getElem?_eq_none (by rw [List.length_take,setAll_length];simp;omega),List.getElem?_eq_none hi]
theorem setAll_getD {g:List Int} (h:g.length≤4) {c:Nat} (hc:c < g.length):(setAll [0,0,0,0] 0 g).getD c 0=g.getD c 0:=by
 have:=setAll_get g [0,0,0,0] 0 c hc (by simp;omega)
 rw [Zxa] at this
 rw [List.getD_eq_getElem?_getD,List.getD_eq_getElem?_getD,this]
theorem totL_corn (g:List Int):totL g (cornL g.length [])=sumL g:=by
 have h:∀ n,n≤g.length→totL g (cornL n [])=sumL (g.take n):=fun n=>by
  induction n with
  | zero=>intro _;rfl
  | succ n ih =>
   intro hn
   rw [cornL_succ,if_neg (by simp)]
   have hx:g[n]? = some (g.getD n 0):=by
    rw [List.getD_eq_getElem?_getD,List.getElem?_eq_getElem (by omega)]
    rfl
   rw [sumL_take hx,← ih (by omega)]
   unfold totL
   rw [List.map_append,List.sum_append]
   simp
 have:=h g.length (Nat.le_refl _)
 rwa [List.take_length] at this
theorem max_iff {g:List Int} {c:Nat} (hc:c < g.length):g.getD c 0=(spn g).2↔(g.all fun y=>decide (y≤g.getD c 0))=true:=by
 have h1:g.getD c 0∈g:=by
  rw [List.getD_eq_getElem?_getD,List.getElem?_eq_getElem hc]
  exact List.getElem_mem _
 have h2:=(spn_ends (l:=g) (fun h=>by rw [h] at hc;simp at hc)).2
 rw [List.all_eq_true]
 constructor
 ·intro h y hy
  rw [decide_eq_true_eq,h]
  exact (spn_mem hy).2
 ·intro h
  have h3:=h _ h2
  rw [decide_eq_true_eq] at h3
  have h4:=(spn_mem h1).2
  omega
theorem levF_in {f:Int→List (Int×Int)} {n:Nat} (hf:∀ s,(f s).length=n) {s:Int} {i:Nat} {y:Int×Int} (hy:(f s)[i]? = some y):∀ {ss:List Int},s∈ss→∃ z,(levF f ss)[i]? = some z∧z.1≤y.1∧y.2≤z.2
 | [],h=>by cases h
 | t::r,h=>by
  unfold levF
  have hi:i < n:=by rw [← hf s];exact (List.getElem?_eq_some_iff.1 hy).1
  have key:∀ (r:List Int) (acc:List (Int×Int)),acc.length=n→(∀ z,acc[i]? = some z→∃ z',(r.foldl (fun acc t=>List.zipWith mm2 acc (f t)) acc)[i]? = some z'∧z'.1≤z.1∧z.2≤z'.2)∧(s∈r→∃ z',(r.foldl (fun acc t=>List.zipWith mm2 acc (f t)) acc)[i]? = some z'∧z'.1≤y.1∧y.2≤z'.2):=fun r=>by
   induction r with
   | nil=>intro acc _;exact ⟨fun z hz=>⟨z,hz,Int.le_refl _,Int.le_refl _⟩,fun h=>by cases h⟩
   | cons t r ih =>
    intro acc ha
    obtain ⟨i1,i2⟩:=ih (List.zipWith mm2 acc (f t)) (by rw [List.length_zipWith,ha,hf,Nat.min_self])
    rw [List.foldl_cons]
    have hz0:∀ z,acc[i]? = some z→∃ q,(f t)[i]? = some q∧(List.zipWith mm2 acc (f t))[i]? = some (mm2 z q):=fun z hz=>by
     have hq:i < (f t).length:=by rw [hf];exact hi
     exact ⟨(f t)[i],List.getElem?_eq_getElem hq,by rw [List.getElem?_zipWith,hz,List.getElem?_eq_getElem hq]⟩
    refine ⟨fun z hz=>?_,fun h=>?_⟩
    ·obtain ⟨q,hq,e⟩:=hz0 z hz
     obtain ⟨z',h1,h2,h3⟩:=i1 _ e
     refine ⟨z',h1,?_,?_⟩ <;> (simp only [mm2] at h2 h3;omega)
    ·rcases Zx7.1 h with rfl | h
     ·have ha2:i < acc.length:=by rw [ha];exact hi
      obtain ⟨q,hq,e⟩:=hz0 _ (List.getElem?_eq_getElem ha2)
      rw [hy] at hq
      injection hq with hq
      subst hq
      obtain ⟨z',h1,h2,h3⟩:=i1 _ e
      refine ⟨z',h1,?_,?_⟩ <;> (simp only [mm2] at h2 h3;omega)
     ·exact i2 h
  obtain ⟨k1,k2⟩:=key r (f t) (hf t)
  rcases Zx7.1 h with rfl | h
  ·exact k1 y hy
  ·exact k2 h
theorem true_law {b:Bw} {g:List Int} {air:Int} {p:List Nt} {ways aa:List Int} (hb:BwTrue b g air) (h4:g.length≤4) (h3:b.ts.length≤3) (hp:NtGood p) (hn:NtsTrue p aa) (hw:WayOk p ways) :
   knownE b []=0∧(leksL b).length=g.length∧((lekR b).1≤sumL g∧sumL g≤(lekR b).2)∧(mosL b).length=g.length∧(∀ (c:Nat) (y:Int×Int),(leksL b)[c]? = some y→y.1≤g.getD c 0∧g.getD c 0≤y.2)∧(∀ (c:Nat) (v:Int),(mosL b)[c]? = some v→rgtB v (g.all fun y=>decide (y≤g.getD c 0))=true) ∧
   lvlE b p ways=0∧(lvlL b p ways).length=p.length∧(plyL (sumL g) air p ways aa).length=p.length∧(∀ (i:Nat) (x:Int),(plyL (sumL g) air p ways aa)[i]? = some x→∃ y,(lvlL b p ways)[i]? = some y∧y.1≤x∧x≤y.2)∧rgtB (plaV b p ways) (plyF b.full (sumL g) air p ways aa)=true:=by
 have hk:knownE b []=0:=hb.known h4 h3 fun e he=>by cases he
 have e1:=hb.lvl h4 h3 hp hw
 have hm:=hb.truth h4
 have hx:toL4 (setAll [0,0,0,0] 0 g)∈truthsL b:=List.mem_map.2 ⟨_,hm,rfl⟩
 have hl4:(setAll [0,0,0,0] 0 g).length=4:=by rw [setAll_length];rfl
 have hxl:=toL4_l hl4
 generalize toL4 (setAll [0,0,0,0] 0 g)=x0 at hx hxl
 have ht:totL x0.l (cornL b.cs.length [])=sumL g:=by
   rw [hxl,hb.len,totL_pad h4 (fun c hc=>cornL_mem hc),totL_corn]
 have hs:sumL g∈sums0 b:=sumsB_mem.2 ⟨x0,hx,ht⟩
 have hK:leksL b=(List.range b.cs.length).map (leakC (truthsL b)):=by unfold leksL;rw [if_neg (by omega)]
 have hM:mosL b=(List.range b.cs.length).map fun k=>verd (mosN b.cs.length (truthsL b) k:Int) ((truthsL b).length:Int):=by unfold mosL;rw [if_neg (by omega)]
 have htk:=hn.take
 obtain ⟨v1,v2⟩:=levs_in (s:=sumL g) p (b.a0,b.a1) air ways aa hw.len htk (by have:=hb.air;dsimp only;omega)
 refine ⟨hk,by rw [hK];simp [hb.len],?_,by rw [hM];simp [hb.len],fun c y hy=>?_,fun c v hv=>?_,e1,lvlL_len e1 hw.len,v1,fun i x hx=>?_,?_⟩
 · have hR:lekR b=spn ((truthsL b).map fun x=>totL x.l (cornL b.cs.length [])):=by unfold lekR;rw [if_neg (by omega)]
   rw [hR]
   exact spn_mem (List.mem_map.2 ⟨x0,hx,ht⟩)
 · rw [hK,List.getElem?_map] at hy
   obtain ⟨k,hk1,hk2⟩:=Option.map_eq_some_iff.1 hy
   have hk3:=List.getElem?_eq_some_iff.1 hk1
   obtain ⟨hk4,hk5⟩:=hk3
   rw [List.length_range] at hk4
   rw [List.getElem_range] at hk5
   subst hk5
   subst hk2
   have:=spn_mem (l:=(truthsL b).map fun x=>x.l.getD c 0) (List.mem_map.2 ⟨x0,hx,rfl⟩)
   rw [hxl,setAll_getD h4 (by rw [← hb.len];exact hk4)] at this
   exact this
 · rw [hM,List.getElem?_map] at hv
   obtain ⟨k,hk1,hk2⟩:=Option.map_eq_some_iff.1 hv
   obtain ⟨hk4,hk5⟩:=List.getElem?_eq_some_iff.1 hk1
   rw [List.length_range] at hk4
   rw [List.getElem_range] at hk5
   subst hk5
   have hpx:x0.l.getD c 0=(spn (x0.l.take b.cs.length)).2↔(g.all fun y=>decide (y≤g.getD c 0))=true:=by
     rw [hxl,hb.len,setAll_take h4,setAll_getD h4 (by rw [← hb.len];exact hk4)]
     exact max_iff (by rw [← hb.len];exact hk4)
   have hc:=List.countP_le_length (p:=fun x:L4=>decide (x.l.getD c 0=(spn (x.l.take b.cs.length)).2)) (l:=truthsL b)
   have hlp:=List.length_pos_of_mem hx
   unfold verd mosN at hk2
   have hv3:v=1∨v=2∨v=3:=by
     split at hk2
     · omega
     · split at hk2 <;> omega
   refine rgtB_of hv3 (fun h1=>?_) (fun h2=>?_)
   · have h5:(truthsL b).countP (fun x=>decide (x.l.getD c 0=(spn (x.l.take b.cs.length)).2))=(truthsL b).length:=by
       split at hk2
       · omega
       · split at hk2 <;> omega
     have:=List.countP_eq_length.1 h5 x0 hx
     exact hpx.1 (by simpa using this)
   · have h5:(truthsL b).countP (fun x=>decide (x.l.getD c 0=(spn (x.l.take b.cs.length)).2))=0:=by
       split at hk2
       · omega
       · split at hk2 <;> omega
     have:=List.countP_eq_zero.1 h5 x0 hx
     exact Bool.eq_false_iff.2 fun h=>this (by simpa using hpx.2 h)
 · obtain ⟨y,hy,hb1⟩:=v2 i x hx
   obtain ⟨z,hz,hb2⟩:=levF_in (f:=fun s=>levs s (b.a0,b.a1) p ways) (fun s=>levs_len2 _ _ _ _ hw.len) hy hs
   exact ⟨z,by rw [lvlL_of e1];exact hz,by omega⟩
 · have ha:=hb.air
   rw [plaV_of e1]
   refine rgtB_of (by split; · omega
                      · split <;> omega) (fun h1=>?_) (fun h2=>?_)
   · have:alwB b p (sums0 b) ways=true:=by
       by_cases h:alwB b p (sums0 b) ways=true
       · exact h
       · rw [if_neg h] at h1
         split at h1 <;> omega
     unfold alwB at this
     exact must_fine hw.len htk (by omega) (List.all_eq_true.1 this _ hs)
   · have h5 : ¬ hopB b p (sums0 b) ways=true:=fun h=>by
       rw [h] at h2
       simp only [if_true] at h2
       split at h2 <;> omega
     refine Bool.eq_false_iff.2 fun h=>h5 ?_
     unfold hopB
     exact List.any_eq_true.2 ⟨_,hs,fine_can hw.len htk (by omega) (by omega) h⟩
section
open Go.RowKit Go.Proofs.Ytoheddpnnjldgaa.Bq
theorem plyL_aft (w air n:Int):air+(if w=1 then -n else n)=aft w air n:=by
 unfold aft
 split <;> omega
def PlyPost (l:List Int) (f:Bool) (w:World) (e:Ending) (w':World):Prop:=∃ A c I,e=.returned (.tuple #[.slice A l.length c,.bool f])∧(∃ b o,∀ (w1:World) (ex:Nat→Prop),Sp w1 ex I A l.length 1 b o (ic l))∧Mem w noEx w' I
theorem inR_any (x0 x1 y:Int)  (w:World)  :
   Calls Try.prog 62 #[.agg #[Zi x0,Zi x1],Zi y] w fun e w'=>e=.returned (.bool (decide (x0≤y) && decide (y≤x1)))∧Below w.heap.size w w':=by
 refine Zpx noEx Try.func62 Z 15 Z [.agg #[Zi x0,Zi x1],Zi y] Z Z (Mem.init w _) ?_
 intro ac wc T M
 refine Zsr ?_
 refine Zl2 ?_
 refine Zob M T Z Z Z Z (T.e 0 Z) Z ?_;clear M T;intro g1 wc ac M T
 refine lq T (Zra Z evc) ?_;intro ac T
 replace T:=T.pick [1,3] rfl
 refine Zln ?_
 refine cut_seq (fun ac wc=>Tm ac 15 [(4,.bool ((decide (x0≤y)) && (decide (y≤x1))))]∧Mem w noEx wc []) ?_ ?_
 ·refine wp_region_lit ?_
  refine Zg5 (v1:=(Zj g1)) T (Zq (Zrg 0 Z (T.e 0 Z))) Z (Zo M 0 0 Z Z Z Z) Z (Zm 3 Z Z) Z (fun _ T=>Zq (rn_leq Z (T.e 1 Z) (T.e 0 Z))) Z (Zm 0 Z Z) Z ?_;intro ac T
  rcases Zx9 (decide (x0≤y)) with h1 | h1
  ·replace h1:=of_decide_eq_true h1
   refine Zg6 (v2:=(.pointer (some ⟨g1,1,none⟩))) T (Zw (Zwy Z Z (T.e 0 Z) (Zdt h1)) (Zrm Z (T.e 6 Z))) Z (fun _ T=>Zw (Zwy Z Z (T.e 1 Z) (Zdt h1)) (Zrg 1 Z (T.e 6 Z))) Z (fun _ T=>Zw (Zwy Z Z (T.e 2 Z) (Zdt h1)) (Zro (Mem.nth M 0 Z) Z (T.e 0 Z) Z)) Z (fun _ T=>Zw (Zwy Z Z (T.e 3 Z) (Zdt h1)) (rn_leq Z (T.e 2 Z) (T.e 0 Z))) Z (fun _ T=>Zq (Zr1 Z (T.e 4 Z) (Zdt h1) (T.e 0 Z))) Z (Za 0 Z Z) Z ?_;intro ac T
   refine wpList_nil ?_
   replace T:=T.pick [0] rfl
   replace M:=M.mask [false] rfl
   exact ⟨(T.pick (E':=[(4,.bool (decide (y≤x1)))]) [0] Z).as (by (try rw [show (decide (x0≤y))=true from (Zdt h1)]);(try rfl)),M.mask [] Z⟩
  replace h1:=of_decide_eq_false h1
  refine Zg6 T (Zp (Zwn Z Z (T.e 0 Z) (Zdf h1))) Z (fun _ T=>Zp (Zwn Z Z (T.e 1 Z) (Zdf h1))) Z (fun _ T=>Zp (Zwn Z Z (T.e 2 Z) (Zdf h1))) Z (fun _ T=>Zp (Zwn Z Z (T.e 3 Z) (Zdf h1))) Z (fun _ T=>Zq (Zr0 Z (T.e 4 Z) (Zdf h1) evc)) Z (Za 0 Z Z) Z ?_;intro ac T
  refine wpList_nil ?_
  replace T:=T.pick [0] rfl
  replace M:=M.mask [false] rfl
  exact ⟨(T.pick (E':=[(4,.bool false)]) [0] Z).as (by (try rw [show (decide (x0≤y))=false from (Zdf h1)]);(try rfl)),M.mask [] Z⟩
 clear T M
 rintro ac wc ⟨T,M⟩
 refine wp_ret ?_
 refine rt_1 T Z (T.e 0 Z) ?_
 refine ⟨ret_bool ?_,M.below⟩
 (first | rfl | (simp_all;done) | (simp_all;omega))
theorem inR_true {x0 x1 y:Int} (h:x0≤y∧y≤x1) (w:World):Calls Try.prog 62 #[.agg #[Zi x0,Zi x1],Zi y] w fun e w'=>e=.returned (.bool true)∧Below w.heap.size w w':=by
 have:=inR_any x0 x1 y w
 rwa [Zdt h.1,Zdt h.2] at this
theorem total9_any (G:Option Addr) (n:Nat) (g:List Int)  (w:World) (hG:Rd w w.heap.size 1 G g.length (ic g)) (nG:g.length≤1000) (hg:∀ v∈g,0≤v∧v≤1000)  :
   Calls Try.prog 63 #[.slice G g.length n] w fun e w'=>e=.returned (Zi (sumL g))∧Below w.heap.size w w':=by
 obtain ⟨bG,oG,SG⟩:=Sp.old hG
 refine Zpx noEx Try.func63 Z 18 Z [.slice G g.length n] Z Z (Mem.init w _) ?_
 intro ac wc T M
 refine Zsr ?_
 refine lq T (Zra Z evc) ?_;intro ac T
 replace T:=T.pick [1] rfl
 refine Zln ?_
 refine Zsr ?_
 refine lq T (Zra Z evc) ?_;intro ac T
 refine Zln ?_
 refine wp_seq ?_
 refine Zsr ?_
 refine lq T (Zra Z evc) ?_;intro ac T
 refine Zln ?_
 refine wp_block ?_
 refine wp_loop_n (fun mz ac wc=>∃ (k:Nat) (n9:Int),mz=g.length - k∧(k≤g.length)∧(n9=sumL (g.take k))∧(0≤n9∧n9≤1000 * (k:Int))∧Tm ac 18 [(0,.slice G g.length n),(3,Zi n9),(4,Zi (k:Int))]∧Mem w noEx wc []) ?_ ?_
 ·exact ⟨_,0,0,Z,(Nat.zero_le _),Z,(by omega),T.pick [2,1,0] Z,M.mask [] Z⟩
 clear T M
 rintro mz ac wc ⟨k,n9,hmm1,hk,H,hb,T,M⟩
 refine wp_seq ?_
 refine Zsr ?_
 refine Zg4 T (Zq (Zrm Z (T.e 2 Z))) Z (Zm 1 Z Z) Z (Zl Try.underlying28 0 Z Z) Z (fun _ T=>Zq (rn_lss Z (T.e 2 Z) (T.e 0 Z))) Z ?_;intro ac T
 replace T:=T.pick [0,4,5,6] rfl
 refine Zln ?_
 refine wp_if (T.e 0 Z) ?_ ?_
 ·intro h1
  obtain ⟨y,hky,-⟩:=ic_next (l:=g) (k:=k) (by omega)
  have hy9:=hg y (List.mem_of_getElem? hky)
  refine Zsk ?_
  refine wp_seq ?_
  refine wp_block ?_
  refine wp_region_lit ?_
  refine Zg6 T (Zq (Zrm Z (T.e 2 Z))) Z (Zm 2 Z Z) Z (Zm 5 Z Z) Z (fun _ T=>Zq (Zri (size:=1) k Z (T.e 1 Z) (T.e 0 Z) ⟨_,Try.underlying28,by kernel_rfl⟩ Z (by omega) (SG.at0 (by omega)))) Z (fun _ T=>Zq (rn_cell (Sp.ic0 SG M (Zz9 _) hky) Z (T.e 0 Z))) Z (fun _ T=>Zq (rn_add Z (T.e 4 Z) (T.e 0 Z) (by omega))) Z ?_;intro ac T
  refine l_q (v:=(Zi (n9+y))) (T.pick [0,1,2,3,4,5,6,7,9] Z) Z Z Z Z (Zra Z (T.e 0 Z)) ?_;intro ac T
  refine wpList_nil ?_
  replace T:=T.pick [0,8,9] rfl
  refine Znb ?_
  refine nm_then ?_
  refine wp_region_lit ?_
  refine Zg2 T (Zq (Zrm Z (T.e 2 Z))) Z (fun _ T=>Zq (rn_add Z (T.e 0 Z) evc (by omega))) Z ?_;intro ac T
  refine l_q (v:=(Zi ((k:Int)+1))) (T.pick [0,1,2,3] Z) Z Z Z Z (Zra Z (T.e 0 Z)) ?_;intro ac T
  replace T:=T.pick [0,3,4] rfl
  refine Zln ?_
  exact ⟨_,by omega,k+1,(n9+y),Z,(by omega),(by rw [sumL_take hky,H]),(by push_cast;omega),T.pick [2,1,0] Z,M.mask [] Z⟩
 intro h1
 rw [List.take_of_length_le (by omega)] at H
 refine wp_exit ?_
 refine Zet ?_
 refine Zet ?_
 refine ex_hit ?_
 refine nm_then ?_
 refine Zsr ?_
 refine Zg2 T (Zq (Zrm Z (T.e 2 Z))) Z (Za 0 Z Z) Z ?_;intro ac T
 replace T:=T.pick [0] rfl
 refine Zln ?_
 refine wp_ret ?_
 refine rt_1 T Z (T.e 0 Z) ?_
 exact ⟨ret_int H,M.below⟩
theorem right_any (v:Int) (q:Bool)  (w:World)  :
   Calls Try.prog 64 #[Zi v,.bool q] w fun e w'=>e=.returned (.bool (rgtB v q))∧Below w.heap.size w w':=by
 refine Zpx noEx Try.func64 Z 22 Z [Zi v,.bool q] Z Z (Mem.init w _) ?_
 intro ac wc T M
 refine Zsr ?_
 refine lq T (Zra Z evc) ?_;intro ac T
 replace T:=T.pick [1,2] rfl
 refine Zln ?_
 refine cut_seq (fun ac wc=>Tm ac 22 [(4,.bool ((decide (v=3)) || (bif (decide (v=1)) then (q || ((decide (v=2)) && (!q))) else ((decide (v=2)) && (!q)))))]∧Mem w noEx wc []) ?_ ?_
 ·refine wp_region_lit ?_
  refine Zg3 T (Zq (Zrm Z (T.e 0 Z))) Z (fun _ T=>Zq (rn_eql Z (T.e 0 Z) evc)) Z (Zm 0 Z Z) Z ?_;intro ac T
  rcases Zx9 (decide (v=3)) with h1 | h1
  ·replace h1:=of_decide_eq_true h1
   refine Zg8 T (Zp (Zwn Z Z (T.e 0 Z) (Zdt h1))) Z (fun _ T=>Zp (Zwn Z Z (T.e 1 Z) (Zdt h1))) Z (fun _ T=>Zp (Zwn Z Z (T.e 2 Z) (Zdt h1))) Z (fun _ T=>Zp (Zwu Z Z (T.e 0 Z))) Z (fun _ T=>Zp (Zwn Z Z (T.e 4 Z) (Zdt h1))) Z (fun _ T=>Zq (Zr1 Z (T.e 5 Z) (Zdt h1) evc)) Z (Zm 0 Z Z) Z (fun _ T=>Zp (Zwn Z Z (T.e 0 Z) Z)) Z ?_;intro ac T
   refine Zg7 T (Zp (Zwn Z Z (T.e 1 Z) Z)) Z (fun _ T=>Zp (Zwn Z Z (T.e 2 Z) Z)) Z (fun _ T=>Zp (Zwu Z Z (T.e 0 Z))) Z (fun _ T=>Zp (Zwu Z Z (T.e 1 Z))) Z (fun _ T=>Zp (Zwn Z Z (T.e 5 Z) Z)) Z (fun _ T=>Zq (Zr1 Z (T.e 6 Z) Z evc)) Z (Za 0 Z Z) Z ?_;intro ac T
   refine wpList_nil ?_
   replace T:=T.pick [0] rfl
   exact ⟨(T.pick (E':=[(4,.bool true)]) [0] Z).as (by (try rw [show (decide (v=3))=true from (Zdt h1)]);(try rfl)),M.mask [] Z⟩
  replace h1:=of_decide_eq_false h1
  refine Zg3 T (Zw (Zwy Z Z (T.e 0 Z) (Zdf h1)) (Zrm Z (T.e 3 Z))) Z (fun _ T=>Zw (Zwy Z Z (T.e 1 Z) (Zdf h1)) (rn_eql Z (T.e 0 Z) evc)) Z (fun _ T=>Zw (Zwy Z Z (T.e 2 Z) (Zdf h1)) (Zrm Z (T.e 0 Z))) Z ?_;intro ac T
  rcases Zx9 (decide (v=1)) with h2 | h2
  ·replace h2:=of_decide_eq_true h2
   refine Zg4 T (Zw (Zwy Z Z (T.e 0 Z) (Zdt h2)) (Zrm Z (T.e 7 Z))) Z (fun _ T=>Zw (Zwy Z Z (T.e 4 Z) (Zdf h1)) (Zr1 Z (T.e 1 Z) (Zdt h2) (T.e 0 Z))) Z (fun _ T=>Zq (Zr0 Z (T.e 5 Z) (Zdf h1) (T.e 0 Z))) Z (Zm 0 Z Z) Z ?_;intro ac T
   rcases Zx9 q with h3 | h3
   ·refine Zg8 T (Zp (Zwn Z Z (T.e 0 Z) h3)) Z (fun _ T=>Zp (Zwn Z Z (T.e 1 Z) h3)) Z (fun _ T=>Zp (Zwn Z Z (T.e 2 Z) h3)) Z (fun _ T=>Zp (Zwu Z Z (T.e 0 Z))) Z (fun _ T=>Zp (Zwu Z Z (T.e 1 Z))) Z (fun _ T=>Zp (Zwn Z Z (T.e 5 Z) h3)) Z (fun _ T=>Zq (Zr1 Z (T.e 6 Z) h3 evc)) Z (Za 0 Z Z) Z ?_;intro ac T
    refine wpList_nil ?_
    replace T:=T.pick [0] rfl
    exact ⟨(T.pick (E':=[(4,.bool true)]) [0] Z).as (by (try rw [show (decide (v=3))=false from (Zdf h1)]);(try rw [show (decide (v=1))=true from (Zdt h2)]);(try rw [show q=true from h3]);(try rfl)),M.mask [] Z⟩
   refine Zg3 T (Zw (Zwy Z Z (T.e 0 Z) h3) (Zrm Z (T.e 10 Z))) Z (fun _ T=>Zw (Zwy Z Z (T.e 1 Z) h3) (rn_eql Z (T.e 0 Z) evc)) Z (fun _ T=>Zw (Zwy Z Z (T.e 2 Z) h3) (Zrm Z (T.e 0 Z))) Z ?_;intro ac T
   rcases Zx9 (decide (v=2)) with h4 | h4
   ·replace h4:=of_decide_eq_true h4
    refine Zg5 T (Zw (Zwy Z Z (T.e 0 Z) (Zdt h4)) (Zrm Z (T.e 14 Z))) Z (fun _ T=>Zw (Zwy Z Z (T.e 1 Z) (Zdt h4)) (rn_not Z (T.e 0 Z))) Z (fun _ T=>Zw (Zwy Z Z (T.e 5 Z) h3) (Zr1 Z (T.e 2 Z) (Zdt h4) (T.e 0 Z))) Z (fun _ T=>Zq (Zr0 Z (T.e 6 Z) h3 (T.e 0 Z))) Z (Za 0 Z Z) Z ?_;intro ac T
    refine wpList_nil ?_
    replace T:=T.pick [0] rfl
    exact ⟨(T.pick (E':=[(4,.bool (!q))]) [0] Z).as (by (try rw [show (decide (v=3))=false from (Zdf h1)]);(try rw [show (decide (v=1))=true from (Zdt h2)]);(try rw [show q=false from h3]);(try rw [show (decide (v=2))=true from (Zdt h4)]);(try rfl)),M.mask [] Z⟩
   replace h4:=of_decide_eq_false h4
   refine Zg5 T (Zp (Zwn Z Z (T.e 0 Z) (Zdf h4))) Z (fun _ T=>Zp (Zwn Z Z (T.e 1 Z) (Zdf h4))) Z (fun _ T=>Zw (Zwy Z Z (T.e 5 Z) h3) (Zr0 Z (T.e 2 Z) (Zdf h4) evc)) Z (fun _ T=>Zq (Zr0 Z (T.e 6 Z) h3 (T.e 0 Z))) Z (Za 0 Z Z) Z ?_;intro ac T
   refine wpList_nil ?_
   replace T:=T.pick [0] rfl
   exact ⟨(T.pick (E':=[(4,.bool false)]) [0] Z).as (by (try rw [show (decide (v=3))=false from (Zdf h1)]);(try rw [show (decide (v=1))=true from (Zdt h2)]);(try rw [show q=false from h3]);(try rw [show (decide (v=2))=false from (Zdf h4)]);(try rfl)),M.mask [] Z⟩
  replace h2:=of_decide_eq_false h2
  refine Zg7 T (Zp (Zwn Z Z (T.e 0 Z) (Zdf h2))) Z (fun _ T=>Zw (Zwy Z Z (T.e 4 Z) (Zdf h1)) (Zr0 Z (T.e 1 Z) (Zdf h2) evc)) Z (fun _ T=>Zq (Zr0 Z (T.e 5 Z) (Zdf h1) (T.e 0 Z))) Z (Zm 0 Z Z) Z (fun _ T=>Zw (Zwy Z Z (T.e 0 Z) Z) (Zrm Z (T.e 10 Z))) Z (fun _ T=>Zw (Zwy Z Z (T.e 1 Z) Z) (rn_eql Z (T.e 0 Z) evc)) Z (fun _ T=>Zw (Zwy Z Z (T.e 2 Z) Z) (Zrm Z (T.e 0 Z))) Z ?_;intro ac T
  rcases Zx9 (decide (v=2)) with h5 | h5
  ·replace h5:=of_decide_eq_true h5
   refine Zg5 T (Zw (Zwy Z Z (T.e 0 Z) (Zdt h5)) (Zrm Z (T.e 14 Z))) Z (fun _ T=>Zw (Zwy Z Z (T.e 1 Z) (Zdt h5)) (rn_not Z (T.e 0 Z))) Z (fun _ T=>Zw (Zwy Z Z (T.e 5 Z) Z) (Zr1 Z (T.e 2 Z) (Zdt h5) (T.e 0 Z))) Z (fun _ T=>Zq (Zr0 Z (T.e 6 Z) Z (T.e 0 Z))) Z (Za 0 Z Z) Z ?_;intro ac T
   refine wpList_nil ?_
   replace T:=T.pick [0] rfl
   exact ⟨(T.pick (E':=[(4,.bool (!q))]) [0] Z).as (by (try rw [show (decide (v=3))=false from (Zdf h1)]);(try rw [show (decide (v=1))=false from (Zdf h2)]);(try rw [show (decide (v=2))=true from (Zdt h5)]);(try rfl)),M.mask [] Z⟩
  replace h5:=of_decide_eq_false h5
  refine Zg5 T (Zp (Zwn Z Z (T.e 0 Z) (Zdf h5))) Z (fun _ T=>Zp (Zwn Z Z (T.e 1 Z) (Zdf h5))) Z (fun _ T=>Zw (Zwy Z Z (T.e 5 Z) Z) (Zr0 Z (T.e 2 Z) (Zdf h5) evc)) Z (fun _ T=>Zq (Zr0 Z (T.e 6 Z) Z (T.e 0 Z))) Z (Za 0 Z Z) Z ?_;intro ac T
  refine wpList_nil ?_
  replace T:=T.pick [0] rfl
  exact ⟨(T.pick (E':=[(4,.bool false)]) [0] Z).as (by (try rw [show (decide (v=3))=false from (Zdf h1)]);(try rw [show (decide (v=1))=false from (Zdf h2)]);(try rw [show (decide (v=2))=false from (Zdf h5)]);(try rfl)),M.mask [] Z⟩
 clear T M
 rintro ac wc ⟨T,M⟩
 refine wp_ret ?_
 refine rt_1 T Z (T.e 0 Z) ?_
 refine ⟨ret_bool ?_,M.below⟩
 unfold rgtB
 (first | rfl | (cases q <;> simp <;> done) | (cases q <;> simp <;> omega) | (simp_all;done))
theorem right_true {v:Int} {q:Bool} (h:rgtB v q=true) (w:World):Calls Try.prog 64 #[Zi v,.bool q] w fun e w'=>e=.returned (.bool true)∧Below w.heap.size w w':=by
 have:=right_any v q w
 rwa [h] at this
set_option maxHeartbeats 4000000 in
theorem played_any (b:Bw) (A:Option Addr) (c:Nat) (D:Option Addr) (d:Nat) (p:List Nt) (P:Option Addr) (pc:Nat) (G:Option Addr) (n:Nat) (g:List Int) (air s:Int) (AA:Option Addr) (na:Nat) (aa:List Int)  (w:World) (hP9:Rd w w.heap.size 4 P p.length (ntc p)) (hG:Rd w w.heap.size 1 G g.length (ic g)) (hAA:Rd w w.heap.size 1 AA aa.length (ic aa)) (hgp:NtGood p) (hgl:g.length=p.length) (hal:aa.length=p.length) (hs:0≤s∧s≤20) (hair:0≤air∧air≤200) (haa:∀ a∈aa,0≤a∧a≤9)  :
   Calls Try.prog 65 #[.agg #[Zi b.full,Zi b.a0,Zi b.a1,.slice A b.cs.length c,.slice D b.ts.length d],.slice P p.length pc,.slice G g.length n,Zi air,Zi s,.slice AA aa.length na] w (PlyPost (plyL s air p g aa) (plyF b.full s air p g aa) w):=by
 obtain ⟨bP,oP,SP⟩:=Sp.old hP9
 obtain ⟨bG,oG,SG⟩:=Sp.old hG
 obtain ⟨bAA,oAA,SAA⟩:=Sp.old hAA
 have hp6:=hgp.n6
 refine Zpx noEx Try.func65 Z 63 Z [.agg #[Zi b.full,Zi b.a0,Zi b.a1,.slice A b.cs.length c,.slice D b.ts.length d],.slice P p.length pc,.slice G g.length n,Zi air,Zi s,.slice AA aa.length na] Z Z (Mem.init w _) ?_
 intro ac wc T M
 refine Zsr ?_
 refine Zl2 ?_
 refine Zob M T Z Z Z Z (T.e 0 Z) Z ?_;clear M T;intro g1 wc ac M T
 refine Zg2 T (Zq (Zra Z evc)) Z (Zc Z) Z ?_;intro ac T
 replace T:=T.pick [2,4,5,6,7,8] rfl
 refine Zln ?_
 refine Zsr ?_
 refine lq T (Zra Z evc) ?_;intro ac T
 refine Zln ?_
 refine Zsr ?_
 refine lq T (Zra Z evc) ?_;intro ac T
 refine Zln ?_
 refine wp_seq ?_
 refine Zsr ?_
 refine lq T (Zra Z evc) ?_;intro ac T
 refine Zln ?_
 refine wp_block ?_
 refine wp_loop_n (fun mz ac wc=>∃ (k:Nat) (air9:Int) (OL:List Int) (fb:Bool) (A3:Option Addr) (c3:Nat) (Io:List (Nat×BA)),mz=p.length - k∧(k≤p.length)∧(plyL s air p g aa=OL++plyL s air9 (p.drop k) (g.drop k) (aa.drop k))∧(fb=OL.all fun x=>decide (0≤x) && decide (x≤b.full))∧(OL.length=k)∧(-(200+580 * (k:Int))≤air9∧air9≤200+580 * (k:Int))∧(Sl 3 1 (.slice A3 OL.length c3) OL.length (ic OL) Io)∧Tm ac 63 [(1,.slice P p.length pc),(2,.slice G g.length n),(3,Zi air9),(4,Zi s),(5,.slice AA aa.length na),(6,Zj g1),(14,.slice A3 OL.length c3),(15,.bool fb),(16,Zi (k:Int))]∧Mem w noEx wc ((g1,.cells [Zi b.full,Zi b.a0,Zi b.a1,.slice A b.cs.length c,.slice D b.ts.length d])::Io)) ?_ ?_
 ·exact ⟨_,0,air,[],true,none,0,[],Z,(Nat.zero_le _),Z,Z,Z,(by omega),(Sl.nil _ _),T.pick [4,5,6,7,8,3,2,1,0] Z,M.mask [true] Z⟩
 clear T M
 rintro mz ac wc ⟨k,air9,OL,fb,A3,c3,Io,hmm1,hk,hO,hF,hOl,hB,hsl,T,M⟩
 refine wp_seq ?_
 refine Zsr ?_
 refine Zg4 T (Zq (Zrm Z (T.e 8 Z))) Z (Zm 1 Z Z) Z (Zl Try.underlying44 0 Z Z) Z (fun _ T=>Zq (rn_lss Z (T.e 2 Z) (T.e 0 Z))) Z ?_;intro ac T
 replace T:=T.pick [0,4,5,6,7,8,9,10,11,12] rfl
 refine Zln ?_
 refine wp_if (T.e 0 Z) ?_ ?_
 ·intro h1
  obtain ⟨q,hkq,hd⟩:=ntc_next (l:=p) (k:=k) (by omega)
  obtain ⟨wy,hky,hd2⟩:=ic_next (l:=g) (k:=k) (by omega)
  obtain ⟨a,hka,hd3⟩:=ic_next (l:=aa) (k:=k) (by omega)
  rw [hd,hd2,hd3,plyL] at hO
  have hgq:=hgp.ok q (List.mem_of_getElem? hkq)
  have hgA:=haa a (List.mem_of_getElem? hka)
  have hm1:=secM (s:=q.sec) (q:=a+s) (by omega) (by omega)
  have haft:=plyL_aft wy air9 (q.sec * (a+s))
  refine Zsk ?_
  refine wp_seq ?_
  refine wp_block ?_
  refine wp_seq ?_
  refine Zgs M (M.mask [true] Z) 13 (by kernel_rfl) Z (by kernel_rfl) ?_
  clear M;intro wc M
  refine Zgq T 0 1 Z (fun _=>(Zrm Z (T.e 1 Z))) ?_;intro ac T
  refine Zgq T 1 3 Z (fun _=>(Zrm Z (T.e 10 Z))) ?_;intro ac T
  refine Zgq T 2 7 Z (fun _=>(Zri (size:=4) k Z (T.e 1 Z) (T.e 0 Z) ⟨_,Try.underlying44,by kernel_rfl⟩ Z (by omega) (SP.at0 (by omega)))) ?_;intro ac T
  refine Zgq T 3 15 Z (fun _=>(Zrg 0 Z (T.e 0 Z))) ?_;intro ac T
  refine gq T 4 31 Z (fun B w' hD hl hS=>(rn_cell (Sp.ntcC0 SP (show Mem w noEx w' _ from hS) (Zz9 _) hkq) Z (T.e 0 Z))) ?_;intro ac T
  refine Zgq T 5 63 Z (fun _=>(Zrm Z (T.e 10 Z))) ?_;intro ac T
  refine Zgq T 6 127 Z (fun _=>(Zrm Z (T.e 15 Z))) ?_;intro ac T
  refine Zgq T 7 255 Z (fun _=>(Zri (size:=1) k Z (T.e 1 Z) (T.e 0 Z) ⟨_,Try.underlying28,by kernel_rfl⟩ Z (by omega) (SAA.at0 (by omega)))) ?_;intro ac T
  refine gq T 8 511 Z (fun B w' hD hl hS=>(rn_cell (Sp.ic0 SAA (show Mem w noEx w' _ from hS) (Zz9 _) hka) Z (T.e 0 Z))) ?_;intro ac T
  refine Zgq T 9 1023 Z (fun _=>(Zrm Z (T.e 13 Z))) ?_;intro ac T
  refine Zgq T 10 2047 Z (fun _=>(rn_add Z (T.e 1 Z) (T.e 0 Z) (by omega))) ?_;intro ac T
  refine Zgq T 11 4095 Z (fun _=>(rn_mul Z (T.e 6 Z) (T.e 0 Z) (by omega))) ?_;intro ac T
  refine Zgq T 12 8191 Z (fun _=>(Zra Z (T.e 0 Z))) ?_;intro ac T
  refine Zgd (by kernel_rfl) ?_
  replace T:=T.pick [0,14,15,16,17,18,19,20,21,22] rfl
  refine Zns ?_
  refine Zsr ?_
  refine Zg5 T (Zq (Zrm Z (T.e 2 Z))) Z (Zm 10 Z Z) Z (fun _ T=>Zq (Zri (size:=1) k Z (T.e 1 Z) (T.e 0 Z) ⟨_,Try.underlying28,by kernel_rfl⟩ Z (by omega) (SG.at0 (by omega)))) Z (fun _ T=>Zq (rn_cell (Sp.ic0 SG M (Zz9 _) hky) Z (T.e 0 Z))) Z (fun _ T=>Zq (rn_eql Z (T.e 0 Z) evc)) Z ?_;intro ac T
  replace T:=T.pick [0,5,6,7,8,9,10,11,12,13,14] rfl
  refine Zln ?_
  refine wp_if (T.e 0 Z) ?_ ?_
  ·intro h2
   refine wp_region_lit ?_
   refine Zg2 T (Zq (Zrm Z (T.e 1 Z))) Z (fun _ T=>Zq (rn_neg Z (T.e 0 Z) (by omega))) Z ?_;intro ac T
   refine l_q (v:=(Zi (-(q.sec * (a+s))))) (T.pick [0,1,2,4,5,6,7,8,9,10,11,12] Z) Z Z Z Z (Zra Z (T.e 0 Z)) ?_;intro ac T
   replace T:=T.pick [0,4,5,6,7,8,9,10,11,12] rfl
   refine Zln ?_
   refine Zsr ?_
   refine Zg3 T (Zq (Zrm Z (T.e 3 Z))) Z (Zm 1 Z Z) Z (fun _ T=>Zq (rn_add Z (T.e 1 Z) (T.e 0 Z) (by omega))) Z ?_;intro ac T
   refine l_q (v:=(Zi (air9+(-(q.sec * (a+s)))))) (T.pick [0,1,2,3,4,5,7,8,9,10,11,12] Z) Z Z Z Z (Zra Z (T.e 0 Z)) ?_;intro ac T
   replace T:=T.pick [0,5,6,7,8,9,10,11,12] rfl
   refine Zln ?_
   refine Zgs M (M.perm [0] Z Z) 17 (by kernel_rfl) Z (by kernel_rfl) ?_
   clear M;intro wc M
   refine Zgq T 0 1 Z (fun _=>(Zrm Z (T.e 6 Z))) ?_;intro ac T
   refine Zgq T 1 3 Z (fun _=>(Zrm Z (T.e 1 Z))) ?_;intro ac T
   refine Zgq T 4 19 Z (fun _=>(Zrm Z (T.e 9 Z))) ?_;intro ac T
   refine gw 2 23 ?_;intro K hK
   refine ow_bs (e:=3) [Zi (air9+(-(q.sec * (a+s))))] M T Z Z Z Z (.cons (T.e 1 Z) .nil) (fun _=>by kernel_rfl) ?_;clear M T;intro g2 wc ac M T
   refine Zso hK _ _ (M.perm [1] Z Z) ?_;clear hK K
   refine g_addU (M.perm [0,1] Z Z) ?_
   refine gw 3 31 ?_;intro K hK
   refine ow_app ([(g2,.cells [Zi (air9+(-(q.sec * (a+s))))]),(g1,.cells [Zi b.full,Zi b.a0,Zi b.a1,.slice A b.cs.length c,.slice D b.ts.length d])]) Try.info3 hsl M (by first | rfl | simp) T Z Z Z Z Try.underlying28 Z Z Z (by omega) (T.e 3 Z) (T.e 0 Z) (Zne (i:=0) Z) Z Z ?_;clear M T;intro ga1 cga1 wc ac M T
   refine Zso hK _ _ (MA.mk (M.mask [false,true,true] Z) (M.mask [false,false,true] Z)) ?_;clear hK K
   refine g_addU M ?_
   refine Zgq T 5 63 Z (fun _=>(Zrm Z (T.e 2 Z))) ?_;intro ac T
   rcases Zx9 fb with h3 | h3
   ·refine g_q (T:=T) (i:=6) Z (by kernel_rfl) (by kernel_rfl:(Zpb 17 63).setIfInBounds 6 true=Zpb 17 127) (si_and si_U (si_and si_U si_U)) (fun _ _ _ h=>h) (Zwy Z Z (T.e 0 Z) h3) Z Z Z (fun _ _ _ _ _=>(Zrm Z (T.e 6 Z))) ?_;intro ac T
    refine g_q (T:=T) (i:=7) Z (by kernel_rfl) (by kernel_rfl:(Zpb 17 127).setIfInBounds 7 true=Zpb 17 255) (si_and si_U (si_and si_U si_U)) (fun _ _ _ h=>h) (Zwy Z Z (T.e 1 Z) h3) Z Z Z (fun _ _ _ _ _=>(rn_geq Z (T.e 0 Z) evc)) ?_;intro ac T
    refine Zgq T 8 511 Z (fun _=>(Zr1 Z (T.e 2 Z) h3 (T.e 0 Z))) ?_;intro ac T
    refine Zgq T 9 1023 Z (fun _=>(Zrm Z (T.e 0 Z))) ?_;intro ac T
    rcases Zx9 (decide (0≤(air9+(-(q.sec * (a+s)))))) with h4 | h4
    ·replace h4:=of_decide_eq_true h4
     refine g_q (T:=T) (i:=10) Z (by kernel_rfl) (by kernel_rfl:(Zpb 17 1023).setIfInBounds 10 true=Zpb 17 2047) (si_and si_U (si_and si_U si_U)) (fun _ _ _ h=>h) (Zwy Z Z (T.e 0 Z) (Zdt h4)) Z Z Z (fun _ _ _ _ _=>(Zrm Z (T.e 10 Z))) ?_;intro ac T
     refine g_q (v:=(Zj g1)) (T:=T) (i:=11) Z (by kernel_rfl) (by kernel_rfl:(Zpb 17 2047).setIfInBounds 11 true=Zpb 17 4095) (si_and si_U (si_and si_U si_U)) (fun _ _ _ h=>h) (Zwy Z Z (T.e 1 Z) (Zdt h4)) Z Z Z (fun _ _ _ _ _=>(Zrg 0 Z (T.e 16 Z))) ?_;intro ac T
     refine g_q (T:=T) (i:=12) Z (by kernel_rfl) (by kernel_rfl:(Zpb 17 4095).setIfInBounds 12 true=Zpb 17 8191) (si_and si_U (si_and si_U si_U)) (fun _ _ _ h=>h) (Zwy Z Z (T.e 2 Z) (Zdt h4)) Z Z Z (fun B w' hD hl hS=>(Zro (Mem.nth (show Mem w noEx w' _ from (MA.lft hS)) 2 Z) Z (T.e 0 Z) Z)) ?_;intro ac T
     refine g_q (T:=T) (i:=13) Z (by kernel_rfl) (by kernel_rfl:(Zpb 17 8191).setIfInBounds 13 true=Zpb 17 16383) (si_and si_U (si_and si_U si_U)) (fun _ _ _ h=>h) (Zwy Z Z (T.e 3 Z) (Zdt h4)) Z Z Z (fun _ _ _ _ _=>(rn_leq Z (T.e 2 Z) (T.e 0 Z))) ?_;intro ac T
     refine Zgq T 14 32767 Z (fun _=>(Zr1 Z (T.e 4 Z) (Zdt h4) (T.e 0 Z))) ?_;intro ac T
     refine g_q (v:=(.slice (some ⟨ga1,0,none⟩) (OL.length+1) cga1)) (T:=T.pick [0,1,2,3,4,5,6,7,8,9,10,11,12,13,14,15,16,17,18,19,20,22,23] Z) (i:=15) Z (by kernel_rfl) (by kernel_rfl:(Zpb 17 32767).setIfInBounds 15 true=Zpb 17 65535) (si_and si_U (si_and si_U si_U)) (fun _ _ _ h=>h) Z Z Z Z (fun _ _ _ _ _=>(Zra Z (T.e 10 Z))) ?_;intro ac T
     refine g_q (v:=(.bool (decide ((air9+(-(q.sec * (a+s))))≤b.full)))) (T:=T.pick [0,1,2,3,4,5,6,7,8,9,10,11,12,13,14,15,16,17,18,19,20,21,23] Z) (i:=16) Z (by kernel_rfl) (by kernel_rfl:(Zpb 17 65535).setIfInBounds 16 true=Zpb 17 131071) (si_and si_U (si_and si_U si_U)) (fun _ _ _ h=>h) Z Z Z Z (fun _ _ _ _ _=>(Zra Z (T.e 1 Z))) ?_;intro ac T
     refine Zgd (by kernel_rfl) ?_
     replace T:=T.pick [0,1,3,4,5,6,9,10,17,18,19,20,21,22,23] rfl
     replace M:=M.mask [true,false,true] rfl
     refine Znb ?_
     refine nm_then ?_
     refine wp_region_lit ?_
     refine Zg2 T (Zq (Zrm Z (T.e 14 Z))) Z (fun _ T=>Zq (rn_add Z (T.e 0 Z) evc (by omega))) Z ?_;intro ac T
     refine l_q (v:=(Zi ((k:Int)+1))) (T.pick [0,1,2,3,4,5,6,7,8,9,10,11,12,13,14,15] Z) Z Z Z Z (Zra Z (T.e 0 Z)) ?_;intro ac T
     replace T:=T.pick [0,3,4,5,6,7,8,9,10,11,12,13,14,15,16] rfl
     refine Zln ?_
     have e9:OL.length+1=(OL++[((air9+(-(q.sec * (a+s)))):Int)]).length:=by simp
     have e8:((ic OL)++[Zi (air9+(-(q.sec * (a+s))))])=ic (OL++[((air9+(-(q.sec * (a+s)))):Int)]):=by rw [← ic_snoc]
     rw [e9,e8] at M
     rw [e9] at T
     clear e9 e8
     exact ⟨_,by omega,k+1,(air9+(-(q.sec * (a+s)))),(OL++[((air9+(-(q.sec * (a+s)))):Int)]),(decide ((air9+(-(q.sec * (a+s))))≤b.full)),_,_,[(ga1,.row 3 1 (OL++[((air9+(-(q.sec * (a+s)))):Int)]).length (ic (OL++[((air9+(-(q.sec * (a+s)))):Int)])) cga1)],Z,(by omega),(by rw [hO,← haft,List.append_assoc];(first | rw [if_pos (by assumption)] | rw [if_neg (by assumption)]) <;> rfl),(by rw [List.all_append,← hF];clear haft hO hB;simp_all <;> omega),(by simp [hOl]),(by push_cast;omega),(Sl.row _ _ _ _ _ _),T.pick [10,11,9,12,13,14,2,1,0] Z,((M.permT [1,0] 2 Z Z Z Z).sub (Zsl ([(g1,.cells [Zi b.full,Zi b.a0,Zi b.a1,.slice A b.cs.length c,.slice D b.ts.length d]),(ga1,.row 3 1 (OL++[((air9+(-(q.sec * (a+s)))):Int)]).length (ic (OL++[((air9+(-(q.sec * (a+s)))):Int)])) cga1)]:List (Nat×BA)) _))⟩
    replace h4:=of_decide_eq_false h4
    refine g_pass (T:=T) (i:=10) Z (by kernel_rfl) (by kernel_rfl:(Zpb 17 1023).setIfInBounds 10 true=Zpb 17 2047) (si_and si_U (si_and si_U si_U)) (fun _ _ _ h=>h) (Zwn Z Z (T.e 0 Z) (Zdf h4)) Z Z Z ?_;intro ac T
    refine g_pass (T:=T) (i:=11) Z (by kernel_rfl) (by kernel_rfl:(Zpb 17 2047).setIfInBounds 11 true=Zpb 17 4095) (si_and si_U (si_and si_U si_U)) (fun _ _ _ h=>h) (Zwn Z Z (T.e 1 Z) (Zdf h4)) Z Z Z ?_;intro ac T
    refine g_pass (T:=T) (i:=12) Z (by kernel_rfl) (by kernel_rfl:(Zpb 17 4095).setIfInBounds 12 true=Zpb 17 8191) (si_and si_U (si_and si_U si_U)) (fun _ _ _ h=>h) (Zwn Z Z (T.e 2 Z) (Zdf h4)) Z Z Z ?_;intro ac T
    refine g_pass (T:=T) (i:=13) Z (by kernel_rfl) (by kernel_rfl:(Zpb 17 8191).setIfInBounds 13 true=Zpb 17 16383) (si_and si_U (si_and si_U si_U)) (fun _ _ _ h=>h) (Zwn Z Z (T.e 3 Z) (Zdf h4)) Z Z Z ?_;intro ac T
    refine Zgq T 14 32767 Z (fun _=>(Zr0 Z (T.e 4 Z) (Zdf h4) evc)) ?_;intro ac T
    refine g_q (v:=(.slice (some ⟨ga1,0,none⟩) (OL.length+1) cga1)) (T:=T.pick [0,1,2,3,4,5,6,7,8,9,10,11,12,13,14,15,16,17,18,19,20,22,23] Z) (i:=15) Z (by kernel_rfl) (by kernel_rfl:(Zpb 17 32767).setIfInBounds 15 true=Zpb 17 65535) (si_and si_U (si_and si_U si_U)) (fun _ _ _ h=>h) Z Z Z Z (fun _ _ _ _ _=>(Zra Z (T.e 10 Z))) ?_;intro ac T
    refine g_q (v:=(.bool false)) (T:=T.pick [0,1,2,3,4,5,6,7,8,9,10,11,12,13,14,15,16,17,18,19,20,21,23] Z) (i:=16) Z (by kernel_rfl) (by kernel_rfl:(Zpb 17 65535).setIfInBounds 16 true=Zpb 17 131071) (si_and si_U (si_and si_U si_U)) (fun _ _ _ h=>h) Z Z Z Z (fun _ _ _ _ _=>(Zra Z (T.e 1 Z))) ?_;intro ac T
    refine Zgd (by kernel_rfl) ?_
    replace T:=T.pick [0,1,3,4,5,6,9,10,17,18,19,20,21,22,23] rfl
    replace M:=M.mask [true,false,true] rfl
    refine Znb ?_
    refine nm_then ?_
    refine wp_region_lit ?_
    refine Zg2 T (Zq (Zrm Z (T.e 14 Z))) Z (fun _ T=>Zq (rn_add Z (T.e 0 Z) evc (by omega))) Z ?_;intro ac T
    refine l_q (v:=(Zi ((k:Int)+1))) (T.pick [0,1,2,3,4,5,6,7,8,9,10,11,12,13,14,15] Z) Z Z Z Z (Zra Z (T.e 0 Z)) ?_;intro ac T
    replace T:=T.pick [0,3,4,5,6,7,8,9,10,11,12,13,14,15,16] rfl
    refine Zln ?_
    have e9:OL.length+1=(OL++[((air9+(-(q.sec * (a+s)))):Int)]).length:=by simp
    have e8:((ic OL)++[Zi (air9+(-(q.sec * (a+s))))])=ic (OL++[((air9+(-(q.sec * (a+s)))):Int)]):=by rw [← ic_snoc]
    rw [e9,e8] at M
    rw [e9] at T
    clear e9 e8
    exact ⟨_,by omega,k+1,(air9+(-(q.sec * (a+s)))),(OL++[((air9+(-(q.sec * (a+s)))):Int)]),false,_,_,[(ga1,.row 3 1 (OL++[((air9+(-(q.sec * (a+s)))):Int)]).length (ic (OL++[((air9+(-(q.sec * (a+s)))):Int)])) cga1)],Z,(by omega),(by rw [hO,← haft,List.append_assoc];(first | rw [if_pos (by assumption)] | rw [if_neg (by assumption)]) <;> rfl),(by rw [List.all_append,← hF];clear haft hO hB;simp_all <;> omega),(by simp [hOl]),(by push_cast;omega),(Sl.row _ _ _ _ _ _),T.pick [10,11,9,12,13,14,2,1,0] Z,((M.permT [1,0] 2 Z Z Z Z).sub (Zsl ([(g1,.cells [Zi b.full,Zi b.a0,Zi b.a1,.slice A b.cs.length c,.slice D b.ts.length d]),(ga1,.row 3 1 (OL++[((air9+(-(q.sec * (a+s)))):Int)]).length (ic (OL++[((air9+(-(q.sec * (a+s)))):Int)])) cga1)]:List (Nat×BA)) _))⟩
   refine g_pass (T:=T) (i:=6) Z (by kernel_rfl) (by kernel_rfl:(Zpb 17 63).setIfInBounds 6 true=Zpb 17 127) (si_and si_U (si_and si_U si_U)) (fun _ _ _ h=>h) (Zwn Z Z (T.e 0 Z) h3) Z Z Z ?_;intro ac T
   refine g_pass (T:=T) (i:=7) Z (by kernel_rfl) (by kernel_rfl:(Zpb 17 127).setIfInBounds 7 true=Zpb 17 255) (si_and si_U (si_and si_U si_U)) (fun _ _ _ h=>h) (Zwn Z Z (T.e 1 Z) h3) Z Z Z ?_;intro ac T
   refine Zgq T 8 511 Z (fun _=>(Zr0 Z (T.e 2 Z) h3 evc)) ?_;intro ac T
   refine Zgq T 9 1023 Z (fun _=>(Zrm Z (T.e 0 Z))) ?_;intro ac T
   refine g_pass (T:=T) (i:=10) Z (by kernel_rfl) (by kernel_rfl:(Zpb 17 1023).setIfInBounds 10 true=Zpb 17 2047) (si_and si_U (si_and si_U si_U)) (fun _ _ _ h=>h) (Zwn Z Z (T.e 0 Z) Z) Z Z Z ?_;intro ac T
   refine g_pass (T:=T) (i:=11) Z (by kernel_rfl) (by kernel_rfl:(Zpb 17 2047).setIfInBounds 11 true=Zpb 17 4095) (si_and si_U (si_and si_U si_U)) (fun _ _ _ h=>h) (Zwn Z Z (T.e 1 Z) Z) Z Z Z ?_;intro ac T
   refine g_pass (T:=T) (i:=12) Z (by kernel_rfl) (by kernel_rfl:(Zpb 17 4095).setIfInBounds 12 true=Zpb 17 8191) (si_and si_U (si_and si_U si_U)) (fun _ _ _ h=>h) (Zwn Z Z (T.e 2 Z) Z) Z Z Z ?_;intro ac T
   refine g_pass (T:=T) (i:=13) Z (by kernel_rfl) (by kernel_rfl:(Zpb 17 8191).setIfInBounds 13 true=Zpb 17 16383) (si_and si_U (si_and si_U si_U)) (fun _ _ _ h=>h) (Zwn Z Z (T.e 3 Z) Z) Z Z Z ?_;intro ac T
   refine Zgq T 14 32767 Z (fun _=>(Zr0 Z (T.e 4 Z) Z evc)) ?_;intro ac T
   refine g_q (v:=(.slice (some ⟨ga1,0,none⟩) (OL.length+1) cga1)) (T:=T.pick [0,1,2,3,4,5,6,7,8,9,10,11,12,13,14,15,16,17,18,19,20,22,23] Z) (i:=15) Z (by kernel_rfl) (by kernel_rfl:(Zpb 17 32767).setIfInBounds 15 true=Zpb 17 65535) (si_and si_U (si_and si_U si_U)) (fun _ _ _ h=>h) Z Z Z Z (fun _ _ _ _ _=>(Zra Z (T.e 10 Z))) ?_;intro ac T
   refine g_q (v:=(.bool false)) (T:=T.pick [0,1,2,3,4,5,6,7,8,9,10,11,12,13,14,15,16,17,18,19,20,21,23] Z) (i:=16) Z (by kernel_rfl) (by kernel_rfl:(Zpb 17 65535).setIfInBounds 16 true=Zpb 17 131071) (si_and si_U (si_and si_U si_U)) (fun _ _ _ h=>h) Z Z Z Z (fun _ _ _ _ _=>(Zra Z (T.e 1 Z))) ?_;intro ac T
   refine Zgd (by kernel_rfl) ?_
   replace T:=T.pick [0,1,3,4,5,6,9,10,17,18,19,20,21,22,23] rfl
   replace M:=M.mask [true,false,true] rfl
   refine Znb ?_
   refine nm_then ?_
   refine wp_region_lit ?_
   refine Zg2 T (Zq (Zrm Z (T.e 14 Z))) Z (fun _ T=>Zq (rn_add Z (T.e 0 Z) evc (by omega))) Z ?_;intro ac T
   refine l_q (v:=(Zi ((k:Int)+1))) (T.pick [0,1,2,3,4,5,6,7,8,9,10,11,12,13,14,15] Z) Z Z Z Z (Zra Z (T.e 0 Z)) ?_;intro ac T
   replace T:=T.pick [0,3,4,5,6,7,8,9,10,11,12,13,14,15,16] rfl
   refine Zln ?_
   have e9:OL.length+1=(OL++[((air9+(-(q.sec * (a+s)))):Int)]).length:=by simp
   have e8:((ic OL)++[Zi (air9+(-(q.sec * (a+s))))])=ic (OL++[((air9+(-(q.sec * (a+s)))):Int)]):=by rw [← ic_snoc]
   rw [e9,e8] at M
   rw [e9] at T
   clear e9 e8
   exact ⟨_,by omega,k+1,(air9+(-(q.sec * (a+s)))),(OL++[((air9+(-(q.sec * (a+s)))):Int)]),false,_,_,[(ga1,.row 3 1 (OL++[((air9+(-(q.sec * (a+s)))):Int)]).length (ic (OL++[((air9+(-(q.sec * (a+s)))):Int)])) cga1)],Z,(by omega),(by rw [hO,← haft,List.append_assoc];(first | rw [if_pos (by assumption)] | rw [if_neg (by assumption)]) <;> rfl),(by rw [List.all_append,← hF];clear haft hO hB;simp_all <;> omega),(by simp [hOl]),(by push_cast;omega),(Sl.row _ _ _ _ _ _),T.pick [10,11,9,12,13,14,2,1,0] Z,((M.permT [1,0] 2 Z Z Z Z).sub (Zsl ([(g1,.cells [Zi b.full,Zi b.a0,Zi b.a1,.slice A b.cs.length c,.slice D b.ts.length d]),(ga1,.row 3 1 (OL++[((air9+(-(q.sec * (a+s)))):Int)]).length (ic (OL++[((air9+(-(q.sec * (a+s)))):Int)])) cga1)]:List (Nat×BA)) _))⟩
  intro h2
  refine Zsk ?_
  refine Zsr ?_
  refine Zg3 T (Zq (Zrm Z (T.e 4 Z))) Z (Zm 2 Z Z) Z (fun _ T=>Zq (rn_add Z (T.e 1 Z) (T.e 0 Z) (by omega))) Z ?_;intro ac T
  refine l_q (v:=(Zi (air9+(q.sec * (a+s))))) (T.pick [0,1,2,3,4,5,6,8,9,10,11,12,13] Z) Z Z Z Z (Zra Z (T.e 0 Z)) ?_;intro ac T
  replace T:=T.pick [0,6,7,8,9,10,11,12,13] rfl
  refine Zln ?_
  refine Zgs M (M.perm [0] Z Z) 17 (by kernel_rfl) Z (by kernel_rfl) ?_
  clear M;intro wc M
  refine Zgq T 0 1 Z (fun _=>(Zrm Z (T.e 6 Z))) ?_;intro ac T
  refine Zgq T 1 3 Z (fun _=>(Zrm Z (T.e 1 Z))) ?_;intro ac T
  refine Zgq T 4 19 Z (fun _=>(Zrm Z (T.e 9 Z))) ?_;intro ac T
  refine gw 2 23 ?_;intro K hK
  refine ow_bs (e:=3) [Zi (air9+(q.sec * (a+s)))] M T Z Z Z Z (.cons (T.e 1 Z) .nil) (fun _=>by kernel_rfl) ?_;clear M T;intro g3 wc ac M T
  refine Zso hK _ _ (M.perm [1] Z Z) ?_;clear hK K
  refine g_addU (M.perm [0,1] Z Z) ?_
  refine gw 3 31 ?_;intro K hK
  refine ow_app ([(g3,.cells [Zi (air9+(q.sec * (a+s)))]),(g1,.cells [Zi b.full,Zi b.a0,Zi b.a1,.slice A b.cs.length c,.slice D b.ts.length d])]) Try.info3 hsl M (by first | rfl | simp) T Z Z Z Z Try.underlying28 Z Z Z (by omega) (T.e 3 Z) (T.e 0 Z) (Zne (i:=0) Z) Z Z ?_;clear M T;intro ga2 cga2 wc ac M T
  refine Zso hK _ _ (MA.mk (M.mask [false,true,true] Z) (M.mask [false,false,true] Z)) ?_;clear hK K
  refine g_addU M ?_
  refine Zgq T 5 63 Z (fun _=>(Zrm Z (T.e 2 Z))) ?_;intro ac T
  rcases Zx9 fb with h5 | h5
  ·refine g_q (T:=T) (i:=6) Z (by kernel_rfl) (by kernel_rfl:(Zpb 17 63).setIfInBounds 6 true=Zpb 17 127) (si_and si_U (si_and si_U si_U)) (fun _ _ _ h=>h) (Zwy Z Z (T.e 0 Z) h5) Z Z Z (fun _ _ _ _ _=>(Zrm Z (T.e 6 Z))) ?_;intro ac T
   refine g_q (T:=T) (i:=7) Z (by kernel_rfl) (by kernel_rfl:(Zpb 17 127).setIfInBounds 7 true=Zpb 17 255) (si_and si_U (si_and si_U si_U)) (fun _ _ _ h=>h) (Zwy Z Z (T.e 1 Z) h5) Z Z Z (fun _ _ _ _ _=>(rn_geq Z (T.e 0 Z) evc)) ?_;intro ac T
   refine Zgq T 8 511 Z (fun _=>(Zr1 Z (T.e 2 Z) h5 (T.e 0 Z))) ?_;intro ac T
   refine Zgq T 9 1023 Z (fun _=>(Zrm Z (T.e 0 Z))) ?_;intro ac T
   rcases Zx9 (decide (0≤(air9+(q.sec * (a+s))))) with h6 | h6
   ·replace h6:=of_decide_eq_true h6
    refine g_q (T:=T) (i:=10) Z (by kernel_rfl) (by kernel_rfl:(Zpb 17 1023).setIfInBounds 10 true=Zpb 17 2047) (si_and si_U (si_and si_U si_U)) (fun _ _ _ h=>h) (Zwy Z Z (T.e 0 Z) (Zdt h6)) Z Z Z (fun _ _ _ _ _=>(Zrm Z (T.e 10 Z))) ?_;intro ac T
    refine g_q (v:=(Zj g1)) (T:=T) (i:=11) Z (by kernel_rfl) (by kernel_rfl:(Zpb 17 2047).setIfInBounds 11 true=Zpb 17 4095) (si_and si_U (si_and si_U si_U)) (fun _ _ _ h=>h) (Zwy Z Z (T.e 1 Z) (Zdt h6)) Z Z Z (fun _ _ _ _ _=>(Zrg 0 Z (T.e 16 Z))) ?_;intro ac T
    refine g_q (T:=T) (i:=12) Z (by kernel_rfl) (by kernel_rfl:(Zpb 17 4095).setIfInBounds 12 true=Zpb 17 8191) (si_and si_U (si_and si_U si_U)) (fun _ _ _ h=>h) (Zwy Z Z (T.e 2 Z) (Zdt h6)) Z Z Z (fun B w' hD hl hS=>(Zro (Mem.nth (show Mem w noEx w' _ from (MA.lft hS)) 2 Z) Z (T.e 0 Z) Z)) ?_;intro ac T
    refine g_q (T:=T) (i:=13) Z (by kernel_rfl) (by kernel_rfl:(Zpb 17 8191).setIfInBounds 13 true=Zpb 17 16383) (si_and si_U (si_and si_U si_U)) (fun _ _ _ h=>h) (Zwy Z Z (T.e 3 Z) (Zdt h6)) Z Z Z (fun _ _ _ _ _=>(rn_leq Z (T.e 2 Z) (T.e 0 Z))) ?_;intro ac T
    refine Zgq T 14 32767 Z (fun _=>(Zr1 Z (T.e 4 Z) (Zdt h6) (T.e 0 Z))) ?_;intro ac T
    refine g_q (v:=(.slice (some ⟨ga2,0,none⟩) (OL.length+1) cga2)) (T:=T.pick [0,1,2,3,4,5,6,7,8,9,10,11,12,13,14,15,16,17,18,19,20,22,23] Z) (i:=15) Z (by kernel_rfl) (by kernel_rfl:(Zpb 17 32767).setIfInBounds 15 true=Zpb 17 65535) (si_and si_U (si_and si_U si_U)) (fun _ _ _ h=>h) Z Z Z Z (fun _ _ _ _ _=>(Zra Z (T.e 10 Z))) ?_;intro ac T
    refine g_q (v:=(.bool (decide ((air9+(q.sec * (a+s)))≤b.full)))) (T:=T.pick [0,1,2,3,4,5,6,7,8,9,10,11,12,13,14,15,16,17,18,19,20,21,23] Z) (i:=16) Z (by kernel_rfl) (by kernel_rfl:(Zpb 17 65535).setIfInBounds 16 true=Zpb 17 131071) (si_and si_U (si_and si_U si_U)) (fun _ _ _ h=>h) Z Z Z Z (fun _ _ _ _ _=>(Zra Z (T.e 1 Z))) ?_;intro ac T
    refine Zgd (by kernel_rfl) ?_
    replace T:=T.pick [0,1,3,4,5,6,9,10,17,18,19,20,21,22,23] rfl
    replace M:=M.mask [true,false,true] rfl
    refine Znb ?_
    refine nm_then ?_
    refine wp_region_lit ?_
    refine Zg2 T (Zq (Zrm Z (T.e 14 Z))) Z (fun _ T=>Zq (rn_add Z (T.e 0 Z) evc (by omega))) Z ?_;intro ac T
    refine l_q (v:=(Zi ((k:Int)+1))) (T.pick [0,1,2,3,4,5,6,7,8,9,10,11,12,13,14,15] Z) Z Z Z Z (Zra Z (T.e 0 Z)) ?_;intro ac T
    replace T:=T.pick [0,3,4,5,6,7,8,9,10,11,12,13,14,15,16] rfl
    refine Zln ?_
    have e9:OL.length+1=(OL++[((air9+(q.sec * (a+s))):Int)]).length:=by simp
    have e8:((ic OL)++[Zi (air9+(q.sec * (a+s)))])=ic (OL++[((air9+(q.sec * (a+s))):Int)]):=by rw [← ic_snoc]
    rw [e9,e8] at M
    rw [e9] at T
    clear e9 e8
    exact ⟨_,by omega,k+1,(air9+(q.sec * (a+s))),(OL++[((air9+(q.sec * (a+s))):Int)]),(decide ((air9+(q.sec * (a+s)))≤b.full)),_,_,[(ga2,.row 3 1 (OL++[((air9+(q.sec * (a+s))):Int)]).length (ic (OL++[((air9+(q.sec * (a+s))):Int)])) cga2)],Z,(by omega),(by rw [hO,← haft,List.append_assoc];(first | rw [if_pos (by assumption)] | rw [if_neg (by assumption)]) <;> rfl),(by rw [List.all_append,← hF];clear haft hO hB;simp_all <;> omega),(by simp [hOl]),(by push_cast;omega),(Sl.row _ _ _ _ _ _),T.pick [10,11,9,12,13,14,2,1,0] Z,((M.permT [1,0] 2 Z Z Z Z).sub (Zsl ([(g1,.cells [Zi b.full,Zi b.a0,Zi b.a1,.slice A b.cs.length c,.slice D b.ts.length d]),(ga2,.row 3 1 (OL++[((air9+(q.sec * (a+s))):Int)]).length (ic (OL++[((air9+(q.sec * (a+s))):Int)])) cga2)]:List (Nat×BA)) _))⟩
   replace h6:=of_decide_eq_false h6
   refine g_pass (T:=T) (i:=10) Z (by kernel_rfl) (by kernel_rfl:(Zpb 17 1023).setIfInBounds 10 true=Zpb 17 2047) (si_and si_U (si_and si_U si_U)) (fun _ _ _ h=>h) (Zwn Z Z (T.e 0 Z) (Zdf h6)) Z Z Z ?_;intro ac T
   refine g_pass (T:=T) (i:=11) Z (by kernel_rfl) (by kernel_rfl:(Zpb 17 2047).setIfInBounds 11 true=Zpb 17 4095) (si_and si_U (si_and si_U si_U)) (fun _ _ _ h=>h) (Zwn Z Z (T.e 1 Z) (Zdf h6)) Z Z Z ?_;intro ac T
   refine g_pass (T:=T) (i:=12) Z (by kernel_rfl) (by kernel_rfl:(Zpb 17 4095).setIfInBounds 12 true=Zpb 17 8191) (si_and si_U (si_and si_U si_U)) (fun _ _ _ h=>h) (Zwn Z Z (T.e 2 Z) (Zdf h6)) Z Z Z ?_;intro ac T
   refine g_pass (T:=T) (i:=13) Z (by kernel_rfl) (by kernel_rfl:(Zpb 17 8191).setIfInBounds 13 true=Zpb 17 16383) (si_and si_U (si_and si_U si_U)) (fun _ _ _ h=>h) (Zwn Z Z (T.e 3 Z) (Zdf h6)) Z Z Z ?_;intro ac T
   refine Zgq T 14 32767 Z (fun _=>(Zr0 Z (T.e 4 Z) (Zdf h6) evc)) ?_;intro ac T
   refine g_q (v:=(.slice (some ⟨ga2,0,none⟩) (OL.length+1) cga2)) (T:=T.pick [0,1,2,3,4,5,6,7,8,9,10,11,12,13,14,15,16,17,18,19,20,22,23] Z) (i:=15) Z (by kernel_rfl) (by kernel_rfl:(Zpb 17 32767).setIfInBounds 15 true=Zpb 17 65535) (si_and si_U (si_and si_U si_U)) (fun _ _ _ h=>h) Z Z Z Z (fun _ _ _ _ _=>(Zra Z (T.e 10 Z))) ?_;intro ac T
   refine g_q (v:=(.bool false)) (T:=T.pick [0,1,2,3,4,5,6,7,8,9,10,11,12,13,14,15,16,17,18,19,20,21,23] Z) (i:=16) Z (by kernel_rfl) (by kernel_rfl:(Zpb 17 65535).setIfInBounds 16 true=Zpb 17 131071) (si_and si_U (si_and si_U si_U)) (fun _ _ _ h=>h) Z Z Z Z (fun _ _ _ _ _=>(Zra Z (T.e 1 Z))) ?_;intro ac T
   refine Zgd (by kernel_rfl) ?_
   replace T:=T.pick [0,1,3,4,5,6,9,10,17,18,19,20,21,22,23] rfl
   replace M:=M.mask [true,false,true] rfl
   refine Znb ?_
   refine nm_then ?_
   refine wp_region_lit ?_
   refine Zg2 T (Zq (Zrm Z (T.e 14 Z))) Z (fun _ T=>Zq (rn_add Z (T.e 0 Z) evc (by omega))) Z ?_;intro ac T
   refine l_q (v:=(Zi ((k:Int)+1))) (T.pick [0,1,2,3,4,5,6,7,8,9,10,11,12,13,14,15] Z) Z Z Z Z (Zra Z (T.e 0 Z)) ?_;intro ac T
   replace T:=T.pick [0,3,4,5,6,7,8,9,10,11,12,13,14,15,16] rfl
   refine Zln ?_
   have e9:OL.length+1=(OL++[((air9+(q.sec * (a+s))):Int)]).length:=by simp
   have e8:((ic OL)++[Zi (air9+(q.sec * (a+s)))])=ic (OL++[((air9+(q.sec * (a+s))):Int)]):=by rw [← ic_snoc]
   rw [e9,e8] at M
   rw [e9] at T
   clear e9 e8
   exact ⟨_,by omega,k+1,(air9+(q.sec * (a+s))),(OL++[((air9+(q.sec * (a+s))):Int)]),false,_,_,[(ga2,.row 3 1 (OL++[((air9+(q.sec * (a+s))):Int)]).length (ic (OL++[((air9+(q.sec * (a+s))):Int)])) cga2)],Z,(by omega),(by rw [hO,← haft,List.append_assoc];(first | rw [if_pos (by assumption)] | rw [if_neg (by assumption)]) <;> rfl),(by rw [List.all_append,← hF];clear haft hO hB;simp_all <;> omega),(by simp [hOl]),(by push_cast;omega),(Sl.row _ _ _ _ _ _),T.pick [10,11,9,12,13,14,2,1,0] Z,((M.permT [1,0] 2 Z Z Z Z).sub (Zsl ([(g1,.cells [Zi b.full,Zi b.a0,Zi b.a1,.slice A b.cs.length c,.slice D b.ts.length d]),(ga2,.row 3 1 (OL++[((air9+(q.sec * (a+s))):Int)]).length (ic (OL++[((air9+(q.sec * (a+s))):Int)])) cga2)]:List (Nat×BA)) _))⟩
  refine g_pass (T:=T) (i:=6) Z (by kernel_rfl) (by kernel_rfl:(Zpb 17 63).setIfInBounds 6 true=Zpb 17 127) (si_and si_U (si_and si_U si_U)) (fun _ _ _ h=>h) (Zwn Z Z (T.e 0 Z) h5) Z Z Z ?_;intro ac T
  refine g_pass (T:=T) (i:=7) Z (by kernel_rfl) (by kernel_rfl:(Zpb 17 127).setIfInBounds 7 true=Zpb 17 255) (si_and si_U (si_and si_U si_U)) (fun _ _ _ h=>h) (Zwn Z Z (T.e 1 Z) h5) Z Z Z ?_;intro ac T
  refine Zgq T 8 511 Z (fun _=>(Zr0 Z (T.e 2 Z) h5 evc)) ?_;intro ac T
  refine Zgq T 9 1023 Z (fun _=>(Zrm Z (T.e 0 Z))) ?_;intro ac T
  refine g_pass (T:=T) (i:=10) Z (by kernel_rfl) (by kernel_rfl:(Zpb 17 1023).setIfInBounds 10 true=Zpb 17 2047) (si_and si_U (si_and si_U si_U)) (fun _ _ _ h=>h) (Zwn Z Z (T.e 0 Z) Z) Z Z Z ?_;intro ac T
  refine g_pass (T:=T) (i:=11) Z (by kernel_rfl) (by kernel_rfl:(Zpb 17 2047).setIfInBounds 11 true=Zpb 17 4095) (si_and si_U (si_and si_U si_U)) (fun _ _ _ h=>h) (Zwn Z Z (T.e 1 Z) Z) Z Z Z ?_;intro ac T
  refine g_pass (T:=T) (i:=12) Z (by kernel_rfl) (by kernel_rfl:(Zpb 17 4095).setIfInBounds 12 true=Zpb 17 8191) (si_and si_U (si_and si_U si_U)) (fun _ _ _ h=>h) (Zwn Z Z (T.e 2 Z) Z) Z Z Z ?_;intro ac T
  refine g_pass (T:=T) (i:=13) Z (by kernel_rfl) (by kernel_rfl:(Zpb 17 8191).setIfInBounds 13 true=Zpb 17 16383) (si_and si_U (si_and si_U si_U)) (fun _ _ _ h=>h) (Zwn Z Z (T.e 3 Z) Z) Z Z Z ?_;intro ac T
  refine Zgq T 14 32767 Z (fun _=>(Zr0 Z (T.e 4 Z) Z evc)) ?_;intro ac T
  refine g_q (v:=(.slice (some ⟨ga2,0,none⟩) (OL.length+1) cga2)) (T:=T.pick [0,1,2,3,4,5,6,7,8,9,10,11,12,13,14,15,16,17,18,19,20,22,23] Z) (i:=15) Z (by kernel_rfl) (by kernel_rfl:(Zpb 17 32767).setIfInBounds 15 true=Zpb 17 65535) (si_and si_U (si_and si_U si_U)) (fun _ _ _ h=>h) Z Z Z Z (fun _ _ _ _ _=>(Zra Z (T.e 10 Z))) ?_;intro ac T
  refine g_q (v:=(.bool false)) (T:=T.pick [0,1,2,3,4,5,6,7,8,9,10,11,12,13,14,15,16,17,18,19,20,21,23] Z) (i:=16) Z (by kernel_rfl) (by kernel_rfl:(Zpb 17 65535).setIfInBounds 16 true=Zpb 17 131071) (si_and si_U (si_and si_U si_U)) (fun _ _ _ h=>h) Z Z Z Z (fun _ _ _ _ _=>(Zra Z (T.e 1 Z))) ?_;intro ac T
  refine Zgd (by kernel_rfl) ?_
  replace T:=T.pick [0,1,3,4,5,6,9,10,17,18,19,20,21,22,23] rfl
  replace M:=M.mask [true,false,true] rfl
  refine Znb ?_
  refine nm_then ?_
  refine wp_region_lit ?_
  refine Zg2 T (Zq (Zrm Z (T.e 14 Z))) Z (fun _ T=>Zq (rn_add Z (T.e 0 Z) evc (by omega))) Z ?_;intro ac T
  refine l_q (v:=(Zi ((k:Int)+1))) (T.pick [0,1,2,3,4,5,6,7,8,9,10,11,12,13,14,15] Z) Z Z Z Z (Zra Z (T.e 0 Z)) ?_;intro ac T
  replace T:=T.pick [0,3,4,5,6,7,8,9,10,11,12,13,14,15,16] rfl
  refine Zln ?_
  have e9:OL.length+1=(OL++[((air9+(q.sec * (a+s))):Int)]).length:=by simp
  have e8:((ic OL)++[Zi (air9+(q.sec * (a+s)))])=ic (OL++[((air9+(q.sec * (a+s))):Int)]):=by rw [← ic_snoc]
  rw [e9,e8] at M
  rw [e9] at T
  clear e9 e8
  exact ⟨_,by omega,k+1,(air9+(q.sec * (a+s))),(OL++[((air9+(q.sec * (a+s))):Int)]),false,_,_,[(ga2,.row 3 1 (OL++[((air9+(q.sec * (a+s))):Int)]).length (ic (OL++[((air9+(q.sec * (a+s))):Int)])) cga2)],Z,(by omega),(by rw [hO,← haft,List.append_assoc];(first | rw [if_pos (by assumption)] | rw [if_neg (by assumption)]) <;> rfl),(by rw [List.all_append,← hF];clear haft hO hB;simp_all <;> omega),(by simp [hOl]),(by push_cast;omega),(Sl.row _ _ _ _ _ _),T.pick [10,11,9,12,13,14,2,1,0] Z,((M.permT [1,0] 2 Z Z Z Z).sub (Zsl ([(g1,.cells [Zi b.full,Zi b.a0,Zi b.a1,.slice A b.cs.length c,.slice D b.ts.length d]),(ga2,.row 3 1 (OL++[((air9+(q.sec * (a+s))):Int)]).length (ic (OL++[((air9+(q.sec * (a+s))):Int)])) cga2)]:List (Nat×BA)) _))⟩
 intro h1
 rw [List.drop_of_length_le (l:=p) (by omega),show plyL s air9 [] (g.drop k) (aa.drop k)=[] by unfold plyL;rfl,Zx4] at hO
 refine wp_exit ?_
 refine Zet ?_
 refine Zet ?_
 refine ex_hit ?_
 refine nm_then ?_
 refine Zsr ?_
 refine Zg4 T (Zq (Zrm Z (T.e 7 Z))) Z (Zm 9 Z Z) Z (Za 1 Z Z) Z (Za 1 Z Z) Z ?_;intro ac T
 refine wpList_nil ?_
 replace T:=T.pick [0,1] rfl
 replace M:=M.mask [false] rfl
 refine Znr ?_
 refine rt_2 T Z (T.e 1 Z) (T.e 0 Z) ?_
 rw [show plyF b.full s air p g aa=fb by rw [hF];unfold plyF;rw [hO],hO]
 exact ⟨A3,c3,Io,Z,hsl.spV (by simp [ic_length]),M.mask [] Z⟩
end
section
open Go.RowKit Go.Proofs.Ytoheddpnnjldgaa.Bq
theorem sumL_bd:∀ {g:List Int},(∀ v∈g,0≤v∧v≤3)→0≤sumL g∧sumL g≤3 * g.length
 | [],_=>by simp [sumL]
 | x::g,h=>by
  have h1:=sumL_bd (g:=g) fun v hv=>h v (Zz1 hv)
  have h2:=h x Zz2
  unfold sumL
  simp only [Zx1]
  push_cast
  omega
theorem NtsTrue.bd:∀ {p:List Nt} {aa:List Int},NtsTrue p aa→∀ a∈aa,0≤a∧a≤9
 | [],[],_,a,h=>by cases h
 | q::p,x::aa,h,a,ha=>by
  rcases Zx7.1 ha with rfl | ha
  ·have:=h.1.2;omega
  ·exact NtsTrue.bd h.2 a ha
 | [],_::_,h,_,_=>h.elim
 | _::_,[],h,_,_=>h.elim
set_option maxHeartbeats 4000000 in
theorem BellowTrue_any {J:Nat→Option Obj} (hP:FuncsOk Try.prog) (D:Option Addr) (n d:Nat) (l:List Int) (w:World) (hl:Rd w w.heap.size 1 D n (ic l)) (hm:n≤9223372036854775807) :
   TopB Try.prog J 13 Try.f13 #[.slice D n d] w fun e w'=>e=.returned (.bool true)∧Below w.heap.size w w':=by
 have hll:=hl.len1
 obtain ⟨bI,oI,SI⟩:=Sp.old hl
 refine px_enterT hP noEx Try.func13 Z 193 Z [.slice D n d] Z Z (Mem.init w _) ?_ (fun _ _ h=>⟨_,h.1⟩)
 intro ac wc T M
 refine wpB_seq hP ?_
 refine b_lone hP w fun T9=>?_
 replace M:=M.tp T9 0 0
 replace SI:=SI.tp T9 0
 refine wp_region_lit ?_
 refine lq T (Zra Z evc) ?_;intro ac T
 refine wpList_nil ?_
 refine nqR_n M ?_;clear M;intro wc M
 replace SI:=SI.pt
 replace T:=T.pick [1] rfl
 refine nm_then ?_
 refine wpB_seq hP ?_
 refine b_lone hP w fun T9=>?_
 replace M:=M.tp T9 0 0
 replace SI:=SI.tp T9 0
 refine wp_region_lit ?_
 refine lq T (Zrm Z (T.e 0 Z)) ?_;intro ac T
 refine Zl2 ?_
 refine Zod T Z Z Z Z evf (.cons (T.e 0 Z) .nil) Try.func17 Z Z ?_
 refine Calls.mono (newPot_any _ _ _ l _ (SI.rd M (Zz9 _)) (by omega)) ?_
 clear T;rintro e wc ⟨bpu1,su1,hsu1,rfl,N⟩ ac T
 replace M:=M.join N;clear N
 replace M:=M.mask [true] rfl
 refine lq T (Zra Z (T.e 0 Z)) ?_;intro ac T
 refine wpList_nil ?_
 refine nqR_n M ?_;clear M;intro wc M
 replace SI:=SI.pt
 replace T:=T.pick [0] rfl
 refine nm_then ?_
 refine wpB_seq hP ?_
 refine b_lone hP w fun T9=>?_
 replace M:=M.tp T9 0 0
 replace SI:=SI.tp T9 0
 refine wp_region_lit ?_
 refine lq T (Zrm Z (T.e 0 Z)) ?_;intro ac T
 refine Zl2 ?_
 refine Zod T Z Z Z Z evf (.cons (T.e 0 Z) (.cons evc (.cons evc .nil))) Try.func18 Z Z ?_
 refine Calls.mono (bellowOf_any _ bpu1 4 3 _ (by omega) (by omega) (M.nth 0 Z) hsu1) ?_
 clear T;rintro e wc ⟨bu2,gu2,airu2,Abu2,cbu2,Dbu2,dbu2,Gbu2,nbu2,su2,Ibu2,rfl,hBtu2,hBgu2,hBnu2,hsu2,hBiu2,⟨bGu2,oGu2,hGsu2⟩,N⟩ ac T
 replace M:=(M.joinW2 .head N).swapI
 clear N
 replace M:Mem (Bq.tp w T9 0) noEx wc ((bpu1,.cells [.int .u64 su2])::Ibu2):=M
 have SGu2:=hGsu2 (Bq.tp w T9 0) noEx
 have hB4u2:gu2.length≤4:=by omega
 have hB3u2:bu2.ts.length≤3:=by omega
 refine Zg4 T (Zq (Zrm Z (T.e 0 Z))) Z (Ze 0 Z Z Z) Z (Ze 1 Z Z Z) Z (Ze 2 Z Z Z) Z ?_;intro ac T
 refine Zl2 ?_
 refine Zoa M T Z Z Z Z ?_;clear M T;intro g1 wc ac M T
 refine Zl2 ?_
 refine Zot M T Z Z (T.e 0 Z) (T.e 3 Z) Z .head Z Z ?_;clear M T;intro wc ac M T
 refine Zg2 T (Zq (Zra Z (T.e 2 Z))) Z (Za 2 Z Z) Z ?_;intro ac T
 refine wpList_nil ?_
 refine nqR_n M ?_;clear M;intro wc M
 replace SGu2:=SGu2.pt
 replace SI:=SI.pt
 replace T:=T.pick [0,1,2,9] rfl
 refine nm_then ?_
 refine wpB_seq hP ?_
 refine b_lone hP w fun T9=>?_
 replace M:=M.tp T9 0 0
 replace SGu2:=SGu2.tp T9 0
 replace SI:=SI.tp T9 0
 refine wp_region_lit ?_
 refine lq T (Zrm Z (T.e 3 Z)) ?_;intro ac T
 refine Zl2 ?_
 refine Zod T Z Z Z Z evf (.cons (T.e 0 Z) (.cons evc .nil)) Try.func25 Z Z ?_
 refine Calls.mono (pieceOf_any _ bpu1 6 _ (by omega) (M.nth 1 Z) hsu2) ?_
 clear T;rintro e wc ⟨pu3,aau3,Apu3,cpu3,Bpu3,dpu3,su3,Ipu3,rfl,hPtu3,hPlu3,hPmu3,hPcu3,hsu3,⟨bqu3,oqu3,hSpu3⟩,⟨bru3,oru3,hSau3⟩,N⟩ ac T
 replace M:=(M.joinW2 (.tail .head) N).swapI
 clear N
 replace M:Mem (Bq.tp w T9 0) noEx wc ((g1,.cells [Zi bu2.full,Zi bu2.a0,Zi bu2.a1,.slice Abu2 bu2.cs.length cbu2,.slice Dbu2 bu2.ts.length dbu2])::(bpu1,.cells [.int .u64 su3])::(Ibu2++Ipu3)):=M
 have SPu3:=hSpu3 (Bq.tp w T9 0) noEx
 have SAu3:=hSau3 (Bq.tp w T9 0) noEx
 have hpgu3:NtGood pu3:=⟨by omega,hPtu3.good⟩
 have hp6u3:=hpgu3.n6
 refine Zg5 T (Zq (Zrm Z (T.e 0 Z))) Z (Ze 0 Z Z Z) Z (Ze 1 Z Z Z) Z (Za 1 Z Z) Z (Za 1 Z Z) Z ?_;intro ac T
 refine wpList_nil ?_
 refine nqR_n M ?_;clear M;intro wc M
 replace SAu3:=SAu3.pt
 replace SGu2:=SGu2.pt
 replace SI:=SI.pt
 replace SPu3:=SPu3.pt
 replace T:=T.pick [0,1,7,8,9,10] rfl
 refine nm_then ?_
 refine wpB_seq hP ?_
 refine b_lone hP w fun T9=>?_
 replace M:=M.tp T9 0 0
 replace SAu3:=SAu3.tp T9 0
 replace SGu2:=SGu2.tp T9 0
 replace SI:=SI.tp T9 0
 replace SPu3:=SPu3.tp T9 0
 refine wp_region_lit ?_
 refine Zg2 T (Zq (Zrm Z (T.e 5 Z))) Z (Zm 2 Z Z) Z ?_;intro ac T
 refine Zl2 ?_
 refine Zod T Z Z Z Z evf (.cons (T.e 1 Z) (.cons (T.e 0 Z) .nil)) Try.func32 Z Z ?_
 refine Calls.mono (waysOf_any _ bpu1 pu3 Apu3 cpu3 _ (SPu3.rd M (.cons _ (.cons _ (Zsq _ _)))) (by omega) (M.nth 1 Z) hsu3) ?_
 clear T;rintro e wc ⟨gu4,Au4,cu4,su4,Iu4,rfl,hWu4,hsu4,hgcu4,⟨bu4,ou4,hSgu4⟩,N⟩ ac T
 replace M:=(M.joinW2 (.tail .head) N).swapI
 clear N
 replace M:Mem (Bq.tp w T9 0) noEx wc ((g1,.cells [Zi bu2.full,Zi bu2.a0,Zi bu2.a1,.slice Abu2 bu2.cs.length cbu2,.slice Dbu2 bu2.ts.length dbu2])::(bpu1,.cells [.int .u64 su4])::(Ibu2++Ipu3++Iu4)):=M
 have SWu4:=hSgu4 (Bq.tp w T9 0) noEx
 have hglu4:=hWu4.len
 refine lq T (Zra Z (T.e 0 Z)) ?_;intro ac T
 refine wpList_nil ?_
 refine nqR_n M ?_;clear M;intro wc M
 replace SAu3:=SAu3.pt
 replace SGu2:=SGu2.pt
 replace SI:=SI.pt
 replace SPu3:=SPu3.pt
 replace SWu4:=SWu4.pt
 replace T:=T.pick [0,4,5,6,7,8] rfl
 replace M:=M.mask [true,false] rfl
 replace M:Mem w noEx wc ((g1,.cells [Zi bu2.full,Zi bu2.a0,Zi bu2.a1,.slice Abu2 bu2.cs.length cbu2,.slice Dbu2 bu2.ts.length dbu2])::(Ibu2++Ipu3++Iu4)):=M
 refine nm_then ?_
 refine wpB_seq hP ?_
 refine rB_preN hP w 1 (by decide) fun T9=>?_
 replace M:=M.tp T9 0 0
 replace SAu3:=SAu3.tp T9 0
 replace SGu2:=SGu2.tp T9 0
 replace SI:=SI.tp T9 0
 replace SPu3:=SPu3.tp T9 0
 replace SWu4:=SWu4.tp T9 0
 refine lq T (Zrr (Mem.nth M 0 Z) Z (T.e 5 Z) Z) ?_;intro ac T
 refine wpList_nil ?_
 refine pqR_n M ?_;clear M;intro wc M
 replace SAu3:=SAu3.pt
 replace SGu2:=SGu2.pt
 replace SI:=SI.pt
 replace SPu3:=SPu3.pt
 replace SWu4:=SWu4.pt
 obtain ⟨hA9,hD9,hop9⟩:=hBiu2.rd M (.cons _ (subL (subL (List.Sublist.refl _))))
 obtain ⟨nA9,nD9,nop9⟩:=hBiu2.few
 refine rB_call hP (m:=5) (first:=[]) (cap:=[]) T Z Z Z Z Z evf (.cons (T.e 0 Z) .nil) Try.func52 Z Z (Leaks_any hP bu2 Abu2 cbu2 Dbu2 dbu2  _ hA9 hD9 hop9 nA9 nD9 nop9 ) ?_
 clear T
 rintro e wc ⟨Aru5,cru5,Iru5,rfl,hrcu5,⟨bru5,oru5,hSru5⟩,N⟩
 refine ⟨_,Z,?_⟩
 intro ac T
 obtain ⟨z0,z1,z2,z3,z4,z5,z6,z7,z8,z9,z10⟩:=true_law hBtu2 hB4u2 hB3u2 hpgu3 hPtu3 hWu4
 obtain ⟨kL,hkL⟩:∃ q,q=leksL bu2:=⟨_,rfl⟩
 obtain ⟨kR,hkR⟩:∃ q,q=lekR bu2:=⟨_,rfl⟩
 obtain ⟨mL,hmL⟩:∃ q,q=mosL bu2:=⟨_,rfl⟩
 obtain ⟨qL,hqL⟩:∃ q,q=lvlL bu2 pu3 gu4:=⟨_,rfl⟩
 obtain ⟨pv,hpv⟩:∃ q,q=plaV bu2 pu3 gu4:=⟨_,rfl⟩
 obtain ⟨yL,hyL⟩:∃ q,q=plyL (sumL gu2) airu2 pu3 gu4 aau3:=⟨_,rfl⟩
 obtain ⟨yF,hyF⟩:∃ q,q=plyF bu2.full (sumL gu2) airu2 pu3 gu4 aau3:=⟨_,rfl⟩
 rw [← hkL] at z1 z4
 rw [← hkR] at z2
 rw [← hmL] at z3 z5
 rw [← hqL] at z7 z9
 rw [← hyL] at z8 z9
 rw [← hpv,← hyF] at z10
 have hsb:=sumL_bd (hBtu2.cs.le3)
 have hla:=hBtu2.len
 rw [z0] at T
 rw [← hkL] at T hrcu5 hSru5
 replace M:=(M.join N).swapI
 clear N
 replace M:Mem w noEx wc ((g1,.cells [Zi bu2.full,Zi bu2.a0,Zi bu2.a1,.slice Abu2 bu2.cs.length cbu2,.slice Dbu2 bu2.ts.length dbu2])::(Ibu2++Ipu3++Iu4++Iru5)):=M
 have Sru5:=hSru5 w noEx
 refine rB_moreN hP w 5 0 Z (by decide) fun T9=>?_
 replace M:=M.tp T9 0 0
 replace SAu3:=SAu3.tp T9 0
 replace SGu2:=SGu2.tp T9 0
 replace SI:=SI.tp T9 0
 replace SPu3:=SPu3.tp T9 0
 replace SWu4:=SWu4.tp T9 0
 replace Sru5:=Sru5.tp T9 0
 refine Zg5 T (Zq (Zrm Z (T.e 0 Z))) Z (Ze 0 Z Z Z) Z (Ze 1 Z Z Z) Z (Za 1 Z Z) Z (Za 1 Z Z) Z ?_;intro ac T
 refine wpList_nil ?_
 refine pqR_n M ?_;clear M;intro wc M
 replace SAu3:=SAu3.pt
 replace SGu2:=SGu2.pt
 replace SI:=SI.pt
 replace SPu3:=SPu3.pt
 replace SWu4:=SWu4.pt
 replace Sru5:=Sru5.pt
 refine rB_nil hP ?_
 replace T:=T.pick [0,1,7,8,9,10,11,12] rfl
 refine nm_then ?_
 refine wpB_seq hP ?_
 refine rB_preN hP w 1 (by decide) fun T9=>?_
 replace M:=M.tp T9 0 0
 replace SAu3:=SAu3.tp T9 0
 replace SGu2:=SGu2.tp T9 0
 replace SI:=SI.tp T9 0
 replace SPu3:=SPu3.tp T9 0
 replace SWu4:=SWu4.tp T9 0
 replace Sru5:=Sru5.tp T9 0
 refine lq T (Zrr (Mem.nth M 0 Z) Z (T.e 7 Z) Z) ?_;intro ac T
 refine wpList_nil ?_
 refine pqR_n M ?_;clear M;intro wc M
 replace SAu3:=SAu3.pt
 replace SGu2:=SGu2.pt
 replace SI:=SI.pt
 replace SPu3:=SPu3.pt
 replace SWu4:=SWu4.pt
 replace Sru5:=Sru5.pt
 obtain ⟨hA9,hD9,hop9⟩:=hBiu2.rd M (.cons _ (subL (subL (subL (List.Sublist.refl _)))))
 obtain ⟨nA9,nD9,nop9⟩:=hBiu2.few
 refine rB_call hP (m:=6) (first:=[]) (cap:=[]) T Z Z Z Z Z evf (.cons (T.e 0 Z) .nil) Try.func54 Z Z (Leak_any hP bu2 Abu2 cbu2 Dbu2 dbu2  _ hA9 hD9 hop9 nA9 nD9 nop9 ) ?_
 clear T
 rintro e wc ⟨rfl,hb⟩
 refine ⟨_,Z,?_⟩
 intro ac T
 replace M:=M.call hb;clear hb
 rw [z0] at T
 rw [← hkR] at T
 refine rB_moreN hP w 6 0 Z (by decide) fun T9=>?_
 replace M:=M.tp T9 0 0
 replace SAu3:=SAu3.tp T9 0
 replace SGu2:=SGu2.tp T9 0
 replace SI:=SI.tp T9 0
 replace SPu3:=SPu3.tp T9 0
 replace SWu4:=SWu4.tp T9 0
 replace Sru5:=Sru5.tp T9 0
 refine Zg3 T (Zq (Zrm Z (T.e 0 Z))) Z (Ze 0 Z Z Z) Z (Ze 1 Z Z Z) Z ?_;intro ac T
 refine Zl2 ?_
 refine Zoa M T Z Z Z Z ?_;clear M T;intro g2 wc ac M T
 refine Zl2 ?_
 refine Zot M T Z Z (T.e 0 Z) (T.e 2 Z) Z .head Z Z ?_;clear M T;intro wc ac M T
 refine lq T (Zra Z (T.e 1 Z)) ?_;intro ac T
 refine wpList_nil ?_
 refine pqR_n M ?_;clear M;intro wc M
 replace SAu3:=SAu3.pt
 replace SGu2:=SGu2.pt
 replace SI:=SI.pt
 replace SPu3:=SPu3.pt
 replace SWu4:=SWu4.pt
 replace Sru5:=Sru5.pt
 refine rB_nil hP ?_
 replace T:=T.pick [0,1,7,8,9,10,11,12,13,14] rfl
 refine nm_then ?_
 refine wpB_seq hP ?_
 refine rB_preN hP w 1 (by decide) fun T9=>?_
 replace M:=M.tp T9 0 0
 replace SAu3:=SAu3.tp T9 0
 replace SGu2:=SGu2.tp T9 0
 replace SI:=SI.tp T9 0
 replace SPu3:=SPu3.tp T9 0
 replace SWu4:=SWu4.tp T9 0
 replace Sru5:=Sru5.tp T9 0
 refine lq T (Zrr (Mem.nth M 1 Z) Z (T.e 9 Z) Z) ?_;intro ac T
 refine wpList_nil ?_
 refine pqR_n M ?_;clear M;intro wc M
 replace SAu3:=SAu3.pt
 replace SGu2:=SGu2.pt
 replace SI:=SI.pt
 replace SPu3:=SPu3.pt
 replace SWu4:=SWu4.pt
 replace Sru5:=Sru5.pt
 obtain ⟨hA9,hD9,hop9⟩:=hBiu2.rd M (.cons _ (.cons _ (subL (subL (subL (List.Sublist.refl _))))))
 obtain ⟨nA9,nD9,nop9⟩:=hBiu2.few
 refine rB_call hP (m:=5) (first:=[]) (cap:=[]) T Z Z Z Z Z evf (.cons (T.e 0 Z) .nil) Try.func56 Z Z (Most_any hP bu2 Abu2 cbu2 Dbu2 dbu2  _ hA9 hD9 hop9 nA9 nD9 nop9 ) ?_
 clear T
 rintro e wc ⟨Amu7,cmu7,Imu7,rfl,hmcu7,⟨bmu7,omu7,hSmu7⟩,N⟩
 refine ⟨_,Z,?_⟩
 intro ac T
 rw [z0] at T
 rw [← hmL] at T hmcu7 hSmu7
 replace M:=(M.join N).swapI
 clear N
 replace M:Mem w noEx wc ((g2,.cells [Zi kR.1,Zi kR.2])::(g1,.cells [Zi bu2.full,Zi bu2.a0,Zi bu2.a1,.slice Abu2 bu2.cs.length cbu2,.slice Dbu2 bu2.ts.length dbu2])::(Ibu2++Ipu3++Iu4++Iru5++Imu7)):=M
 have Smu7:=hSmu7 w noEx
 refine rB_moreN hP w 5 0 Z (by decide) fun T9=>?_
 replace M:=M.tp T9 0 0
 replace SAu3:=SAu3.tp T9 0
 replace SGu2:=SGu2.tp T9 0
 replace SI:=SI.tp T9 0
 replace SPu3:=SPu3.tp T9 0
 replace SWu4:=SWu4.tp T9 0
 replace Smu7:=Smu7.tp T9 0
 replace Sru5:=Sru5.tp T9 0
 refine Zg5 T (Zq (Zrm Z (T.e 0 Z))) Z (Ze 0 Z Z Z) Z (Ze 1 Z Z Z) Z (Za 1 Z Z) Z (Za 1 Z Z) Z ?_;intro ac T
 refine wpList_nil ?_
 refine pqR_n M ?_;clear M;intro wc M
 replace SAu3:=SAu3.pt
 replace SGu2:=SGu2.pt
 replace SI:=SI.pt
 replace SPu3:=SPu3.pt
 replace SWu4:=SWu4.pt
 replace Smu7:=Smu7.pt
 replace Sru5:=Sru5.pt
 refine rB_nil hP ?_
 replace T:=T.pick [0,1,7,8,9,10,11,12,13,14,15,16] rfl
 refine nm_then ?_
 refine wpB_seq hP ?_
 refine rB_preN hP w 3 (by decide) fun T9=>?_
 replace M:=M.tp T9 0 0
 replace SAu3:=SAu3.tp T9 0
 replace SGu2:=SGu2.tp T9 0
 replace SI:=SI.tp T9 0
 replace SPu3:=SPu3.tp T9 0
 replace SWu4:=SWu4.tp T9 0
 replace Smu7:=Smu7.tp T9 0
 replace Sru5:=Sru5.tp T9 0
 refine Zg3 T (Zq (Zrr (Mem.nth M 1 Z) Z (T.e 11 Z) Z)) Z (Zm 9 Z Z) Z (Zm 8 Z Z) Z ?_;intro ac T
 refine wpList_nil ?_
 refine pqR_n M ?_;clear M;intro wc M
 replace SAu3:=SAu3.pt
 replace SGu2:=SGu2.pt
 replace SI:=SI.pt
 replace SPu3:=SPu3.pt
 replace SWu4:=SWu4.pt
 replace Smu7:=Smu7.pt
 replace Sru5:=Sru5.pt
 obtain ⟨hA9,hD9,hop9⟩:=hBiu2.rd M (.cons _ (.cons _ (subL (subL (subL (subL (List.Sublist.refl _)))))))
 obtain ⟨nA9,nD9,nop9⟩:=hBiu2.few
 refine rB_call hP (m:=5) (first:=[]) (cap:=[]) T Z Z Z Z Z evf (.cons (T.e 2 Z) (.cons (T.e 1 Z) (.cons (T.e 0 Z) .nil))) Try.func36 Z Z (Levels_any hP bu2 Abu2 cbu2 Dbu2 dbu2 pu3 Apu3 cpu3 Au4 cu4 gu4 _ hA9 hD9 hop9 nA9 nD9 nop9 (SPu3.rd M (.cons _ (.cons _ (subL (subL (subL (Zsq _ _))))))) (by omega) (SWu4.rd M (.cons _ (.cons _ (subL (subL (Zsq _ _)))))) (by omega)) ?_
 clear T
 rintro e wc ⟨Aqu8,cqu8,Iqu8,rfl,hqcu8,⟨bqu8,oqu8,hSqu8⟩,N⟩
 refine ⟨_,Z,?_⟩
 intro ac T
 rw [z6] at T
 rw [← hqL] at T hqcu8 hSqu8
 replace M:=(M.join N).swapI
 clear N
 replace M:Mem w noEx wc ((g2,.cells [Zi kR.1,Zi kR.2])::(g1,.cells [Zi bu2.full,Zi bu2.a0,Zi bu2.a1,.slice Abu2 bu2.cs.length cbu2,.slice Dbu2 bu2.ts.length dbu2])::(Ibu2++Ipu3++Iu4++Iru5++Imu7++Iqu8)):=M
 have Squ8:=hSqu8 w noEx
 refine rB_moreN hP w 5 0 Z (by decide) fun T9=>?_
 replace M:=M.tp T9 0 0
 replace SAu3:=SAu3.tp T9 0
 replace SGu2:=SGu2.tp T9 0
 replace SI:=SI.tp T9 0
 replace SPu3:=SPu3.tp T9 0
 replace SWu4:=SWu4.tp T9 0
 replace Smu7:=Smu7.tp T9 0
 replace Squ8:=Squ8.tp T9 0
 replace Sru5:=Sru5.tp T9 0
 refine Zg5 T (Zq (Zrm Z (T.e 0 Z))) Z (Ze 0 Z Z Z) Z (Ze 1 Z Z Z) Z (Za 1 Z Z) Z (Za 1 Z Z) Z ?_;intro ac T
 refine wpList_nil ?_
 refine pqR_n M ?_;clear M;intro wc M
 replace SAu3:=SAu3.pt
 replace SGu2:=SGu2.pt
 replace SI:=SI.pt
 replace SPu3:=SPu3.pt
 replace SWu4:=SWu4.pt
 replace Smu7:=Smu7.pt
 replace Squ8:=Squ8.pt
 replace Sru5:=Sru5.pt
 refine rB_nil hP ?_
 replace T:=T.pick [0,1,9,10,11,12,13,14,15,16,17,18,19,20] rfl
 refine nm_then ?_
 refine wpB_seq hP ?_
 refine rB_preN hP w 3 (by decide) fun T9=>?_
 replace M:=M.tp T9 0 0
 replace SAu3:=SAu3.tp T9 0
 replace SGu2:=SGu2.tp T9 0
 replace SI:=SI.tp T9 0
 replace SPu3:=SPu3.tp T9 0
 replace SWu4:=SWu4.tp T9 0
 replace Smu7:=Smu7.tp T9 0
 replace Squ8:=Squ8.tp T9 0
 replace Sru5:=Sru5.tp T9 0
 refine Zg3 T (Zq (Zrr (Mem.nth M 1 Z) Z (T.e 13 Z) Z)) Z (Zm 11 Z Z) Z (Zm 10 Z Z) Z ?_;intro ac T
 refine wpList_nil ?_
 refine pqR_n M ?_;clear M;intro wc M
 replace SAu3:=SAu3.pt
 replace SGu2:=SGu2.pt
 replace SI:=SI.pt
 replace SPu3:=SPu3.pt
 replace SWu4:=SWu4.pt
 replace Smu7:=Smu7.pt
 replace Squ8:=Squ8.pt
 replace Sru5:=Sru5.pt
 obtain ⟨hA9,hD9,hop9⟩:=hBiu2.rd M (.cons _ (.cons _ (subL (subL (subL (subL (subL (List.Sublist.refl _))))))))
 obtain ⟨nA9,nD9,nop9⟩:=hBiu2.few
 refine rB_call hP (m:=5) (first:=[]) (cap:=[]) T Z Z Z Z Z evf (.cons (T.e 2 Z) (.cons (T.e 1 Z) (.cons (T.e 0 Z) .nil))) Try.func38 Z Z (Plays_any hP bu2 Abu2 cbu2 Dbu2 dbu2 pu3 Apu3 cpu3 Au4 cu4 gu4 _ hA9 hD9 hop9 nA9 nD9 nop9 (SPu3.rd M (.cons _ (.cons _ (subL (subL (subL (subL (Zsq _ _)))))))) (by omega) (SWu4.rd M (.cons _ (.cons _ (subL (subL (subL (Zsq _ _))))))) (by omega)) ?_
 clear T
 rintro e wc ⟨rfl,hb⟩
 refine ⟨_,Z,?_⟩
 intro ac T
 replace M:=M.call hb;clear hb
 rw [z6] at T
 rw [← hpv] at T
 refine rB_moreN hP w 5 0 Z (by decide) fun T9=>?_
 replace M:=M.tp T9 0 0
 replace SAu3:=SAu3.tp T9 0
 replace SGu2:=SGu2.tp T9 0
 replace SI:=SI.tp T9 0
 replace SPu3:=SPu3.tp T9 0
 replace SWu4:=SWu4.tp T9 0
 replace Smu7:=Smu7.tp T9 0
 replace Squ8:=Squ8.tp T9 0
 replace Sru5:=Sru5.tp T9 0
 refine Zg5 T (Zq (Zrm Z (T.e 0 Z))) Z (Ze 0 Z Z Z) Z (Ze 1 Z Z Z) Z (Za 1 Z Z) Z (Za 1 Z Z) Z ?_;intro ac T
 refine wpList_nil ?_
 refine pqR_n M ?_;clear M;intro wc M
 replace SAu3:=SAu3.pt
 replace SGu2:=SGu2.pt
 replace SI:=SI.pt
 replace SPu3:=SPu3.pt
 replace SWu4:=SWu4.pt
 replace Smu7:=Smu7.pt
 replace Squ8:=Squ8.pt
 replace Sru5:=Sru5.pt
 refine rB_nil hP ?_
 replace T:=T.pick [0,1,9,10,11,12,13,14,15,16,17,18,19,20,21,22] rfl
 refine nm_then ?_
 refine wpB_seq hP ?_
 refine wpB_seq hP ?_
 refine b_lone hP w fun T9=>?_
 replace M:=M.tp T9 0 0
 replace SAu3:=SAu3.tp T9 0
 replace SGu2:=SGu2.tp T9 0
 replace SI:=SI.tp T9 0
 replace SPu3:=SPu3.tp T9 0
 replace SWu4:=SWu4.tp T9 0
 replace Smu7:=Smu7.tp T9 0
 replace Squ8:=Squ8.tp T9 0
 replace Sru5:=Sru5.tp T9 0
 refine Zgs M (M.mask [true,true] Z) 46 (by kernel_rfl) Z (by kernel_rfl) ?_
 clear M;intro wc M
 refine Zgq T 0 1 Z (fun _=>(Zrm Z (T.e 8 Z))) ?_;intro ac T
 refine Zgq (v:=(.bool false)) T 1 3 Z (fun _=>(Zrq (rn_neq Z (T.e 0 Z) evc) (by simp))) ?_;intro ac T
 refine Zgq T 2 7 Z (fun _=>(Zrm Z (T.e 0 Z))) ?_;intro ac T
 refine g_q (T:=T) (i:=3) Z (by kernel_rfl) (by kernel_rfl:(Zpb 46 7).setIfInBounds 3 true=Zpb 46 15) si_U (fun _ _ _ h=>h) (Zwy Z Z (T.e 0 Z) Z) Z Z Z (fun _ _ _ _ _=>(Zrm Z (T.e 9 Z))) ?_;intro ac T
 refine g_q (v:=(.bool false)) (T:=T) (i:=4) Z (by kernel_rfl) (by kernel_rfl:(Zpb 46 15).setIfInBounds 4 true=Zpb 46 31) si_U (fun _ _ _ h=>h) (Zwy Z Z (T.e 1 Z) Z) Z Z Z (fun _ _ _ _ _=>(Zrq (rn_neq Z (T.e 0 Z) evc) (by simp))) ?_;intro ac T
 refine Zgq T 5 63 Z (fun _=>(Zr0 Z (T.e 2 Z) Z (T.e 0 Z))) ?_;intro ac T
 refine Zgq T 6 127 Z (fun _=>(Zrm Z (T.e 0 Z))) ?_;intro ac T
 refine g_q (T:=T) (i:=7) Z (by kernel_rfl) (by kernel_rfl:(Zpb 46 127).setIfInBounds 7 true=Zpb 46 255) si_U (fun _ _ _ h=>h) (Zwy Z Z (T.e 0 Z) Z) Z Z Z (fun _ _ _ _ _=>(Zrm Z (T.e 11 Z))) ?_;intro ac T
 refine g_q (v:=(.bool false)) (T:=T) (i:=8) Z (by kernel_rfl) (by kernel_rfl:(Zpb 46 255).setIfInBounds 8 true=Zpb 46 511) si_U (fun _ _ _ h=>h) (Zwy Z Z (T.e 1 Z) Z) Z Z Z (fun _ _ _ _ _=>(Zrq (rn_neq Z (T.e 0 Z) evc) (by simp))) ?_;intro ac T
 refine Zgq T 9 1023 Z (fun _=>(Zr0 Z (T.e 2 Z) Z (T.e 0 Z))) ?_;intro ac T
 refine Zgq T 10 2047 Z (fun _=>(Zrm Z (T.e 0 Z))) ?_;intro ac T
 refine g_q (T:=T) (i:=11) Z (by kernel_rfl) (by kernel_rfl:(Zpb 46 2047).setIfInBounds 11 true=Zpb 46 4095) si_U (fun _ _ _ h=>h) (Zwy Z Z (T.e 0 Z) Z) Z Z Z (fun _ _ _ _ _=>(Zrm Z (T.e 13 Z))) ?_;intro ac T
 refine g_q (v:=(.bool false)) (T:=T) (i:=12) Z (by kernel_rfl) (by kernel_rfl:(Zpb 46 4095).setIfInBounds 12 true=Zpb 46 8191) si_U (fun _ _ _ h=>h) (Zwy Z Z (T.e 1 Z) Z) Z Z Z (fun _ _ _ _ _=>(Zrq (rn_neq Z (T.e 0 Z) evc) (by simp))) ?_;intro ac T
 refine Zgq T 13 16383 Z (fun _=>(Zr0 Z (T.e 2 Z) Z (T.e 0 Z))) ?_;intro ac T
 refine Zgq T 14 32767 Z (fun _=>(Zrm Z (T.e 0 Z))) ?_;intro ac T
 refine g_q (T:=T) (i:=15) Z (by kernel_rfl) (by kernel_rfl:(Zpb 46 32767).setIfInBounds 15 true=Zpb 46 65535) si_U (fun _ _ _ h=>h) (Zwy Z Z (T.e 0 Z) Z) Z Z Z (fun _ _ _ _ _=>(Zrm Z (T.e 15 Z))) ?_;intro ac T
 refine g_q (v:=(.bool false)) (T:=T) (i:=16) Z (by kernel_rfl) (by kernel_rfl:(Zpb 46 65535).setIfInBounds 16 true=Zpb 46 131071) si_U (fun _ _ _ h=>h) (Zwy Z Z (T.e 1 Z) Z) Z Z Z (fun _ _ _ _ _=>(Zrq (rn_neq Z (T.e 0 Z) evc) (by simp))) ?_;intro ac T
 refine Zgq T 17 262143 Z (fun _=>(Zr0 Z (T.e 2 Z) Z (T.e 0 Z))) ?_;intro ac T
 refine Zgq T 18 524287 Z (fun _=>(Zrm Z (T.e 0 Z))) ?_;intro ac T
 refine g_q (T:=T) (i:=19) Z (by kernel_rfl) (by kernel_rfl:(Zpb 46 524287).setIfInBounds 19 true=Zpb 46 1048575) si_U (fun _ _ _ h=>h) (Zwy Z Z (T.e 0 Z) Z) Z Z Z (fun _ _ _ _ _=>(Zrm Z (T.e 28 Z))) ?_;intro ac T
 refine g_q (T:=T) (i:=20) Z (by kernel_rfl) (by kernel_rfl:(Zpb 46 1048575).setIfInBounds 20 true=Zpb 46 2097151) si_U (fun _ _ _ h=>h) (Zwy Z Z (T.e 1 Z) Z) Z Z Z (fun _ _ _ _ _=>(Zrl Z Try.underlying24 (T.e 0 Z))) ?_;intro ac T
 refine g_q (T:=T) (i:=21) Z (by kernel_rfl) (by kernel_rfl:(Zpb 46 2097151).setIfInBounds 21 true=Zpb 46 4194303) si_U (fun _ _ _ h=>h) (Zwy Z Z (T.e 2 Z) Z) Z Z Z (fun _ _ _ _ _=>(Zrm Z (T.e 35 Z))) ?_;intro ac T
 refine g_q (T:=T) (i:=22) Z (by kernel_rfl) (by kernel_rfl:(Zpb 46 4194303).setIfInBounds 22 true=Zpb 46 8388607) si_U (fun _ _ _ h=>h) (Zwy Z Z (T.e 3 Z) Z) Z Z Z (fun _ _ _ _ _=>(Zrl Z Try.underlying28 (T.e 0 Z))) ?_;intro ac T
 refine g_q (T:=T) (i:=23) Z (by kernel_rfl) (by kernel_rfl:(Zpb 46 8388607).setIfInBounds 23 true=Zpb 46 16777215) si_U (fun _ _ _ h=>h) (Zwy Z Z (T.e 4 Z) Z) Z Z Z (fun _ _ _ _ _=>(rn_neq Z (T.e 2 Z) (T.e 0 Z))) ?_;intro ac T
 refine Zgq T 24 33554431 Z (fun _=>(Zr0 Z (T.e 5 Z) Z (T.e 0 Z))) ?_;intro ac T
 refine Zgq T 25 67108863 Z (fun _=>(Zrm Z (T.e 0 Z))) ?_;intro ac T
 refine g_q (T:=T) (i:=26) Z (by kernel_rfl) (by kernel_rfl:(Zpb 46 67108863).setIfInBounds 26 true=Zpb 46 134217727) si_U (fun _ _ _ h=>h) (Zwy Z Z (T.e 0 Z) (by rw [show (decide (((kL.length:Nat):Int)=((gu2.length:Nat):Int)))=true from (Zdt (by omega))];try rfl)) Z Z Z (fun _ _ _ _ _=>(Zrm Z (T.e 31 Z))) ?_;intro ac T
 refine g_q (T:=T) (i:=27) Z (by kernel_rfl) (by kernel_rfl:(Zpb 46 134217727).setIfInBounds 27 true=Zpb 46 268435455) si_U (fun _ _ _ h=>h) (Zwy Z Z (T.e 1 Z) (by rw [show (decide (((kL.length:Nat):Int)=((gu2.length:Nat):Int)))=true from (Zdt (by omega))];try rfl)) Z Z Z (fun _ _ _ _ _=>(Zrl Z Try.underlying28 (T.e 0 Z))) ?_;intro ac T
 refine g_q (T:=T) (i:=28) Z (by kernel_rfl) (by kernel_rfl:(Zpb 46 268435455).setIfInBounds 28 true=Zpb 46 536870911) si_U (fun _ _ _ h=>h) (Zwy Z Z (T.e 2 Z) (by rw [show (decide (((kL.length:Nat):Int)=((gu2.length:Nat):Int)))=true from (Zdt (by omega))];try rfl)) Z Z Z (fun _ _ _ _ _=>(Zrm Z (T.e 42 Z))) ?_;intro ac T
 refine g_q (T:=T) (i:=29) Z (by kernel_rfl) (by kernel_rfl:(Zpb 46 536870911).setIfInBounds 29 true=Zpb 46 1073741823) si_U (fun _ _ _ h=>h) (Zwy Z Z (T.e 3 Z) (by rw [show (decide (((kL.length:Nat):Int)=((gu2.length:Nat):Int)))=true from (Zdt (by omega))];try rfl)) Z Z Z (fun _ _ _ _ _=>(Zrl Z Try.underlying28 (T.e 0 Z))) ?_;intro ac T
 refine g_q (T:=T) (i:=30) Z (by kernel_rfl) (by kernel_rfl:(Zpb 46 1073741823).setIfInBounds 30 true=Zpb 46 2147483647) si_U (fun _ _ _ h=>h) (Zwy Z Z (T.e 4 Z) (by rw [show (decide (((kL.length:Nat):Int)=((gu2.length:Nat):Int)))=true from (Zdt (by omega))];try rfl)) Z Z Z (fun _ _ _ _ _=>(rn_neq Z (T.e 2 Z) (T.e 0 Z))) ?_;intro ac T
 refine Zgq T 31 4294967295 Z (fun _=>(Zr0 Z (T.e 5 Z) (by rw [show (decide (((kL.length:Nat):Int)=((gu2.length:Nat):Int)))=true from (Zdt (by omega))];try rfl) (T.e 0 Z))) ?_;intro ac T
 refine Zgq T 32 8589934591 Z (fun _=>(Zrm Z (T.e 0 Z))) ?_;intro ac T
 refine g_q (T:=T) (i:=33) Z (by kernel_rfl) (by kernel_rfl:(Zpb 46 8589934591).setIfInBounds 33 true=Zpb 46 17179869183) si_U (fun _ _ _ h=>h) (Zwy Z Z (T.e 0 Z) (by rw [show (decide (((mL.length:Nat):Int)=((gu2.length:Nat):Int)))=true from (Zdt (by omega))];try rfl)) Z Z Z (fun _ _ _ _ _=>(Zrm Z (T.e 36 Z))) ?_;intro ac T
 refine g_q (T:=T) (i:=34) Z (by kernel_rfl) (by kernel_rfl:(Zpb 46 17179869183).setIfInBounds 34 true=Zpb 46 34359738367) si_U (fun _ _ _ h=>h) (Zwy Z Z (T.e 1 Z) (by rw [show (decide (((mL.length:Nat):Int)=((gu2.length:Nat):Int)))=true from (Zdt (by omega))];try rfl)) Z Z Z (fun _ _ _ _ _=>(Zrl Z Try.underlying24 (T.e 0 Z))) ?_;intro ac T
 refine g_q (T:=T) (i:=35) Z (by kernel_rfl) (by kernel_rfl:(Zpb 46 34359738367).setIfInBounds 35 true=Zpb 46 68719476735) si_U (fun _ _ _ h=>h) (Zwy Z Z (T.e 2 Z) (by rw [show (decide (((mL.length:Nat):Int)=((gu2.length:Nat):Int)))=true from (Zdt (by omega))];try rfl)) Z Z Z (fun _ _ _ _ _=>(Zrm Z (T.e 47 Z))) ?_;intro ac T
 refine g_q (T:=T) (i:=36) Z (by kernel_rfl) (by kernel_rfl:(Zpb 46 68719476735).setIfInBounds 36 true=Zpb 46 137438953471) si_U (fun _ _ _ h=>h) (Zwy Z Z (T.e 3 Z) (by rw [show (decide (((mL.length:Nat):Int)=((gu2.length:Nat):Int)))=true from (Zdt (by omega))];try rfl)) Z Z Z (fun _ _ _ _ _=>(Zrl Z Try.underlying44 (T.e 0 Z))) ?_;intro ac T
 refine g_q (T:=T) (i:=37) Z (by kernel_rfl) (by kernel_rfl:(Zpb 46 137438953471).setIfInBounds 37 true=Zpb 46 274877906943) si_U (fun _ _ _ h=>h) (Zwy Z Z (T.e 4 Z) (by rw [show (decide (((mL.length:Nat):Int)=((gu2.length:Nat):Int)))=true from (Zdt (by omega))];try rfl)) Z Z Z (fun _ _ _ _ _=>(rn_neq Z (T.e 2 Z) (T.e 0 Z))) ?_;intro ac T
 refine Zgq T 38 549755813887 Z (fun _=>(Zr0 Z (T.e 5 Z) (by rw [show (decide (((mL.length:Nat):Int)=((gu2.length:Nat):Int)))=true from (Zdt (by omega))];try rfl) (T.e 0 Z))) ?_;intro ac T
 refine Zgq T 39 1099511627775 Z (fun _=>(Zrm Z (T.e 0 Z))) ?_;intro ac T
 refine g_q (T:=T) (i:=40) Z (by kernel_rfl) (by kernel_rfl:(Zpb 46 1099511627775).setIfInBounds 40 true=Zpb 46 2199023255551) si_U (fun _ _ _ h=>h) (Zwy Z Z (T.e 0 Z) (by rw [show (decide (((qL.length:Nat):Int)=((pu3.length:Nat):Int)))=true from (Zdt (by omega))];try rfl)) Z Z Z (fun B w' hD hl hS=>(Zrr (Mem.nth (show Mem (Bq.tp w T9 0) noEx w' _ from hS) 0 Z) Z (T.e 47 Z) Z)) ?_;intro ac T
 refine g_q (T:=T) (i:=41) Z (by kernel_rfl) (by kernel_rfl:(Zpb 46 2199023255551).setIfInBounds 41 true=Zpb 46 4398046511103) si_U (fun _ _ _ h=>h) (Zwy Z Z (T.e 1 Z) (by rw [show (decide (((qL.length:Nat):Int)=((pu3.length:Nat):Int)))=true from (Zdt (by omega))];try rfl)) Z Z Z (fun _ _ _ _ _=>(Zrm Z (T.e 55 Z))) ?_;intro ac T
 refine g_w (i:=42) (by kernel_rfl) Z (by kernel_rfl:(Zpb 46 4398046511103).setIfInBounds 42 true=Zpb 46 8796093022207) (Zwy Z Z (T.e 2 Z) (by rw [show (decide (((qL.length:Nat):Int)=((pu3.length:Nat):Int)))=true from (Zdt (by omega))];try rfl)) ?_;intro K hK
 refine Zod T Z Z Z Z evf (.cons (T.e 0 Z) .nil) Try.func63 Z Z ?_
 refine Calls.mono (total9_any Gbu2 nbu2 gu2 _ (SGu2.rd M (.cons _ (.cons _ (subL (subL (subL (subL (subL (List.Sublist.refl _))))))))) (by omega) (fun v hv=>by have:=hBtu2.cs.le3 v hv;omega)) ?_
 clear T;rintro e wc ⟨rfl,hb⟩ ac T
 replace M:=M.call hb;clear hb
 refine Zso hK _ _ (M.mask [true,true] Z) ?_;clear hK K
 refine g_w (i:=43) (by kernel_rfl) Z (by kernel_rfl:(Zpb 46 8796093022207).setIfInBounds 43 true=Zpb 46 17592186044415) (Zwy Z Z (T.e 3 Z) (by rw [show (decide (((qL.length:Nat):Int)=((pu3.length:Nat):Int)))=true from (Zdt (by omega))];try rfl)) ?_;intro K hK
 refine Zod T Z Z Z Z evf (.cons (T.e 2 Z) (.cons (T.e 0 Z) .nil)) Try.func62 Z Z ?_
 refine Calls.mono (inR_true (x0:=kR.1) (x1:=kR.2) (y:=(sumL gu2)) (by omega) _) ?_
 clear T;rintro e wc ⟨rfl,hb⟩ ac T
 replace M:=M.call hb;clear hb
 refine Zso hK _ _ (M.mask [true,true] Z) ?_;clear hK K
 refine g_q (v:=(.bool false)) (T:=T) (i:=44) Z (by kernel_rfl) (by kernel_rfl:(Zpb 46 17592186044415).setIfInBounds 44 true=Zpb 46 35184372088831) si_U (fun _ _ _ h=>h) (Zwy Z Z (T.e 4 Z) (by rw [show (decide (((qL.length:Nat):Int)=((pu3.length:Nat):Int)))=true from (Zdt (by omega))];try rfl)) Z Z Z (fun _ _ _ _ _=>(Zrq (rn_not Z (T.e 0 Z)) (by simp))) ?_;intro ac T
 refine Zgq T 45 70368744177663 Z (fun _=>(Zr0 Z (T.e 5 Z) (by rw [show (decide (((qL.length:Nat):Int)=((pu3.length:Nat):Int)))=true from (Zdt (by omega))];try rfl) (T.e 0 Z))) ?_;intro ac T
 refine Zgd (by kernel_rfl) ?_
 refine nqR_n M ?_;clear M;intro wc M
 replace SAu3:=SAu3.pt
 replace SGu2:=SGu2.pt
 replace SI:=SI.pt
 replace SPu3:=SPu3.pt
 replace SWu4:=SWu4.pt
 replace Smu7:=Smu7.pt
 replace Squ8:=Squ8.pt
 replace Sru5:=Sru5.pt
 replace T:=T.pick [0,47,49,51,55,56,57,58,59,60,61] rfl
 replace M:=M.mask [false,true] rfl
 replace M:Mem w noEx wc ((g1,.cells [Zi bu2.full,Zi bu2.a0,Zi bu2.a1,.slice Abu2 bu2.cs.length cbu2,.slice Dbu2 bu2.ts.length dbu2])::(Ibu2++Ipu3++Iu4++Iru5++Imu7++Iqu8)):=M
 refine nm_then ?_
 refine wB_cond_false hP (T.e 0 Z) ?_
 refine wpB_skip hP ?_
 refine nm_then ?_
 refine wpB_seq hP ?_
 refine wpB_seq hP ?_
 refine b_lone hP w fun T9=>?_
 replace M:=M.tp T9 0 0
 replace SAu3:=SAu3.tp T9 0
 replace SGu2:=SGu2.tp T9 0
 replace SI:=SI.tp T9 0
 replace SPu3:=SPu3.tp T9 0
 replace SWu4:=SWu4.tp T9 0
 replace Smu7:=Smu7.tp T9 0
 replace Squ8:=Squ8.tp T9 0
 replace Sru5:=Sru5.tp T9 0
 refine wp_region_lit ?_
 refine lq T (Zra Z evc) ?_;intro ac T
 refine wpList_nil ?_
 refine nqR_n M ?_;clear M;intro wc M
 replace SAu3:=SAu3.pt
 replace SGu2:=SGu2.pt
 replace SI:=SI.pt
 replace SPu3:=SPu3.pt
 replace SWu4:=SWu4.pt
 replace Smu7:=Smu7.pt
 replace Squ8:=Squ8.pt
 replace Sru5:=Sru5.pt
 replace T:=T.pick [0,2,3,4,5,6,7,8,9,10,11] rfl
 refine nm_then ?_
 refine wpB_block hP ?_
 refine wpB_loop_n hP (fun mz ac wc=>∃ (c:Nat),mz=gu2.length - c∧(c≤gu2.length)∧Tm ac 193 [(4,Zj g1),(5,.slice Gbu2 gu2.length nbu2),(6,Zi airu2),(7,.slice Apu3 pu3.length cpu3),(8,.slice Bpu3 aau3.length dpu3),(9,.slice Au4 gu4.length cu4),(10,.slice Aru5 kL.length cru5),(14,.slice Amu7 mL.length cmu7),(16,.slice Aqu8 qL.length cqu8),(18,Zi pv),(20,Zi (c:Int))]∧Mem w noEx wc ((g1,.cells [Zi bu2.full,Zi bu2.a0,Zi bu2.a1,.slice Abu2 bu2.cs.length cbu2,.slice Dbu2 bu2.ts.length dbu2])::(Ibu2++Ipu3++Iu4++Iru5++Imu7++Iqu8))) ?_ ?_
 ·exact ⟨_,0,Z,(by omega),T.pick [10,9,8,7,6,5,4,3,2,1,0] Z,M.mask [true] Z⟩
 clear T M
 rintro mz ac wc ⟨c,hmm1,hc,T,M⟩
 refine wpB_seq hP ?_
 refine wpB_seq hP ?_
 refine b_lone hP w fun T9=>?_
 replace M:=M.tp T9 0 0
 replace SAu3:=SAu3.tp T9 0
 replace SGu2:=SGu2.tp T9 0
 replace SI:=SI.tp T9 0
 replace SPu3:=SPu3.tp T9 0
 replace SWu4:=SWu4.tp T9 0
 replace Smu7:=Smu7.tp T9 0
 replace Squ8:=Squ8.tp T9 0
 replace Sru5:=Sru5.tp T9 0
 refine wp_region_lit ?_
 refine Zg4 T (Zq (Zrm Z (T.e 10 Z))) Z (Zm 2 Z Z) Z (Zl Try.underlying28 0 Z Z) Z (fun _ T=>Zq (rn_lss Z (T.e 2 Z) (T.e 0 Z))) Z ?_;intro ac T
 refine wpList_nil ?_
 refine nqR_n M ?_;clear M;intro wc M
 replace SAu3:=SAu3.pt
 replace SGu2:=SGu2.pt
 replace SI:=SI.pt
 replace SPu3:=SPu3.pt
 replace SWu4:=SWu4.pt
 replace Smu7:=Smu7.pt
 replace Squ8:=Squ8.pt
 replace Sru5:=Sru5.pt
 replace T:=T.pick [0,4,5,6,7,8,9,10,11,12,13,14] rfl
 refine nm_then ?_
 refine wB_if hP (T.e 0 Z) ?_ ?_
 ·intro h1
  obtain ⟨y0,y1,hky,-⟩:=rc_next (l:=kL) (k:=c) (by omega)
  obtain ⟨mv,hkm,-⟩:=ic_next (l:=mL) (k:=c) (by omega)
  obtain ⟨gc,hkg,-⟩:=ic_next (l:=gu2) (k:=c) (by omega)
  have hgc:gu2.getD c 0=gc:=by rw [List.getD_eq_getElem?_getD,hkg];rfl
  have hin9:=z4 c (y0,y1) hky
  rw [hgc] at hin9
  dsimp only at hin9
  have hrg0:=z5 c mv hkm
  rw [hgc] at hrg0
  refine wpB_skip hP ?_
  refine nm_then ?_
  refine wpB_seq hP ?_
  refine wpB_block hP ?_
  refine wpB_seq hP ?_
  refine b_lone hP w fun T9=>?_
  replace M:=M.tp T9 0 0
  replace SAu3:=SAu3.tp T9 0
  replace SGu2:=SGu2.tp T9 0
  replace SI:=SI.tp T9 0
  replace SPu3:=SPu3.tp T9 0
  replace SWu4:=SWu4.tp T9 0
  replace Smu7:=Smu7.tp T9 0
  replace Squ8:=Squ8.tp T9 0
  replace Sru5:=Sru5.tp T9 0
  refine wp_region_lit ?_
  refine lq T (Zra Z evc) ?_;intro ac T
  refine wpList_nil ?_
  refine nqR_n M ?_;clear M;intro wc M
  replace SAu3:=SAu3.pt
  replace SGu2:=SGu2.pt
  replace SI:=SI.pt
  replace SPu3:=SPu3.pt
  replace SWu4:=SWu4.pt
  replace Smu7:=Smu7.pt
  replace Squ8:=Squ8.pt
  replace Sru5:=Sru5.pt
  replace T:=T.pick [0,2,3,4,5,6,7,8,9,10,11,12] rfl
  refine nm_then ?_
  refine wpB_seq hP ?_
  refine wpB_seq hP ?_
  refine b_lone hP w fun T9=>?_
  replace M:=M.tp T9 0 0
  replace SAu3:=SAu3.tp T9 0
  replace SGu2:=SGu2.tp T9 0
  replace SI:=SI.tp T9 0
  replace SPu3:=SPu3.tp T9 0
  replace SWu4:=SWu4.tp T9 0
  replace Smu7:=Smu7.tp T9 0
  replace Squ8:=Squ8.tp T9 0
  replace Sru5:=Sru5.tp T9 0
  refine wp_region_lit ?_
  refine lq T (Zra Z evc) ?_;intro ac T
  refine wpList_nil ?_
  refine nqR_n M ?_;clear M;intro wc M
  replace SAu3:=SAu3.pt
  replace SGu2:=SGu2.pt
  replace SI:=SI.pt
  replace SPu3:=SPu3.pt
  replace SWu4:=SWu4.pt
  replace Smu7:=Smu7.pt
  replace Squ8:=Squ8.pt
  replace Sru5:=Sru5.pt
  refine nm_then ?_
  refine wpB_block hP ?_
  refine wpB_loop_n hP (fun mz ac wc=>∃ (d9:Nat) (mb:Bool),mz=gu2.length - d9∧(d9≤gu2.length)∧(mb=(gu2.take d9).all fun y=>decide (y≤gc))∧Tm ac 193 [(4,Zj g1),(5,.slice Gbu2 gu2.length nbu2),(6,Zi airu2),(7,.slice Apu3 pu3.length cpu3),(8,.slice Bpu3 aau3.length dpu3),(9,.slice Au4 gu4.length cu4),(10,.slice Aru5 kL.length cru5),(14,.slice Amu7 mL.length cmu7),(16,.slice Aqu8 qL.length cqu8),(18,Zi pv),(20,Zi (c:Int)),(21,.bool mb),(22,Zi (d9:Int))]∧Mem w noEx wc ((g1,.cells [Zi bu2.full,Zi bu2.a0,Zi bu2.a1,.slice Abu2 bu2.cs.length cbu2,.slice Dbu2 bu2.ts.length dbu2])::(Ibu2++Ipu3++Iu4++Iru5++Imu7++Iqu8))) ?_ ?_
  ·exact ⟨_,0,true,Z,(by omega),Z,T.pick [2,3,4,5,6,7,8,9,10,11,12,1,0] Z,M.mask [true] Z⟩
  clear T M
  rintro mz ac wc ⟨d9,mb,hmm2,hd,hmb,T,M⟩
  refine wpB_seq hP ?_
  refine wpB_seq hP ?_
  refine b_lone hP w fun T9=>?_
  replace M:=M.tp T9 0 0
  replace SAu3:=SAu3.tp T9 0
  replace SGu2:=SGu2.tp T9 0
  replace SI:=SI.tp T9 0
  replace SPu3:=SPu3.tp T9 0
  replace SWu4:=SWu4.tp T9 0
  replace Smu7:=Smu7.tp T9 0
  replace Squ8:=Squ8.tp T9 0
  replace Sru5:=Sru5.tp T9 0
  refine wp_region_lit ?_
  refine Zg4 T (Zq (Zrm Z (T.e 12 Z))) Z (Zm 2 Z Z) Z (Zl Try.underlying28 0 Z Z) Z (fun _ T=>Zq (rn_lss Z (T.e 2 Z) (T.e 0 Z))) Z ?_;intro ac T
  refine wpList_nil ?_
  refine nqR_n M ?_;clear M;intro wc M
  replace SAu3:=SAu3.pt
  replace SGu2:=SGu2.pt
  replace SI:=SI.pt
  replace SPu3:=SPu3.pt
  replace SWu4:=SWu4.pt
  replace Smu7:=Smu7.pt
  replace Squ8:=Squ8.pt
  replace Sru5:=Sru5.pt
  replace T:=T.pick [0,4,5,6,7,8,9,10,11,12,13,14,15,16] rfl
  refine nm_then ?_
  refine wB_if hP (T.e 0 Z) ?_ ?_
  ·intro h2
   obtain ⟨gd,hkd,-⟩:=ic_next (l:=gu2) (k:=d9) (by omega)
   refine wpB_skip hP ?_
   refine nm_then ?_
   refine wpB_seq hP ?_
   refine wpB_block hP ?_
   refine b_lone hP w fun T9=>?_
   replace M:=M.tp T9 0 0
   replace SAu3:=SAu3.tp T9 0
   replace SGu2:=SGu2.tp T9 0
   replace SI:=SI.tp T9 0
   replace SPu3:=SPu3.tp T9 0
   replace SWu4:=SWu4.tp T9 0
   replace Smu7:=Smu7.tp T9 0
   replace Squ8:=Squ8.tp T9 0
   replace Sru5:=Sru5.tp T9 0
   refine Zgs M (M.mask [true] Z) 13 (by kernel_rfl) Z (by kernel_rfl) ?_
   clear M;intro wc M
   refine Zgq T 0 1 Z (fun _=>(Zrm Z (T.e 12 Z))) ?_;intro ac T
   refine Zgq T 1 3 Z (fun _=>(Zrm Z (T.e 0 Z))) ?_;intro ac T
   rcases Zx9 mb with h3 | h3
   ·refine g_q (T:=T) (i:=2) Z (by kernel_rfl) (by kernel_rfl:(Zpb 13 3).setIfInBounds 2 true=Zpb 13 7) si_U (fun _ _ _ h=>h) (Zwy Z Z (T.e 0 Z) h3) Z Z Z (fun _ _ _ _ _=>(Zrm Z (T.e 4 Z))) ?_;intro ac T
    refine g_q (T:=T) (i:=3) Z (by kernel_rfl) (by kernel_rfl:(Zpb 13 7).setIfInBounds 3 true=Zpb 13 15) si_U (fun _ _ _ h=>h) (Zwy Z Z (T.e 1 Z) h3) Z Z Z (fun _ _ _ _ _=>(Zrm Z (T.e 16 Z))) ?_;intro ac T
    refine g_q (T:=T) (i:=4) Z (by kernel_rfl) (by kernel_rfl:(Zpb 13 15).setIfInBounds 4 true=Zpb 13 31) si_U (fun _ _ _ h=>h) (Zwy Z Z (T.e 2 Z) h3) Z Z Z (fun _ _ _ _ _=>(Zri (size:=1) d9 Z (T.e 1 Z) (T.e 0 Z) ⟨_,Try.underlying28,by kernel_rfl⟩ Z (by omega) (SGu2.at0 (by omega)))) ?_;intro ac T
    refine g_q (T:=T) (i:=5) Z (by kernel_rfl) (by kernel_rfl:(Zpb 13 31).setIfInBounds 5 true=Zpb 13 63) si_U (fun _ _ _ h=>h) (Zwy Z Z (T.e 3 Z) h3) Z Z Z (fun B w' hD hl hS=>(rn_cell (Sp.ic0 SGu2 (show Mem (Bq.tp w T9 0) noEx w' _ from hS) (.cons _ (subL (subL (subL (subL (subL (List.Sublist.refl _))))))) hkd) Z (T.e 0 Z))) ?_;intro ac T
    refine g_q (T:=T) (i:=6) Z (by kernel_rfl) (by kernel_rfl:(Zpb 13 63).setIfInBounds 6 true=Zpb 13 127) si_U (fun _ _ _ h=>h) (Zwy Z Z (T.e 4 Z) h3) Z Z Z (fun _ _ _ _ _=>(Zrm Z (T.e 8 Z))) ?_;intro ac T
    refine g_q (T:=T) (i:=7) Z (by kernel_rfl) (by kernel_rfl:(Zpb 13 127).setIfInBounds 7 true=Zpb 13 255) si_U (fun _ _ _ h=>h) (Zwy Z Z (T.e 5 Z) h3) Z Z Z (fun _ _ _ _ _=>(Zrm Z (T.e 18 Z))) ?_;intro ac T
    refine g_q (T:=T) (i:=8) Z (by kernel_rfl) (by kernel_rfl:(Zpb 13 255).setIfInBounds 8 true=Zpb 13 511) si_U (fun _ _ _ h=>h) (Zwy Z Z (T.e 6 Z) h3) Z Z Z (fun _ _ _ _ _=>(Zri (size:=1) c Z (T.e 1 Z) (T.e 0 Z) ⟨_,Try.underlying28,by kernel_rfl⟩ Z (by omega) (SGu2.at0 (by omega)))) ?_;intro ac T
    refine g_q (T:=T) (i:=9) Z (by kernel_rfl) (by kernel_rfl:(Zpb 13 511).setIfInBounds 9 true=Zpb 13 1023) si_U (fun _ _ _ h=>h) (Zwy Z Z (T.e 7 Z) h3) Z Z Z (fun B w' hD hl hS=>(rn_cell (Sp.ic0 SGu2 (show Mem (Bq.tp w T9 0) noEx w' _ from hS) (.cons _ (subL (subL (subL (subL (subL (List.Sublist.refl _))))))) hkg) Z (T.e 0 Z))) ?_;intro ac T
    refine g_q (T:=T) (i:=10) Z (by kernel_rfl) (by kernel_rfl:(Zpb 13 1023).setIfInBounds 10 true=Zpb 13 2047) si_U (fun _ _ _ h=>h) (Zwy Z Z (T.e 8 Z) h3) Z Z Z (fun _ _ _ _ _=>(rn_leq Z (T.e 4 Z) (T.e 0 Z))) ?_;intro ac T
    refine Zgq T 11 4095 Z (fun _=>(Zr1 Z (T.e 9 Z) h3 (T.e 0 Z))) ?_;intro ac T
    refine g_q (v:=(.bool (decide (gd≤gc)))) (T:=T.pick [0,1,2,3,4,5,6,7,8,9,10,11,12,13,14,15,16,17,18,19,20,21,22,23,25] Z) (i:=12) Z (by kernel_rfl) (by kernel_rfl:(Zpb 13 4095).setIfInBounds 12 true=Zpb 13 8191) si_U (fun _ _ _ h=>h) Z Z Z Z (fun _ _ _ _ _=>(Zra Z (T.e 0 Z))) ?_;intro ac T
    refine Zgd (by kernel_rfl) ?_
    refine nqR_n M ?_;clear M;intro wc M
    replace SAu3:=SAu3.pt
    replace SGu2:=SGu2.pt
    replace SI:=SI.pt
    replace SPu3:=SPu3.pt
    replace SWu4:=SWu4.pt
    replace Smu7:=Smu7.pt
    replace Squ8:=Squ8.pt
    replace Sru5:=Sru5.pt
    replace T:=T.pick [0,2,3,4,5,6,7,8,9,10,14,15,16,17,18,19,20,21,22,23,24,25] rfl
    refine Znb ?_
    refine nm_then ?_
    refine b_lone hP w fun T9=>?_
    replace M:=M.tp T9 0 0
    replace SAu3:=SAu3.tp T9 0
    replace SGu2:=SGu2.tp T9 0
    replace SI:=SI.tp T9 0
    replace SPu3:=SPu3.tp T9 0
    replace SWu4:=SWu4.tp T9 0
    replace Smu7:=Smu7.tp T9 0
    replace Squ8:=Squ8.tp T9 0
    replace Sru5:=Sru5.tp T9 0
    refine wp_region_lit ?_
    refine Zg2 T (Zq (Zrm Z (T.e 21 Z))) Z (fun _ T=>Zq (rn_add Z (T.e 0 Z) evc (by omega))) Z ?_;intro ac T
    refine l_q (v:=(Zi ((d9:Int)+1))) (T.pick [0,1,2,3,4,5,6,7,8,9,10,11,12,13,14,15,16,17,18,19,20,21,22] Z) Z Z Z Z (Zra Z (T.e 0 Z)) ?_;intro ac T
    refine wpList_nil ?_
    refine nqR_n M ?_;clear M;intro wc M
    replace SAu3:=SAu3.pt
    replace SGu2:=SGu2.pt
    replace SI:=SI.pt
    replace SPu3:=SPu3.pt
    replace SWu4:=SWu4.pt
    replace Smu7:=Smu7.pt
    replace Squ8:=Squ8.pt
    replace Sru5:=Sru5.pt
    replace T:=T.pick [0,3,4,5,6,7,8,9,10,11,12,13,14,15,16,17,18,19,20,21,22,23] rfl
    refine nm_then ?_
    exact ⟨_,by omega,d9+1,(decide (gd≤gc)),Z,(by omega),(by rw [List.take_add_one,hkd,List.all_append,← hmb];simp_all),T.pick [11,12,13,14,15,16,17,18,19,20,21,1,0] Z,M.mask [true] Z⟩
   refine g_pass (T:=T) (i:=2) Z (by kernel_rfl) (by kernel_rfl:(Zpb 13 3).setIfInBounds 2 true=Zpb 13 7) si_U (fun _ _ _ h=>h) (Zwn Z Z (T.e 0 Z) h3) Z Z Z ?_;intro ac T
   refine g_pass (T:=T) (i:=3) Z (by kernel_rfl) (by kernel_rfl:(Zpb 13 7).setIfInBounds 3 true=Zpb 13 15) si_U (fun _ _ _ h=>h) (Zwn Z Z (T.e 1 Z) h3) Z Z Z ?_;intro ac T
   refine g_pass (T:=T) (i:=4) Z (by kernel_rfl) (by kernel_rfl:(Zpb 13 15).setIfInBounds 4 true=Zpb 13 31) si_U (fun _ _ _ h=>h) (Zwn Z Z (T.e 2 Z) h3) Z Z Z ?_;intro ac T
   refine g_pass (T:=T) (i:=5) Z (by kernel_rfl) (by kernel_rfl:(Zpb 13 31).setIfInBounds 5 true=Zpb 13 63) si_U (fun _ _ _ h=>h) (Zwn Z Z (T.e 3 Z) h3) Z Z Z ?_;intro ac T
   refine g_pass (T:=T) (i:=6) Z (by kernel_rfl) (by kernel_rfl:(Zpb 13 63).setIfInBounds 6 true=Zpb 13 127) si_U (fun _ _ _ h=>h) (Zwn Z Z (T.e 4 Z) h3) Z Z Z ?_;intro ac T
   refine g_pass (T:=T) (i:=7) Z (by kernel_rfl) (by kernel_rfl:(Zpb 13 127).setIfInBounds 7 true=Zpb 13 255) si_U (fun _ _ _ h=>h) (Zwn Z Z (T.e 5 Z) h3) Z Z Z ?_;intro ac T
   refine g_pass (T:=T) (i:=8) Z (by kernel_rfl) (by kernel_rfl:(Zpb 13 255).setIfInBounds 8 true=Zpb 13 511) si_U (fun _ _ _ h=>h) (Zwn Z Z (T.e 6 Z) h3) Z Z Z ?_;intro ac T
   refine g_pass (T:=T) (i:=9) Z (by kernel_rfl) (by kernel_rfl:(Zpb 13 511).setIfInBounds 9 true=Zpb 13 1023) si_U (fun _ _ _ h=>h) (Zwn Z Z (T.e 7 Z) h3) Z Z Z ?_;intro ac T
   refine g_pass (T:=T) (i:=10) Z (by kernel_rfl) (by kernel_rfl:(Zpb 13 1023).setIfInBounds 10 true=Zpb 13 2047) si_U (fun _ _ _ h=>h) (Zwn Z Z (T.e 8 Z) h3) Z Z Z ?_;intro ac T
   refine Zgq T 11 4095 Z (fun _=>(Zr0 Z (T.e 9 Z) h3 evc)) ?_;intro ac T
   refine g_q (v:=(.bool false)) (T:=T.pick [0,1,2,3,4,5,6,7,8,9,10,11,12,13,14,15,16,17,18,19,20,21,22,23,25] Z) (i:=12) Z (by kernel_rfl) (by kernel_rfl:(Zpb 13 4095).setIfInBounds 12 true=Zpb 13 8191) si_U (fun _ _ _ h=>h) Z Z Z Z (fun _ _ _ _ _=>(Zra Z (T.e 0 Z))) ?_;intro ac T
   refine Zgd (by kernel_rfl) ?_
   refine nqR_n M ?_;clear M;intro wc M
   replace SAu3:=SAu3.pt
   replace SGu2:=SGu2.pt
   replace SI:=SI.pt
   replace SPu3:=SPu3.pt
   replace SWu4:=SWu4.pt
   replace Smu7:=Smu7.pt
   replace Squ8:=Squ8.pt
   replace Sru5:=Sru5.pt
   replace T:=T.pick [0,2,3,4,5,6,7,8,9,10,14,15,16,17,18,19,20,21,22,23,24,25] rfl
   refine Znb ?_
   refine nm_then ?_
   refine b_lone hP w fun T9=>?_
   replace M:=M.tp T9 0 0
   replace SAu3:=SAu3.tp T9 0
   replace SGu2:=SGu2.tp T9 0
   replace SI:=SI.tp T9 0
   replace SPu3:=SPu3.tp T9 0
   replace SWu4:=SWu4.tp T9 0
   replace Smu7:=Smu7.tp T9 0
   replace Squ8:=Squ8.tp T9 0
   replace Sru5:=Sru5.tp T9 0
   refine wp_region_lit ?_
   refine Zg2 T (Zq (Zrm Z (T.e 21 Z))) Z (fun _ T=>Zq (rn_add Z (T.e 0 Z) evc (by omega))) Z ?_;intro ac T
   refine l_q (v:=(Zi ((d9:Int)+1))) (T.pick [0,1,2,3,4,5,6,7,8,9,10,11,12,13,14,15,16,17,18,19,20,21,22] Z) Z Z Z Z (Zra Z (T.e 0 Z)) ?_;intro ac T
   refine wpList_nil ?_
   refine nqR_n M ?_;clear M;intro wc M
   replace SAu3:=SAu3.pt
   replace SGu2:=SGu2.pt
   replace SI:=SI.pt
   replace SPu3:=SPu3.pt
   replace SWu4:=SWu4.pt
   replace Smu7:=Smu7.pt
   replace Squ8:=Squ8.pt
   replace Sru5:=Sru5.pt
   replace T:=T.pick [0,3,4,5,6,7,8,9,10,11,12,13,14,15,16,17,18,19,20,21,22,23] rfl
   refine nm_then ?_
   exact ⟨_,by omega,d9+1,false,Z,(by omega),(by rw [List.take_add_one,hkd,List.all_append,← hmb];simp_all),T.pick [11,12,13,14,15,16,17,18,19,20,21,1,0] Z,M.mask [true] Z⟩
  intro h2
  rw [List.take_of_length_le (by omega)] at hmb
  have hrg:rgtB mv mb=true:=by rw [hmb];exact hrg0
  refine wpB_exit hP ?_
  refine Zet ?_
  refine Zet ?_
  refine ex_hit ?_
  refine nm_then ?_
  refine wpB_seq hP ?_
  refine b_lone hP w fun T9=>?_
  replace M:=M.tp T9 0 0
  replace SAu3:=SAu3.tp T9 0
  replace SGu2:=SGu2.tp T9 0
  replace SI:=SI.tp T9 0
  replace SPu3:=SPu3.tp T9 0
  replace SWu4:=SWu4.tp T9 0
  replace Smu7:=Smu7.tp T9 0
  replace Squ8:=Squ8.tp T9 0
  replace Sru5:=Sru5.tp T9 0
  refine Zgs M (M.mask [true] Z) 19 (by kernel_rfl) Z (by kernel_rfl) ?_
  clear M;intro wc M
  refine Zgq T 0 1 Z (fun _=>(Zrm Z (T.e 7 Z))) ?_;intro ac T
  refine Zgq T 1 3 Z (fun _=>(Zrm Z (T.e 12 Z))) ?_;intro ac T
  refine Zgq T 2 7 Z (fun _=>(Zri (size:=2) c Z (T.e 1 Z) (T.e 0 Z) ⟨_,Try.underlying24,by kernel_rfl⟩ Z (by omega) (Sru5.at0 (by omega)))) ?_;intro ac T
  refine gq (v:=(.agg #[Zi y0,Zi y1])) T 3 15 Z (fun B w' hD hl hS=>(rn_rowat (Sp.rcR Sru5 (show Mem (Bq.tp w T9 0) noEx w' _ from hS) (.cons _ (subL (subL (Zsq _ _)))) hky) Z (T.e 0 Z) Z)) ?_;intro ac T
  refine Zgq T 4 31 Z (fun _=>(Zrm Z (T.e 6 Z))) ?_;intro ac T
  refine Zgq T 5 63 Z (fun _=>(Zrm Z (T.e 16 Z))) ?_;intro ac T
  refine Zgq T 6 127 Z (fun _=>(Zri (size:=1) c Z (T.e 1 Z) (T.e 0 Z) ⟨_,Try.underlying28,by kernel_rfl⟩ Z (by omega) (SGu2.at0 (by omega)))) ?_;intro ac T
  refine gq T 7 255 Z (fun B w' hD hl hS=>(rn_cell (Sp.ic0 SGu2 (show Mem (Bq.tp w T9 0) noEx w' _ from hS) (.cons _ (subL (subL (subL (subL (subL (List.Sublist.refl _))))))) hkg) Z (T.e 0 Z))) ?_;intro ac T
  refine gw 8 511 ?_;intro K hK
  refine Zod T Z Z Z Z evf (.cons (T.e 4 Z) (.cons (T.e 0 Z) .nil)) Try.func62 Z Z ?_
  refine Calls.mono (inR_true (x0:=y0) (x1:=y1) (y:=gc) (by omega) _) ?_
  clear T;rintro e wc ⟨rfl,hb⟩ ac T
  replace M:=M.call hb;clear hb
  refine Zso hK _ _ (M.mask [true] Z) ?_;clear hK K
  refine g_addU M ?_
  refine Zgq (v:=(.bool false)) T 9 1023 Z (fun _=>(Zrq (rn_not Z (T.e 0 Z)) (by simp))) ?_;intro ac T
  refine Zgq T 10 2047 Z (fun _=>(Zrm Z (T.e 0 Z))) ?_;intro ac T
  refine g_q (T:=T) (i:=11) Z (by kernel_rfl) (by kernel_rfl:(Zpb 19 2047).setIfInBounds 11 true=Zpb 19 4095) (si_and si_U si_U) (fun _ _ _ h=>h) (Zwy Z Z (T.e 0 Z) Z) Z Z Z (fun _ _ _ _ _=>(Zrm Z (T.e 19 Z))) ?_;intro ac T
  refine g_q (T:=T) (i:=12) Z (by kernel_rfl) (by kernel_rfl:(Zpb 19 4095).setIfInBounds 12 true=Zpb 19 8191) (si_and si_U si_U) (fun _ _ _ h=>h) (Zwy Z Z (T.e 1 Z) Z) Z Z Z (fun _ _ _ _ _=>(Zrm Z (T.e 23 Z))) ?_;intro ac T
  refine g_q (T:=T) (i:=13) Z (by kernel_rfl) (by kernel_rfl:(Zpb 19 8191).setIfInBounds 13 true=Zpb 19 16383) (si_and si_U si_U) (fun _ _ _ h=>h) (Zwy Z Z (T.e 2 Z) Z) Z Z Z (fun _ _ _ _ _=>(Zri (size:=1) c Z (T.e 1 Z) (T.e 0 Z) ⟨_,Try.underlying28,by kernel_rfl⟩ Z (by omega) (Smu7.at0 (by omega)))) ?_;intro ac T
  refine g_q (T:=T) (i:=14) Z (by kernel_rfl) (by kernel_rfl:(Zpb 19 16383).setIfInBounds 14 true=Zpb 19 32767) (si_and si_U si_U) (fun _ _ _ h=>h) (Zwy Z Z (T.e 3 Z) Z) Z Z Z (fun B w' hD hl hS=>(rn_cell (Sp.ic0 Smu7 (show Mem (Bq.tp w T9 0) noEx w' _ from (MA.lft hS)) (.cons _ (subL (Zsq _ _))) hkm) Z (T.e 0 Z))) ?_;intro ac T
  refine g_q (T:=T) (i:=15) Z (by kernel_rfl) (by kernel_rfl:(Zpb 19 32767).setIfInBounds 15 true=Zpb 19 65535) (si_and si_U si_U) (fun _ _ _ h=>h) (Zwy Z Z (T.e 4 Z) Z) Z Z Z (fun _ _ _ _ _=>(Zrm Z (T.e 27 Z))) ?_;intro ac T
  refine g_w (i:=16) (by kernel_rfl) Z (by kernel_rfl:(Zpb 19 65535).setIfInBounds 16 true=Zpb 19 131071) (Zwy Z Z (T.e 5 Z) Z) ?_;intro K hK
  refine Zod T Z Z Z Z evf (.cons (T.e 1 Z) (.cons (T.e 0 Z) .nil)) Try.func64 Z Z ?_
  refine Calls.mono (right_true (v:=mv) (q:=mb) hrg _) ?_
  clear T;rintro e wc ⟨rfl,hb⟩ ac T
  replace M:=M.call hb;clear hb
  refine Zso hK _ _ (MA.mk (M.mask [true] Z) (M.mask [true] Z)) ?_;clear hK K
  refine g_q (v:=(.bool false)) (T:=T) (i:=17) Z (by kernel_rfl) (by kernel_rfl:(Zpb 19 131071).setIfInBounds 17 true=Zpb 19 262143) (si_and si_U si_U) (fun _ _ _ h=>h) (Zwy Z Z (T.e 6 Z) Z) Z Z Z (fun _ _ _ _ _=>(Zrq (rn_not Z (T.e 0 Z)) (by simp))) ?_;intro ac T
  refine Zgq T 18 524287 Z (fun _=>(Zr0 Z (T.e 7 Z) Z (T.e 0 Z))) ?_;intro ac T
  refine Zgd (by kernel_rfl) ?_
  refine nqR_n M ?_;clear M;intro wc M
  replace SAu3:=SAu3.pt
  replace SGu2:=SGu2.pt
  replace SI:=SI.pt
  replace SPu3:=SPu3.pt
  replace SWu4:=SWu4.pt
  replace Smu7:=Smu7.pt
  replace Squ8:=Squ8.pt
  replace Sru5:=Sru5.pt
  replace T:=T.pick [0,1,2,3,4,5,6,7,20,21,22,23,24,25,26,27,28,29,30] rfl
  refine nm_then ?_
  refine wB_cond_false hP (T.e 0 Z) ?_
  refine wpB_skip hP ?_
  refine Znb ?_
  refine nm_then ?_
  refine b_lone hP w fun T9=>?_
  replace M:=M.tp T9 0 0
  replace SAu3:=SAu3.tp T9 0
  replace SGu2:=SGu2.tp T9 0
  replace SI:=SI.tp T9 0
  replace SPu3:=SPu3.tp T9 0
  replace SWu4:=SWu4.tp T9 0
  replace Smu7:=Smu7.tp T9 0
  replace Squ8:=Squ8.tp T9 0
  replace Sru5:=Sru5.tp T9 0
  refine wp_region_lit ?_
  refine Zg2 T (Zq (Zrm Z (T.e 18 Z))) Z (fun _ T=>Zq (rn_add Z (T.e 0 Z) evc (by omega))) Z ?_;intro ac T
  refine l_q (v:=(Zi ((c:Int)+1))) (T.pick [0,1,2,3,4,5,6,7,8,9,10,11,12,13,14,15,16,17,18,19] Z) Z Z Z Z (Zra Z (T.e 0 Z)) ?_;intro ac T
  refine wpList_nil ?_
  refine nqR_n M ?_;clear M;intro wc M
  replace SAu3:=SAu3.pt
  replace SGu2:=SGu2.pt
  replace SI:=SI.pt
  replace SPu3:=SPu3.pt
  replace SWu4:=SWu4.pt
  replace Smu7:=Smu7.pt
  replace Squ8:=Squ8.pt
  replace Sru5:=Sru5.pt
  replace T:=T.pick [0,4,5,6,7,8,9,10,11,12,13,14,15,16,17,18,19,20] rfl
  refine nm_then ?_
  exact ⟨_,by omega,c+1,Z,(by omega),T.pick [8,9,10,11,12,13,14,15,16,17,0] Z,M.mask [true] Z⟩
 intro h1
 refine wpB_exit hP ?_
 refine Zet ?_
 refine Zet ?_
 refine ex_hit ?_
 refine nm_then ?_
 refine wpB_seq hP ?_
 refine b_lone hP w fun T9=>?_
 replace M:=M.tp T9 0 0
 replace SAu3:=SAu3.tp T9 0
 replace SGu2:=SGu2.tp T9 0
 replace SI:=SI.tp T9 0
 replace SPu3:=SPu3.tp T9 0
 replace SWu4:=SWu4.tp T9 0
 replace Smu7:=Smu7.tp T9 0
 replace Squ8:=Squ8.tp T9 0
 replace Sru5:=Sru5.tp T9 0
 refine Zgs M (M.mask [true] Z) 13 (by kernel_rfl) Z (by kernel_rfl) ?_
 clear M;intro wc M
 refine gq T 0 1 Z (fun B w' hD hl hS=>(Zrr (Mem.nth (show Mem (Bq.tp w T9 0) noEx w' _ from hS) 0 Z) Z (T.e 1 Z) Z)) ?_;intro ac T
 refine Zgq T 1 3 Z (fun _=>(Zrm Z (T.e 5 Z))) ?_;intro ac T
 refine Zgq T 2 7 Z (fun _=>(Zrm Z (T.e 8 Z))) ?_;intro ac T
 refine Zgq T 3 15 Z (fun _=>(Zrm Z (T.e 6 Z))) ?_;intro ac T
 refine Zgq T 4 31 Z (fun _=>(Zrm Z (T.e 6 Z))) ?_;intro ac T
 refine Zgq T 6 95 Z (fun _=>(Zrm Z (T.e 10 Z))) ?_;intro ac T
 refine gw 5 127 ?_;intro K hK
 refine Zod T Z Z Z Z evf (.cons (T.e 1 Z) .nil) Try.func63 Z Z ?_
 refine Calls.mono (total9_any Gbu2 nbu2 gu2 _ (SGu2.rd M (.cons _ (subL (subL (subL (subL (subL (List.Sublist.refl _)))))))) (by omega) (fun v hv=>by have:=hBtu2.cs.le3 v hv;omega)) ?_
 clear T;rintro e wc ⟨rfl,hb⟩ ac T
 replace M:=M.call hb;clear hb
 refine Zso hK _ _ (M.mask [true] Z) ?_;clear hK K
 refine gw 7 255 ?_;intro K hK
 have hBa:=hBtu2.air
 have hBf:=hBtu2.full
 refine Zod T Z Z Z Z evf (.cons (T.e 6 Z) (.cons (T.e 5 Z) (.cons (T.e 4 Z) (.cons (T.e 3 Z) (.cons (T.e 0 Z) (.cons (T.e 1 Z) .nil)))))) Try.func65 Z Z ?_
 refine Calls.mono (played_any bu2 Abu2 cbu2 Dbu2 dbu2 pu3 Apu3 cpu3 Au4 cu4 gu4 airu2 (sumL gu2) Bpu3 dpu3 aau3 _ (SPu3.rd M (.cons _ (subL (subL (subL (subL (Zsq _ _))))))) (SWu4.rd M (.cons _ (subL (subL (subL (Zsq _ _)))))) (SAu3.rd M (.cons _ (subL (subL (subL (subL (Zsq _ _))))))) hpgu3 (by omega) (by omega) (by omega) (by omega) hPtu3.bd) ?_
 clear T;rintro e wc ⟨Ayu15,cyu15,Iyu15,rfl,⟨byu15,oyu15,hSyu15⟩,N⟩ ac T
 rw [← hyL] at hSyu15
 replace M:=(M.join N).swapI
 clear N
 replace M:Mem (Bq.tp w T9 0) noEx wc ((g1,.cells [Zi bu2.full,Zi bu2.a0,Zi bu2.a1,.slice Abu2 bu2.cs.length cbu2,.slice Dbu2 bu2.ts.length dbu2])::(Ibu2++Ipu3++Iu4++Iru5++Imu7++Iqu8++Iyu15)):=M
 have Syu15:=hSyu15 (Bq.tp w T9 0) noEx
 rw [← hyL,← hyF] at T
 refine Zso hK _ _ ((M.mask [true] Z).sub (List.Sublist.cons_cons _ (Zsl _ _))) ?_;clear hK K
 refine Zgq T 8 511 Z (fun _=>(Zrm Z (T.e 0 Z))) ?_;intro ac T
 refine Zgq T 9 1023 Z (fun _=>(Zre Z (T.e 0 Z) Z)) ?_;intro ac T
 refine Zgq T 10 2047 Z (fun _=>(Zre Z (T.e 1 Z) Z)) ?_;intro ac T
 refine Zgq T 11 4095 Z (fun _=>(Zra Z (T.e 1 Z))) ?_;intro ac T
 refine Zgq T 12 8191 Z (fun _=>(Zra Z (T.e 1 Z))) ?_;intro ac T
 refine Zgd (by kernel_rfl) ?_
 refine nqR_n M ?_;clear M;intro wc M
 replace SAu3:=SAu3.pt
 replace SGu2:=SGu2.pt
 replace SI:=SI.pt
 replace SPu3:=SPu3.pt
 replace SWu4:=SWu4.pt
 replace Smu7:=Smu7.pt
 replace Squ8:=Squ8.pt
 replace Sru5:=Sru5.pt
 replace Syu15:=Syu15.pt
 replace T:=T.pick [0,1,22,23] rfl
 replace M:=M.mask [false] rfl
 replace M:Mem w noEx wc ((Ibu2++Ipu3++Iu4++Iru5++Imu7++Iqu8++Iyu15)):=M
 refine nm_then ?_
 refine wpB_seq hP ?_
 refine wpB_seq hP ?_
 refine b_lone hP w fun T9=>?_
 replace M:=M.tp T9 0 0
 replace SAu3:=SAu3.tp T9 0
 replace SGu2:=SGu2.tp T9 0
 replace SI:=SI.tp T9 0
 replace SPu3:=SPu3.tp T9 0
 replace SWu4:=SWu4.tp T9 0
 replace Smu7:=Smu7.tp T9 0
 replace Squ8:=Squ8.tp T9 0
 replace Sru5:=Sru5.tp T9 0
 replace Syu15:=Syu15.tp T9 0
 refine wp_region_lit ?_
 refine lq T (Zra Z evc) ?_;intro ac T
 refine wpList_nil ?_
 refine nqR_n M ?_;clear M;intro wc M
 replace SAu3:=SAu3.pt
 replace SGu2:=SGu2.pt
 replace SI:=SI.pt
 replace SPu3:=SPu3.pt
 replace SWu4:=SWu4.pt
 replace Smu7:=Smu7.pt
 replace Squ8:=Squ8.pt
 replace Sru5:=Sru5.pt
 replace Syu15:=Syu15.pt
 refine nm_then ?_
 refine wpB_block hP ?_
 refine wpB_loop_n hP (fun mz ac wc=>∃ (i:Nat),mz=yL.length - i∧(i≤yL.length)∧Tm ac 193 [(16,.slice Aqu8 qL.length cqu8),(18,Zi pv),(23,.slice Ayu15 yL.length cyu15),(24,.bool yF),(25,Zi (i:Int))]∧Mem w noEx wc ((Ibu2++Ipu3++Iu4++Iru5++Imu7++Iqu8++Iyu15))) ?_ ?_
 ·exact ⟨_,0,Z,(by omega),T.pick [3,4,2,1,0] Z,M.mask [] Z⟩
 clear T M
 rintro mz ac wc ⟨i,hmm3,hi,T,M⟩
 refine wpB_seq hP ?_
 refine wpB_seq hP ?_
 refine b_lone hP w fun T9=>?_
 replace M:=M.tp T9 0 0
 replace SAu3:=SAu3.tp T9 0
 replace SGu2:=SGu2.tp T9 0
 replace SI:=SI.tp T9 0
 replace SPu3:=SPu3.tp T9 0
 replace SWu4:=SWu4.tp T9 0
 replace Smu7:=Smu7.tp T9 0
 replace Squ8:=Squ8.tp T9 0
 replace Sru5:=Sru5.tp T9 0
 replace Syu15:=Syu15.tp T9 0
 refine wp_region_lit ?_
 refine Zg4 T (Zq (Zrm Z (T.e 4 Z))) Z (Zm 3 Z Z) Z (Zl Try.underlying28 0 Z Z) Z (fun _ T=>Zq (rn_lss Z (T.e 2 Z) (T.e 0 Z))) Z ?_;intro ac T
 refine wpList_nil ?_
 refine nqR_n M ?_;clear M;intro wc M
 replace SAu3:=SAu3.pt
 replace SGu2:=SGu2.pt
 replace SI:=SI.pt
 replace SPu3:=SPu3.pt
 replace SWu4:=SWu4.pt
 replace Smu7:=Smu7.pt
 replace Squ8:=Squ8.pt
 replace Sru5:=Sru5.pt
 replace Syu15:=Syu15.pt
 replace T:=T.pick [0,4,5,6,7,8] rfl
 refine nm_then ?_
 refine wB_if hP (T.e 0 Z) ?_ ?_
 ·intro h4
  obtain ⟨yv,hkv,-⟩:=ic_next (l:=yL) (k:=i) (by omega)
  obtain ⟨⟨q0,q1⟩,hkq,hin8⟩:=z9 i yv hkv
  dsimp only at hin8
  refine wpB_skip hP ?_
  refine nm_then ?_
  refine wpB_seq hP ?_
  refine wpB_block hP ?_
  refine wpB_seq hP ?_
  refine b_lone hP w fun T9=>?_
  replace M:=M.tp T9 0 0
  replace SAu3:=SAu3.tp T9 0
  replace SGu2:=SGu2.tp T9 0
  replace SI:=SI.tp T9 0
  replace SPu3:=SPu3.tp T9 0
  replace SWu4:=SWu4.tp T9 0
  replace Smu7:=Smu7.tp T9 0
  replace Squ8:=Squ8.tp T9 0
  replace Sru5:=Sru5.tp T9 0
  replace Syu15:=Syu15.tp T9 0
  refine Zgs M (M.mask [] Z) 10 (by kernel_rfl) Z (by kernel_rfl) ?_
  clear M;intro wc M
  refine Zgq T 0 1 Z (fun _=>(Zrm Z (T.e 1 Z))) ?_;intro ac T
  refine Zgq T 1 3 Z (fun _=>(Zrm Z (T.e 6 Z))) ?_;intro ac T
  refine Zgq T 2 7 Z (fun _=>(Zri (size:=2) i Z (T.e 1 Z) (T.e 0 Z) ⟨_,Try.underlying24,by kernel_rfl⟩ Z (by omega) (Squ8.at0 (by omega)))) ?_;intro ac T
  refine gq (v:=(.agg #[Zi q0,Zi q1])) T 3 15 Z (fun B w' hD hl hS=>(rn_rowat (Sp.rcR Squ8 (show Mem (Bq.tp w T9 0) noEx w' _ from hS) (subL (Zsq _ _)) hkq) Z (T.e 0 Z) Z)) ?_;intro ac T
  refine Zgq T 4 31 Z (fun _=>(Zrm Z (T.e 7 Z))) ?_;intro ac T
  refine Zgq T 5 63 Z (fun _=>(Zrm Z (T.e 10 Z))) ?_;intro ac T
  refine Zgq T 6 127 Z (fun _=>(Zri (size:=1) i Z (T.e 1 Z) (T.e 0 Z) ⟨_,Try.underlying28,by kernel_rfl⟩ Z (by omega) (Syu15.at0 (by omega)))) ?_;intro ac T
  refine gq T 7 255 Z (fun B w' hD hl hS=>(rn_cell (Sp.ic0 Syu15 (show Mem (Bq.tp w T9 0) noEx w' _ from hS) (Zsq _ _) hkv) Z (T.e 0 Z))) ?_;intro ac T
  refine gw 8 511 ?_;intro K hK
  refine Zod T Z Z Z Z evf (.cons (T.e 4 Z) (.cons (T.e 0 Z) .nil)) Try.func62 Z Z ?_
  refine Calls.mono (inR_true (x0:=q0) (x1:=q1) (y:=yv) (by omega) _) ?_
  clear T;rintro e wc ⟨rfl,hb⟩ ac T
  replace M:=M.call hb;clear hb
  refine Zso hK _ _ (M.mask [] Z) ?_;clear hK K
  refine Zgq (v:=(.bool false)) T 9 1023 Z (fun _=>(Zrq (rn_not Z (T.e 0 Z)) (by simp))) ?_;intro ac T
  refine Zgd (by kernel_rfl) ?_
  refine nqR_n M ?_;clear M;intro wc M
  replace SAu3:=SAu3.pt
  replace SGu2:=SGu2.pt
  replace SI:=SI.pt
  replace SPu3:=SPu3.pt
  replace SWu4:=SWu4.pt
  replace Smu7:=Smu7.pt
  replace Squ8:=Squ8.pt
  replace Sru5:=Sru5.pt
  replace Syu15:=Syu15.pt
  replace T:=T.pick [0,11,12,13,14,15] rfl
  refine nm_then ?_
  refine wB_cond_false hP (T.e 0 Z) ?_
  refine wpB_skip hP ?_
  refine Znb ?_
  refine nm_then ?_
  refine b_lone hP w fun T9=>?_
  replace M:=M.tp T9 0 0
  replace SAu3:=SAu3.tp T9 0
  replace SGu2:=SGu2.tp T9 0
  replace SI:=SI.tp T9 0
  replace SPu3:=SPu3.tp T9 0
  replace SWu4:=SWu4.tp T9 0
  replace Smu7:=Smu7.tp T9 0
  replace Squ8:=Squ8.tp T9 0
  replace Sru5:=Sru5.tp T9 0
  replace Syu15:=Syu15.tp T9 0
  refine wp_region_lit ?_
  refine Zg2 T (Zq (Zrm Z (T.e 5 Z))) Z (fun _ T=>Zq (rn_add Z (T.e 0 Z) evc (by omega))) Z ?_;intro ac T
  refine l_q (v:=(Zi ((i:Int)+1))) (T.pick [0,1,2,3,4,5,6] Z) Z Z Z Z (Zra Z (T.e 0 Z)) ?_;intro ac T
  refine wpList_nil ?_
  refine nqR_n M ?_;clear M;intro wc M
  replace SAu3:=SAu3.pt
  replace SGu2:=SGu2.pt
  replace SI:=SI.pt
  replace SPu3:=SPu3.pt
  replace SWu4:=SWu4.pt
  replace Smu7:=Smu7.pt
  replace Squ8:=Squ8.pt
  replace Sru5:=Sru5.pt
  replace Syu15:=Syu15.pt
  replace T:=T.pick [0,4,5,6,7] rfl
  refine nm_then ?_
  exact ⟨_,by omega,i+1,Z,(by omega),T.pick [1,2,3,4,0] Z,M.mask [] Z⟩
 intro h4
 refine wpB_exit hP ?_
 refine Zet ?_
 refine Zet ?_
 refine ex_hit ?_
 refine nm_then ?_
 refine wpB_seq hP ?_
 refine rB_preN hP w 4 (by decide) fun T9=>?_
 replace M:=M.tp T9 0 0
 replace SAu3:=SAu3.tp T9 0
 replace SGu2:=SGu2.tp T9 0
 replace SI:=SI.tp T9 0
 replace SPu3:=SPu3.tp T9 0
 replace SWu4:=SWu4.tp T9 0
 replace Smu7:=Smu7.tp T9 0
 replace Squ8:=Squ8.tp T9 0
 replace Sru5:=Sru5.tp T9 0
 replace Syu15:=Syu15.tp T9 0
 refine Zg2 T (Zq (Zrm Z (T.e 2 Z))) Z (Zm 5 Z Z) Z ?_;intro ac T
 refine Zl2 ?_
 refine Zod T Z Z Z Z evf (.cons (T.e 1 Z) (.cons (T.e 0 Z) .nil)) Try.func64 Z Z ?_
 refine Calls.mono (right_true (v:=pv) (q:=yF) z10 _) ?_
 clear T;rintro e wc ⟨rfl,hb⟩ ac T
 replace M:=M.call hb;clear hb
 refine lq T (Zrm Z (T.e 0 Z)) ?_;intro ac T
 refine wpList_nil ?_
 refine pqR_n M ?_;clear M;intro wc M
 replace SAu3:=SAu3.pt
 replace SGu2:=SGu2.pt
 replace SI:=SI.pt
 replace SPu3:=SPu3.pt
 replace SWu4:=SWu4.pt
 replace Smu7:=Smu7.pt
 replace Squ8:=Squ8.pt
 replace Sru5:=Sru5.pt
 replace Syu15:=Syu15.pt
 refine rB_call hP (m:=2) (first:=[]) (cap:=[]) T Z Z Z Z Z evf .nil Try.func16 Z Z (airy_any hP _) ?_ (Zwy Z Z (T.e 0 Z) Z)
 clear T
 rintro e wc ⟨rfl,hb⟩
 refine ⟨_,Z,?_⟩
 intro ac T
 replace M:=M.call hb;clear hb
 refine rB_moreN hP w 2 0 Z (by decide) fun T9=>?_
 replace M:=M.tp T9 0 0
 replace SAu3:=SAu3.tp T9 0
 replace SGu2:=SGu2.tp T9 0
 replace SI:=SI.tp T9 0
 replace SPu3:=SPu3.tp T9 0
 replace SWu4:=SWu4.tp T9 0
 replace Smu7:=Smu7.tp T9 0
 replace Squ8:=Squ8.tp T9 0
 replace Sru5:=Sru5.tp T9 0
 replace Syu15:=Syu15.tp T9 0
 refine Zg2 T (Zq (Zr1 Z (T.e 1 Z) Z (T.e 0 Z))) Z (Za 0 Z Z) Z ?_;intro ac T
 refine wpList_nil ?_
 refine pqR_n M ?_;clear M;intro wc M
 replace SAu3:=SAu3.pt
 replace SGu2:=SGu2.pt
 replace SI:=SI.pt
 replace SPu3:=SPu3.pt
 replace SWu4:=SWu4.pt
 replace Smu7:=Smu7.pt
 replace Squ8:=Squ8.pt
 replace Sru5:=Sru5.pt
 replace Syu15:=Syu15.pt
 refine rB_nil hP ?_
 replace T:=T.pick [0] rfl
 refine nm_then ?_
 refine wpB_ret hP ?_
 refine rt_1 T Z (T.e 0 Z) ?_
 exact ⟨rfl,M.below⟩
end
end Go.Proofs.Ytoheddpnnjldgaa


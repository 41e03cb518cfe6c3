/-
  Walks of functions,and plain laws (texts put together). No condition.
-/
import Derived.ChangeKeysEq
import Derived.Test.YtoheddpnnjldgaaMBellowSplit1
import Derived.Test.YtoheddpnnjldgaaMBellowSplit2
import Derived.Test.YtoheddpnnjldgaaMBellowSplit3
import Derived.Test.YtoheddpnnjldgaaMBellowSplit4
import Derived.Test.YtoheddpnnjldgaaMBellowSplit5
set_option maxRecDepth 100000
set_option maxHeartbeats 1000000
set_option linter.unusedSimpArgs false
set_option linter.unusedVariables false
set_option linter.unusedSectionVars false
namespace Go.Proofs.Ytoheddpnnjldgaa
open Go.RowKit
section
open Go.RowKit Go.Proofs.Ytoheddpnnjldgaa.Bq
theorem eqT156 {x y:Operand} {a0 a1 a2 a3 b0 b1 b2 b3:Int} {w:World}:(do eqGuard .eql 156 x y (.agg #[.int .u64 a0,.int .u64 a1,.int .u64 a2,.int .u64 a3]) (.agg #[.int .u64 b0,.int .u64 b1,.int .u64 b2,.int .u64 b3]);binOp .eql 156 (.agg #[.int .u64 a0,.int .u64 a1,.int .u64 a2,.int .u64 a3]) (.agg #[.int .u64 b0,.int .u64 b1,.int .u64 b2,.int .u64 b3]):Sem Value).run Try.prog w=.ok (.bool (decide (a0=b0) && (decide (a1=b1) && (decide (a2=b2) && decide (a3=b3))))) w:=by
 go_simp
 obtain ⟨i,hi⟩:=Option.isSome_iff_exists.1 (by kernel_rfl:(Try.prog.info? 96).isSome=true)
 rw [show (10000:Nat)=9999+1 from rfl,run_equalIn_array w 9999 _ _ Try.underlying156 hi,show Try.prog.cellsOf 96=1 by kernel_rfl,show List.range 4=[0,1,2,3] from rfl]
 simp only [Op.eqItems]
 go_simp
 (repeat' split) <;> simp_all
def asC (s:As):List Value:=[.int .u64 s.a,.int .u64 s.b,.int .u64 s.c,.int .u64 s.d]
theorem asAt {w:World} {g:Nat} {s:As} {k:Nat} (h:Bk w g #[.int .u64 s.a,.int .u64 s.b,.int .u64 s.c,.int .u64 s.d]) (hk:k < 4):w.cell? ((⟨g,0,none⟩:Addr).add (k * 1))=some (.int .u64 (s.get k)):=by
 have:=h.cell k
 match k,hk with
 | 0,_=>exact this
 | 1,_=>exact this
 | 2,_=>exact this
 | 3,_=>exact this
section
variable {P:Program} {op:Oper} {a:Act} {K:Act→World→Prop} {Q:Exit→Act→World→Prop} {w0 w:World} {ex:Nat→Prop} {L L':List (Nat×BA)} {n:Nat} {E:List (Nat×Value)} {df:List Deferred}
theorem ow_stA {ty : TypeId} {x y : Operand} {g k : Nat} {s : As} {v : Int} (M : Mem w0 ex w L) (T : TmD df a n E) (ho : op.op = .store ty x y) (hd : op.dst = none) (hx : a.eval x = .pointer (some ((⟨g, 0, none⟩ : Addr).add (k * 1)))) (hk : k < 4) (hy : a.eval y = .int .u64 v)
   (hu:Upd L g (.cells (asC s)) (.cells (asC (s.put k v))) L') (hi:(P.info? ty).map (·.size)=some 1) (h:∀ w' a',Mem w0 ex w' L'→TmD df a' n E→K a' w'):op.wp P a w K Q:=by
 match k,hk,hx,hu with
 | 0,_,hx,hu=>exact Zos (o:=0) M T ho hd hx hy rfl hu rfl (by simp) rfl hi h
 | 1,_,hx,hu=>exact Zos (o:=1) M T ho hd hx hy rfl hu rfl (by simp) rfl hi h
 | 2,_,hx,hu=>exact Zos (o:=2) M T ho hd hx hy rfl hu rfl (by simp) rfl hi h
 | 3,_,hx,hu=>exact Zos (o:=3) M T ho hd hx hy rfl hu rfl (by simp) rfl hi h
end
def nxB (full way s:Int) (q:Nt) (S:Int→Bool) (y:Int):Bool:=(decide (0≤y) && decide (y≤full)) && (upI 0 full).any fun a=>S a && (upI q.lo q.hi).any fun d=>decide (aft way a (q.sec * (d+s))=y)
def canF (full s:Int):(Int→Bool)→List Nt→List Int→Bool
 | S,q::p,w::g=>(upI 0 full).any (nxB full w s q S) && canF full s (nxB full w s q S) p g
 | _,_,_=>true
theorem canF_nil (full s:Int) (S:Int→Bool) (g:List Int):canF full s S [] g=true:=by unfold canF;rfl
def canB (b:Bw) (p:List Nt) (g:List Int) (s:Int):Bool:=canF b.full s (fun m=>decide (b.a0≤m) && decide (m≤b.a1)) p g
def hopB (b:Bw) (p:List Nt) (ss:List Int) (g:List Int):Bool:=ss.any (canB b p g)
structure RepS (x:As) (full:Int) (S:Int→Bool):Prop where
 ok:x.ok
 eq:∀ m:Int,0≤m→m < 256→x.has m=S m
 bd:∀ m,S m=true→0≤m∧m≤full
def Src (way s:Int) (q:Nt) (S:Int→Bool) (a m:Int):Prop:=∃ a',(0≤a'∧a' < a)∧S a'=true∧∃ d,(q.lo≤d∧d≤q.hi)∧aft way a' (q.sec * (d+s))=m
def SrcD (way s:Int) (q:Nt) (S:Int→Bool) (a d m:Int):Prop:=Src way s q S a m∨S a=true∧∃ e,(q.lo≤e∧e < d)∧aft way a (q.sec * (e+s))=m
def Rep4 (x:As) (full:Int) (R:Int→Prop):Prop:=x.ok∧∀ m:Int,0≤m→m < 256→(x.has m=true↔(0≤m∧m≤full)∧R m)
section
variable {x:As} {full way s a d:Int} {q:Nt} {S:Int→Bool}
theorem Rep4.zero:Rep4 ⟨0,0,0,0⟩ full (Src way s q S 0):=by
 refine ⟨As.zero_ok,fun m k0 _=>?_⟩
 rw [As.has_zero k0]
 constructor
 · intro h;cases h
 · rintro ⟨-,a',h,-⟩;omega
theorem Rep4.iff {R R':Int→Prop} (h:Rep4 x full R) (hr:∀ m,0≤m∧m≤full→(R m↔R' m)):Rep4 x full R' :=
 ⟨h.1,fun m k0 k1=>(h.2 m k0 k1).trans (and_congr_right fun hm=>hr m hm)⟩
theorem Rep4.start (h:Rep4 x full (Src way s q S a)):Rep4 x full (SrcD way s q S a q.lo):=by
 refine h.iff fun m hm=>⟨.inl,fun h=>?_⟩
 rcases h with h | ⟨-,e,h,-⟩
 · exact h
 · omega
theorem Rep4.stop_no (h:Rep4 x full (SrcD way s q S a d)) (hs:S a=false):Rep4 x full (Src way s q S (a+1)):=by
 refine h.iff fun m hm=>⟨fun h=>?_,fun h=>?_⟩
 ·rcases h with ⟨a',h,h2⟩ | ⟨h,-⟩
  ·exact ⟨a',by omega,h2⟩
  ·rw [hs] at h;cases h
 ·obtain ⟨a',h1,h2,h3⟩:=h
  rcases (by omega:a' < a∨a'=a) with h4 | rfl
  ·exact .inl ⟨a',by omega,h2,h3⟩
  ·rw [hs] at h2;cases h2
theorem Rep4.stop_all (h:Rep4 x full (SrcD way s q S a d)) (h0:0≤a) (hd:d=q.hi+1):Rep4 x full (Src way s q S (a+1)):=by
 refine h.iff fun m hm=>⟨fun h=>?_,fun h=>?_⟩
 ·rcases h with ⟨a',h,h2⟩ | ⟨h,e,h2,h3⟩
  ·exact ⟨a',by omega,h2⟩
  ·exact ⟨a,by omega,h,e,by omega,h3⟩
 ·obtain ⟨a',h1,h2,e,h3,h5⟩:=h
  rcases (by omega:a' < a∨a'=a) with h4 | rfl
  ·exact .inl ⟨a',by omega,h2,e,h3,h5⟩
  ·exact .inr ⟨h2,e,by omega,h5⟩
theorem Rep4.miss (h:Rep4 x full (SrcD way s q S a d)) (hy : ¬ (0≤aft way a (q.sec * (d+s))∧aft way a (q.sec * (d+s))≤full)):Rep4 x full (SrcD way s q S a (d+1)):=by
 refine h.iff fun m hm=>⟨fun h=>?_,fun h=>?_⟩
 ·rcases h with h | ⟨h,e,h2,h3⟩
  ·exact .inl h
  ·exact .inr ⟨h,e,by omega,h3⟩
 ·rcases h with h | ⟨h,e,h2,h3⟩
  ·exact .inl h
  ·rcases (by omega:e < d∨e=d) with h4 | rfl
   ·exact .inr ⟨h,e,by omega,h3⟩
   ·exact absurd (h3 ▸ hm) hy
theorem Rep4.hit (h:Rep4 x full (SrcD way s q S a d)) (hS:S a=true) (hl:q.lo≤d) (hf:full < 256) (hy:0≤aft way a (q.sec * (d+s))∧aft way a (q.sec * (d+s))≤full):Rep4 (x.add (aft way a (q.sec * (d+s)))) full (SrcD way s q S a (d+1)):=by
 refine ⟨As.add_ok h.1 hy.1,fun m k0 k1=>?_⟩
 rw [As.has_add h.1 hy.1 (by omega) k0 k1,h.2 m k0 k1]
 constructor
 ·rintro (rfl | ⟨hm,h⟩)
  ·exact ⟨hy,.inr ⟨hS,d,by omega,Z⟩⟩
  ·refine ⟨hm,?_⟩
   rcases h with h | ⟨h,e,h2,h3⟩
   ·exact .inl h
   ·exact .inr ⟨h,e,by omega,h3⟩
 ·rintro ⟨hm,h⟩
  rcases h with h | ⟨h,e,h2,h3⟩
  ·exact .inr ⟨hm,.inl h⟩
  ·rcases (by omega:e < d∨e=d) with h4 | rfl
   ·exact .inr ⟨hm,.inr ⟨h,e,by omega,h3⟩⟩
   ·exact .inl h3.symm
theorem Rep4.done (h:Rep4 x full (Src way s q S (full+1))):RepS x full (nxB full way s q S):=by
 refine ⟨h.1,fun m k0 k1=>?_,fun m hm=>?_⟩
 ·rw [Bool.eq_iff_iff,h.2 m k0 k1]
  unfold nxB Src
  simp only [Bool.and_eq_true,decide_eq_true_eq,List.any_eq_true,upI_mem]
  refine and_congr_right fun _=>⟨fun ⟨a',h1,h2,e,h3,h4⟩=>⟨a',by omega,h2,e,h3,h4⟩,fun ⟨a',h1,h2,e,h3,h4⟩=>⟨a',by omega,h2,e,h3,h4⟩⟩
 ·unfold nxB at hm
  simp only [Bool.and_eq_true,decide_eq_true_eq] at hm
  exact hm.1
theorem RepS.none (h:RepS x full S) (hf:full < 256) (ha:x.a=0) (hb:x.b=0) (hc:x.c=0) (hd:x.d=0):(upI 0 full).any S=false:=by
 rw [List.any_eq_false]
 intro m hm
 have:=upI_mem.1 hm
 rw [← h.eq m (by omega) (by omega)]
 have e:x=⟨0,0,0,0⟩:=by cases x;simp_all
 rw [e,As.has_zero (by omega)]
 simp
theorem RepS.some (h:RepS x full S) (hn : ¬ (x.a=0∧x.b=0∧x.c=0∧x.d=0)):(upI 0 full).any S=true:=by
 rcases Zx9 ((upI 0 full).any S) with h1 | h1
 ·exact h1
 ·refine absurd (As.zero_of h.ok fun m k0 k1=>?_) hn
  rw [h.eq m k0 k1]
  rcases Zx9 (S m) with h2 | h2
  ·have:=List.any_eq_false.1 h1 m (upI_mem.2 (h.bd m h2))
   exact absurd h2 this
  ·exact h2
end
theorem with_any (s:As) (n:Int)  (w:World) (h0:0≤n) (h1:n < 256)  :
  Calls Try.prog 147 #[.agg #[.int .u64 s.a,.int .u64 s.b,.int .u64 s.c,.int .u64 s.d],Zi n] w fun e w'=>e=.returned (.agg #[.int .u64 ((s.add n).a),.int .u64 ((s.add n).b),.int .u64 ((s.add n).c),.int .u64 ((s.add n).d)])∧Below w.heap.size w w':=by
 have hq64:=td64 h0
 have hr64:=tm64 h0
 refine Zpx noEx Try.func147 Z 15 Z [.agg #[.int .u64 s.a,.int .u64 s.b,.int .u64 s.c,.int .u64 s.d],Zi n] Z Z (Mem.init w _) ?_
 intro ac wc T M
 refine Zsr ?_
 refine Zl2 ?_
 refine Zob M T Z Z Z Z (T.e 0 Z) Z ?_;clear M T;intro g1 wc ac M T
 refine Zl2 ?_
 refine Zoa M T Z Z Z Z ?_;clear M T;intro g2 wc ac M T
 replace T:=T.pick [0,1,3] rfl
 refine Zln ?_
 refine wp_seq ?_
 refine Zgs M (M.perm [] Z Z) 10 (by kernel_rfl) Z (by kernel_rfl) ?_
 clear M;intro wc M
 refine g_addG 9 M ?_
 refine Zgq T 0 1 Z (fun _=>(Zrm Z (T.e 2 Z))) ?_;intro ac T
 refine Zgq T 1 3 Z (fun _=>(rn_quo Z (T.e 0 Z) evc (by omega) (by omega))) ?_;intro ac T
 refine Zgq (v:=(.pointer (some ((⟨g1,0,none⟩:Addr).add ((n.toNat / 64) * 1))))) T 2 7 Z (fun _=>(rn_indexG (size:=1) (n.toNat / 64) Z (T.e 3 Z) (T.e 0 Z) (td64 h0) Try.underlying156 (by kernel_rfl) (by omega))) ?_;intro ac T
 refine gq (v:=(.int .u64 (s.get (n.toNat / 64)))) T 3 15 Z (fun B w' hD hl hS=>(rn_cell (asAt (s:=s) (Mem.nth (show Mem w noEx w' _ from ((MA.lft hS) (hD.wait (i:=3) (m:=9) (by kernel_rfl) hl))) 1 Z) (by omega)) Z (T.e 0 Z))) ?_;intro ac T
 refine Zgq T 4 31 Z (fun _=>(Zrm Z (T.e 6 Z))) ?_;intro ac T
 refine Zgq T 5 63 Z (fun _=>(rn_rem Z (T.e 0 Z) evc (by omega))) ?_;intro ac T
 refine Zgq T 6 127 Z (fun _=>(rn_shlU Z evc (T.e 0 Z) (by omega))) ?_;intro ac T
 refine Zgq T 7 255 Z (fun _=>(rn_orU Z (T.e 3 Z) (T.e 0 Z))) ?_;intro ac T
 refine Zgq (v:=(.pointer (some ((⟨g1,0,none⟩:Addr).add ((n.toNat / 64) * 1))))) T 8 511 Z (fun _=>(rn_indexG (size:=1) (n.toNat / 64) Z (T.e 9 Z) (T.e 6 Z) (td64 h0) Try.underlying156 (by kernel_rfl) (by omega))) ?_;intro ac T
 refine gw 9 1023 ?_;intro K hK
 refine ow_stA M T Z Z (T.e 0 Z) (by omega) (T.e 1 Z) (.tail .head) (by kernel_rfl) ?_;clear M T;intro wc ac M T
 replace M:Mem w noEx wc [(g2,.cells [.int .u64 0,.int .u64 0,.int .u64 0,.int .u64 0]),(g1,.cells [.int .u64 ((s.add n).a),.int .u64 ((s.add n).b),.int .u64 ((s.add n).c),.int .u64 ((s.add n).d)])]:=M
 refine Zso hK _ _ (MA.mk (fun h=>(no_of (by kernel_rfl) h).elim) (M.mask [false,false] Z)) ?_;clear hK K
 refine Zgd (by kernel_rfl) ?_
 replace T:=T.pick [9,10] rfl
 refine nm_then ?_
 refine Zsr ?_
 refine lq T (Zrr (Mem.nth M 1 Z) Z (T.e 1 Z) Z) ?_;intro ac T
 refine Zl2 ?_
 refine Zot M T Z Z (T.e 1 Z) (T.e 0 Z) Z .head Z Z ?_;clear M T;intro wc ac M T
 refine wpList_nil ?_
 replace T:=T.pick [1] rfl
 replace M:=M.mask [true,false] rfl
 refine Znr ?_
 refine rt_c M T Z (T.e 0 Z) (Zne (i:=0) Z) Z ?_
 exact ⟨rfl,M.below⟩
theorem has_any (s:As) (n:Int)  (w:World) (h0:0≤n) (h1:n < 256)  :
  Calls Try.prog 148 #[.agg #[.int .u64 s.a,.int .u64 s.b,.int .u64 s.c,.int .u64 s.d],Zi n] w fun e w'=>e=.returned (.bool (s.has n))∧Below w.heap.size w w':=by
 have hq64:=td64 h0
 have hr64:=tm64 h0
 refine Zpx noEx Try.func148 Z 14 Z [.agg #[.int .u64 s.a,.int .u64 s.b,.int .u64 s.c,.int .u64 s.d],Zi n] Z Z (Mem.init w _) ?_
 intro ac wc T M
 refine Zsr ?_
 refine Zl2 ?_
 refine Zob M T Z Z Z Z (T.e 0 Z) Z ?_;clear M T;intro g1 wc ac M T
 refine lq T (Zra Z evc) ?_;intro ac T
 replace T:=T.pick [1,3] rfl
 refine Zln ?_
 refine Zsr ?_
 refine Zg8 (v3:=(.pointer (some ((⟨g1,0,none⟩:Addr).add ((n.toNat / 64) * 1))))) (v4:=(.int .u64 (s.get (n.toNat / 64)))) T (Zq (Zrm Z (T.e 1 Z))) Z (fun _ T=>Zq (rn_quo Z (T.e 0 Z) evc (by omega) (by omega))) Z (fun _ T=>Zq (rn_indexG (size:=1) (n.toNat / 64) Z (T.e 2 Z) (T.e 0 Z) (td64 h0) Try.underlying156 (by kernel_rfl) (by omega))) Z (fun _ T=>Zq (rn_cell (asAt (s:=s) (Mem.nth M 0 Z) (by omega)) Z (T.e 0 Z))) Z (Zm 5 Z Z) Z (fun _ T=>Zq (rn_rem Z (T.e 0 Z) evc (by omega))) Z (fun _ T=>Zq (rn_shrU Z (T.e 2 Z) (T.e 0 Z) (by omega))) Z (fun _ T=>Zq (rn_andU Z (T.e 0 Z) evc)) Z ?_;intro ac T
 refine Zg2 T (Zq (rn_eql Z (T.e 0 Z) evc)) Z (Za 0 Z Z) Z ?_;intro ac T
 refine wpList_nil ?_
 replace T:=T.pick [0] rfl
 replace M:=M.mask [false] rfl
 refine Znr ?_
 refine rt_1 T Z (T.e 0 Z) ?_
 exact ⟨rfl,M.below⟩
set_option maxHeartbeats 4000000 in
theorem can_any (b:Bw) (A:Option Addr) (c:Nat) (D:Option Addr) (d:Nat) (p:List Nt) (P:Option Addr) (pc:Nat) (s:Int) (G:Option Addr) (n:Nat) (g:List Int)  (w:World) (hP9:Rd w w.heap.size 4 P p.length (ntc p)) (hG:Rd w w.heap.size 1 G g.length (ic g)) (hgp:NtGood p) (hgb:BwAir b) (hs:0≤s∧s≤20) (hgl:g.length=p.length)  :
   Calls Try.prog 137 #[.agg #[Zi b.full,Zi b.a0,Zi b.a1,.slice A b.cs.length c,.slice D b.ts.length d,.slice P p.length pc,Zi s],.slice G g.length n] w fun e w'=>e=.returned (.bool (canB b p g s))∧Below w.heap.size w w':=by
 obtain ⟨bP,oP,SP⟩:=Sp.old hP9
 obtain ⟨bG,oG,SG⟩:=Sp.old hG
 have hp6:=hgp.n6
 refine Zpx noEx Try.func137 Z 92 Z [.agg #[Zi b.full,Zi b.a0,Zi b.a1,.slice A b.cs.length c,.slice D b.ts.length d,.slice P p.length pc,Zi s],.slice G g.length n] Z Z (Mem.init w _) ?_
 intro ac wc T M
 refine Zsr ?_
 refine Zl2 ?_
 refine Zob M T Z Z Z Z (T.e 0 Z) Z ?_;clear M T;intro g1 wc ac M T
 refine lq T (Zra Z evc) ?_;intro ac T
 replace T:=T.pick [1,3] rfl
 refine Zln ?_
 refine Zsr ?_
 refine Zl2 ?_
 refine Zoa M T Z Z Z Z ?_;clear M T;intro g2 wc ac M T
 refine Zln ?_
 refine wp_seq ?_
 refine Zsr ?_
 refine Zg5 (v1:=(Zj g1)) (v2:=(.pointer (some ⟨g1,1,none⟩))) (v3:=(.pointer (some ⟨g1,1,none⟩))) T (Zq (Zrg 0 Z (T.e 1 Z))) Z (Zf 1 0 Z Z) Z (Zf 0 0 Z Z) Z (Zo M 1 0 Z Z Z Z) Z (Za 0 Z Z) Z ?_;intro ac T
 replace T:=T.pick [0,5,6,7] rfl
 refine Zln ?_
 refine wp_block ?_
 have hgb1:=hgb.full
 have hgb2:=hgb.air
 have han:airN b=(b.a1 - b.a0+1).toNat:=rfl
 rw [show b.a0=b.a0+((0:Nat):Int) by omega] at T
 refine wp_loop_n (fun mz ac wc=>∃ (j:Nat) (s9:As),mz=airN b - j∧(j≤airN b)∧s9.ok∧(∀ m:Int,0≤m→m < 256→(s9.has m=true↔b.a0≤m∧m < b.a0+(j:Int)))∧Tm ac 92 [(1,.slice G g.length n),(2,Zj g1),(5,Zj g2),(6,Zi (b.a0+(j:Int)))]∧Mem w noEx wc [(g2,.cells [.int .u64 s9.a,.int .u64 s9.b,.int .u64 s9.c,.int .u64 s9.d]),(g1,.cells [Zi b.full,Zi b.a0,Zi b.a1,.slice A b.cs.length c,.slice D b.ts.length d,.slice P p.length pc,Zi s])]) ?_ ?_
 ·exact ⟨_,0,(⟨0,0,0,0⟩:As),Z,(Nat.zero_le _),As.zero_ok,(fun m k0 _=>by rw [As.has_zero k0];constructor <;> intro h9 <;> first | (cases h9;done) | omega),T.pick [3,2,1,0] Z,M.mask [true,true] Z⟩
 clear T M
 rintro mz ac wc ⟨j,s9,hmm1,hj,hok,HX,T,M⟩
 refine wp_seq ?_
 refine Zsr ?_
 refine Zg6 (v2:=(Zj g1)) (v3:=(.pointer (some ⟨g1,1,none⟩))) (v4:=(.pointer (some ⟨g1,2,none⟩))) T (Zq (Zrm Z (T.e 3 Z))) Z (Zf 0 2 Z Z) Z (Zf 1 0 Z Z) Z (Zf 1 0 Z Z) Z (Zo M 1 0 Z Z Z Z) Z (fun _ T=>Zq (rn_leq Z (T.e 4 Z) (T.e 0 Z))) Z ?_;intro ac T
 replace T:=T.pick [0,6,7,8,9] rfl
 refine Zln ?_
 refine wp_if (T.e 0 Z) ?_ ?_
 ·intro h1
  refine Zsk ?_
  refine wp_seq ?_
  refine wp_block ?_
  refine wp_region_lit ?_
  refine Zg2 T (Zq (Zrr (Mem.nth M 0 Z) Z (T.e 3 Z) Z)) Z (Zm 5 Z Z) Z ?_;intro ac T
  refine Zl2 ?_
  refine Zod T Z Z Z Z evf (.cons (T.e 1 Z) (.cons (T.e 0 Z) .nil)) Try.func147 Z Z ?_
  refine Calls.mono (with_any s9 (b.a0+(j:Int)) _ (by omega) (by omega)) ?_
  clear T;rintro e wc ⟨rfl,hb⟩ ac T
  replace M:=M.call hb;clear hb
  refine Zl2 ?_
  refine Zot M T Z Z (T.e 6 Z) (T.e 0 Z) Z .head Z Z ?_;clear M T;intro wc ac M T
  refine wpList_nil ?_
  replace T:=T.pick [4,5,6,7] rfl
  refine Znb ?_
  refine nm_then ?_
  refine wp_region_lit ?_
  refine Zg2 T (Zq (Zrm Z (T.e 3 Z))) Z (fun _ T=>Zq (rn_add Z (T.e 0 Z) evc (by omega))) Z ?_;intro ac T
  refine l_q (v:=(Zi ((b.a0+(j:Int))+1))) (T.pick [0,1,2,3,4] Z) Z Z Z Z (Zra Z (T.e 0 Z)) ?_;intro ac T
  replace T:=T.pick [0,3,4,5] rfl
  refine Zln ?_
  rw [show b.a0+(j:Int)+1=b.a0+((j+1:Nat):Int) by omega] at T
  exact ⟨_,by omega,j+1,(s9.add (b.a0+(j:Int))),Z,(by omega),(As.add_ok hok (by omega)),(fun m k0 k1=>by rw [As.has_add hok (by omega) (by omega) k0 k1,HX m k0 k1];omega),T.pick [1,2,3,0] Z,M.mask [true,true] Z⟩
 intro h1
 obtain rfl:j=airN b:=by omega
 refine wp_exit ?_
 refine Zet ?_
 refine Zet ?_
 refine ex_hit ?_
 refine Zns ?_
 refine Zsr ?_
 refine Zg4 (v1:=(.pointer (some ⟨g1,5,none⟩))) T (Zq (Zrg 5 Z (T.e 2 Z))) Z (Zo M 1 0 Z Z Z Z) Z (Zl Try.underlying44 0 Z Z) Z (fun _ T=>Zq (Zrm Z evc)) Z ?_;intro ac T
 replace T:=T.pick [0,1,2,5,6,7] rfl
 refine Zln ?_
 refine wp_block ?_
 refine wp_loop_n (fun mz ac wc=>∃ (k:Nat) (s8:As) (S:Int→Bool),mz=p.length - k∧(k≤p.length)∧(RepS s8 b.full S)∧(canB b p g s=canF b.full s S (p.drop k) (g.drop k))∧Tm ac 92 [(1,.slice G g.length n),(2,Zj g1),(5,Zj g2),(31,.slice P p.length pc),(32,Zi ((p.length:Nat):Int)),(33,Zi (k:Int))]∧Mem w noEx wc [(g2,.cells [.int .u64 s8.a,.int .u64 s8.b,.int .u64 s8.c,.int .u64 s8.d]),(g1,.cells [Zi b.full,Zi b.a0,Zi b.a1,.slice A b.cs.length c,.slice D b.ts.length d,.slice P p.length pc,Zi s])]) ?_ ?_
 ·exact ⟨_,0,s9,(fun m=>decide (b.a0≤m) && decide (m≤b.a1)),Z,(Nat.zero_le _),⟨hok,fun m k0 k1=>by rw [Bool.eq_iff_iff,HX m k0 k1,Bool.and_eq_true,decide_eq_true_eq,decide_eq_true_eq];omega,fun m hm=>by rw [Bool.and_eq_true,decide_eq_true_eq,decide_eq_true_eq] at hm;omega⟩,Z,T.pick [3,4,5,2,1,0] Z,M.mask [true,true] Z⟩
 clear T M
 rintro mz ac wc ⟨k,s8,S,hmm2,hk,hR,H,T,M⟩
 refine Zsr ?_
 refine lq T (rn_lss Z (T.e 5 Z) (T.e 4 Z)) ?_;intro ac T
 refine Zln ?_
 refine wp_seq ?_
 refine wp_if (T.e 0 Z) ?_ ?_
 ·intro h2
  obtain ⟨q,hkq,hd⟩:=ntc_next (l:=p) (k:=k) (by omega)
  obtain ⟨wy,hky,hd2⟩:=ic_next (l:=g) (k:=k) (by omega)
  rw [hd,hd2,canF] at H
  have hgq:=hgp.ok q (List.mem_of_getElem? hkq)
  refine Zsk ?_
  refine wp_seq ?_
  refine wp_block ?_
  refine Zsr ?_
  refine Zg3 (v3:=(.agg #[Zi q.sec,Zi q.lo,Zi q.hi,.bool q.rest])) T (Zq (Zrm Z (T.e 6 Z))) Z (fun _ T=>Zq (Zri (size:=4) k Z (T.e 5 Z) (T.e 7 Z) ⟨_,Try.underlying44,by kernel_rfl⟩ Z (by omega) (SP.at0 (by omega)))) Z (fun _ T=>Zq (rn_rowat (Sp.ntcR SP M (Zz9 _) hkq) Z (T.e 0 Z) Z)) Z ?_;intro ac T
  refine Zl2 ?_
  refine Zoa M T Z Z Z Z ?_;clear M T;intro g3 wc ac M T
  refine lq T (Zra Z (T.e 3 Z)) ?_;intro ac T
  refine Zl2 ?_
  refine Zot M T Z Z (T.e 1 Z) (T.e 2 Z) Z .head Z Z ?_;clear M T;intro wc ac M T
  replace T:=T.pick [0,1,6,7,8,9,10,11] rfl
  refine Zln ?_
  refine Zsr ?_
  refine Zg4 T (Zq (Zrm Z (T.e 2 Z))) Z (Zm 1 Z Z) Z (fun _ T=>Zq (Zri (size:=1) k Z (T.e 1 Z) (T.e 0 Z) ⟨_,Try.underlying28,by kernel_rfl⟩ Z (by omega) (SG.at0 (by omega)))) Z (fun _ T=>Zq (rn_cell (Sp.ic0 SG M (Zz9 _) hky) Z (T.e 0 Z))) Z ?_;intro ac T
  refine Zl2 ?_
  refine Zod T Z Z Z Z evf (.cons (T.e 0 Z) .nil) Try.func80 Z Z ?_
  refine Calls.mono (works_fn wy _) ?_
  clear T;rintro e wc ⟨FAu2,FRu2,rfl,hfau2,hfru2,hb⟩ ac T
  replace M:=M.call hb;clear hb
  obtain ⟨fau2,ha1u2,ha2u2,ha3u2,ha4u2⟩:=hfau2
  obtain ⟨fru2,hr1u2,hr2u2,hr3u2,hr4u2⟩:=hfru2
  refine Zg2 (v1:=(.func (.func FAu2) #[] [].toArray)) T (Zq (rn_field Z (T.e 0 Z) (by kernel_rfl))) Z (Za 0 Z Z) Z ?_;intro ac T
  replace T:=T.pick [0,8,9,10,11,12,13,14] rfl
  refine Zln ?_
  refine Zsr ?_
  refine Zl2 ?_
  refine Zoa M T Z Z Z Z ?_;clear M T;intro g4 wc ac M T
  refine Zln ?_
  refine Zsr ?_
  refine Zg3 (v2:=(.func (.func 148) #[.agg #[.int .u64 s8.a,.int .u64 s8.b,.int .u64 s8.c,.int .u64 s8.d]] #[])) T (Zq (Zrr (Mem.nth M 2 Z) Z (T.e 5 Z) Z)) Z (fun _ T=>Zq (rn_makeFunc Z (.cons (T.e 0 Z) .nil) .nil)) Z (Za 0 Z Z) Z ?_;intro ac T
  replace T:=T.pick [0,3,4,5,6,7,8,9,10,11] rfl
  refine Zln ?_
  refine wp_seq ?_
  refine Zsr ?_
  refine Zg5 (v1:=(Zj g1)) (v2:=(Zj g1)) T (Zq (Zrg 0 Z (T.e 5 Z))) Z (Zf 0 0 Z Z) Z (Zo M 3 0 Z Z Z Z) Z (fun _ T=>Zq (rn_add Z (T.e 0 Z) evc (by omega))) Z (fun _ T=>Zq (Zrm Z evc)) Z ?_;intro ac T
  replace T:=T.pick [0,1,5,6,7,8,9,10,11,12,13,14] rfl
  refine Zln ?_
  refine wp_block ?_
  refine wp_loop_n (fun mz ac wc=>∃ (a:Nat) (x:As),mz=(b.full+1 - (a:Int)).toNat∧((a:Int)≤b.full+1)∧(Rep4 x b.full (Src wy s q S (a:Int)))∧Tm ac 92 [(1,.slice G g.length n),(2,Zj g1),(5,Zj g2),(8,Zj g3),(9,.func (.func FAu2) #[] [].toArray),(10,Zj g4),(11,.func (.func 148) #[.agg #[.int .u64 s8.a,.int .u64 s8.b,.int .u64 s8.c,.int .u64 s8.d]] #[]),(31,.slice P p.length pc),(32,Zi ((p.length:Nat):Int)),(33,Zi (k:Int)),(49,Zi (b.full+1)),(50,Zi (a:Int))]∧Mem w noEx wc [(g4,.cells [.int .u64 x.a,.int .u64 x.b,.int .u64 x.c,.int .u64 x.d]),(g3,.cells [Zi q.sec,Zi q.lo,Zi q.hi,.bool q.rest]),(g2,.cells [.int .u64 s8.a,.int .u64 s8.b,.int .u64 s8.c,.int .u64 s8.d]),(g1,.cells [Zi b.full,Zi b.a0,Zi b.a1,.slice A b.cs.length c,.slice D b.ts.length d,.slice P p.length pc,Zi s])]) ?_ ?_
  ·exact ⟨_,0,(⟨0,0,0,0⟩:As),Z,(by omega),Rep4.zero,T.pick [6,7,8,5,4,3,2,9,10,11,1,0] Z,M.mask [true,true,true,true] Z⟩
  clear T M
  rintro mz ac wc ⟨a,x,hmm3,ha,hX,T,M⟩
  refine Zsr ?_
  refine lq T (rn_lss Z (T.e 11 Z) (T.e 10 Z)) ?_;intro ac T
  refine Zln ?_
  refine wp_seq ?_
  refine wp_if (T.e 0 Z) ?_ ?_
  ·intro h3
   refine Zsk ?_
   refine wp_seq ?_
   refine wp_block ?_
   refine Zsr ?_
   refine Zg2 T (Zq (Zrm Z (T.e 12 Z))) Z (Za 0 Z Z) Z ?_;intro ac T
   replace T:=T.pick [0,3,4,5,6,7,8,9,10,11,12,13,14] rfl
   refine Zln ?_
   refine Zsr ?_
   refine Zg4 (v1:=(.pointer (some ⟨g3,1,none⟩))) (v2:=(.pointer (some ⟨g3,1,none⟩))) T (Zq (Zrg 1 Z (T.e 4 Z))) Z (Zf 0 0 Z Z) Z (Zo M 1 0 Z Z Z Z) Z (Za 0 Z Z) Z ?_;intro ac T
   replace T:=T.pick [0,4,5,6,7,8,9,10,11,12,13,14,15,16] rfl
   refine Zln ?_
   refine wp_block ?_
   rw [show q.lo=q.lo+((0:Nat):Int) by omega] at T
   refine wp_loop_n (fun mz ac wc=>∃ (dn:Nat) (x4:As),mz=(q.hi+1 - (q.lo+(dn:Int))).toNat∧(q.lo+(dn:Int)≤q.hi+1)∧(Rep4 x4 b.full (SrcD wy s q S (a:Int) (q.lo+(dn:Int))))∧Tm ac 92 [(1,.slice G g.length n),(2,Zj g1),(5,Zj g2),(8,Zj g3),(9,.func (.func FAu2) #[] [].toArray),(10,Zj g4),(11,.func (.func 148) #[.agg #[.int .u64 s8.a,.int .u64 s8.b,.int .u64 s8.c,.int .u64 s8.d]] #[]),(12,Zi (a:Int)),(13,Zi (q.lo+(dn:Int))),(31,.slice P p.length pc),(32,Zi ((p.length:Nat):Int)),(33,Zi (k:Int)),(49,Zi (b.full+1)),(50,Zi (a:Int))]∧Mem w noEx wc [(g4,.cells [.int .u64 x4.a,.int .u64 x4.b,.int .u64 x4.c,.int .u64 x4.d]),(g3,.cells [Zi q.sec,Zi q.lo,Zi q.hi,.bool q.rest]),(g2,.cells [.int .u64 s8.a,.int .u64 s8.b,.int .u64 s8.c,.int .u64 s8.d]),(g1,.cells [Zi b.full,Zi b.a0,Zi b.a1,.slice A b.cs.length c,.slice D b.ts.length d,.slice P p.length pc,Zi s])]) ?_ ?_
   ·exact ⟨_,0,x,Z,(by omega),(by rw [show q.lo+((0:Nat):Int)=q.lo by omega];exact hX.start),T.pick [2,3,4,5,6,7,8,1,0,9,10,11,12,13] Z,M.mask [true,true,true,true] Z⟩
   clear T M
   rintro mz ac wc ⟨dn,x4,hmm4,hd4,hX4,T,M⟩
   refine wp_seq ?_
   refine cut_seq (fun ac wc=>Tm ac 92 [(1,.slice G g.length n),(2,Zj g1),(5,Zj g2),(8,Zj g3),(9,.func (.func FAu2) #[] [].toArray),(10,Zj g4),(11,.func (.func 148) #[.agg #[.int .u64 s8.a,.int .u64 s8.b,.int .u64 s8.c,.int .u64 s8.d]] #[]),(12,Zi (a:Int)),(13,Zi (q.lo+(dn:Int))),(31,.slice P p.length pc),(32,Zi ((p.length:Nat):Int)),(33,Zi (k:Int)),(49,Zi (b.full+1)),(50,Zi (a:Int)),(65,.bool ((s8.has (a:Int)) && (decide ((q.lo+(dn:Int))≤q.hi))))]∧Mem w noEx wc [(g4,.cells [.int .u64 x4.a,.int .u64 x4.b,.int .u64 x4.c,.int .u64 x4.d]),(g3,.cells [Zi q.sec,Zi q.lo,Zi q.hi,.bool q.rest]),(g2,.cells [.int .u64 s8.a,.int .u64 s8.b,.int .u64 s8.c,.int .u64 s8.d]),(g1,.cells [Zi b.full,Zi b.a0,Zi b.a1,.slice A b.cs.length c,.slice D b.ts.length d,.slice P p.length pc,Zi s])]) ?_ ?_
   ·refine wp_region_lit ?_
    refine Zg2 T (Zq (Zrm Z (T.e 6 Z))) Z (Zm 8 Z Z) Z ?_;intro ac T
    refine Zl2 ?_
    refine Zoc (first:=[.agg #[.int .u64 s8.a,.int .u64 s8.b,.int .u64 s8.c,.int .u64 s8.d]]) (cap:=[]) T Z Z Z Z (T.e 1 Z) (.cons (T.e 0 Z) .nil) Try.func148 Z Z ?_
    refine Calls.mono (has_any s8 (a:Int) _ (by omega) (by omega)) ?_
    clear T;rintro e wc ⟨rfl,hb⟩ ac T
    replace M:=M.call hb;clear hb
    refine lq T (Zrm Z (T.e 0 Z)) ?_;intro ac T
    rcases Zx9 (s8.has (a:Int)) with h4 | h4
    ·refine Zg6 (v2:=(.pointer (some ⟨g3,1,none⟩))) (v3:=(.pointer (some ⟨g3,2,none⟩))) T (Zw (Zwy Z Z (T.e 0 Z) h4) (Zrm Z (T.e 12 Z))) Z (fun _ T=>Zw (Zwy Z Z (T.e 1 Z) h4) (Zrg 1 Z (T.e 8 Z))) Z (fun _ T=>Zw (Zwy Z Z (T.e 2 Z) h4) (Zrg 1 Z (T.e 0 Z))) Z (fun _ T=>Zw (Zwy Z Z (T.e 3 Z) h4) (Zro (Mem.nth M 1 Z) Z (T.e 0 Z) Z)) Z (fun _ T=>Zw (Zwy Z Z (T.e 4 Z) h4) (rn_leq Z (T.e 3 Z) (T.e 0 Z))) Z (fun _ T=>Zq (Zr1 Z (T.e 5 Z) h4 (T.e 0 Z))) Z ?_;intro ac T
     refine wpList_nil ?_
     replace T:=T.pick [0,1,2,3,4,5,10,11,12,13,14,15,16,17,18,19,20,21,22,23] rfl
     exact ⟨(T.pick (E':=[(1,.slice G g.length n),(2,Zj g1),(5,Zj g2),(8,Zj g3),(9,.func (.func FAu2) #[] [].toArray),(10,Zj g4),(11,.func (.func 148) #[.agg #[.int .u64 s8.a,.int .u64 s8.b,.int .u64 s8.c,.int .u64 s8.d]] #[]),(12,Zi (a:Int)),(13,Zi (q.lo+(dn:Int))),(31,.slice P p.length pc),(32,Zi ((p.length:Nat):Int)),(33,Zi (k:Int)),(49,Zi (b.full+1)),(50,Zi (a:Int)),(65,.bool (decide ((q.lo+(dn:Int))≤q.hi)))]) [6,7,8,9,10,11,12,13,14,15,16,17,18,19,0] Z).as (by (try rw [show (s8.has (a:Int))=true from h4]);(try rfl)),M.mask [true,true,true,true] Z⟩
    refine Zg6 T (Zp (Zwn Z Z (T.e 0 Z) h4)) Z (fun _ T=>Zp (Zwn Z Z (T.e 1 Z) h4)) Z (fun _ T=>Zp (Zwn Z Z (T.e 2 Z) h4)) Z (fun _ T=>Zp (Zwn Z Z (T.e 3 Z) h4)) Z (fun _ T=>Zp (Zwn Z Z (T.e 4 Z) h4)) Z (fun _ T=>Zq (Zr0 Z (T.e 5 Z) h4 evc)) Z ?_;intro ac T
    refine wpList_nil ?_
    replace T:=T.pick [0,1,2,3,4,5,10,11,12,13,14,15,16,17,18,19,20,21,22,23] rfl
    exact ⟨(T.pick (E':=[(1,.slice G g.length n),(2,Zj g1),(5,Zj g2),(8,Zj g3),(9,.func (.func FAu2) #[] [].toArray),(10,Zj g4),(11,.func (.func 148) #[.agg #[.int .u64 s8.a,.int .u64 s8.b,.int .u64 s8.c,.int .u64 s8.d]] #[]),(12,Zi (a:Int)),(13,Zi (q.lo+(dn:Int))),(31,.slice P p.length pc),(32,Zi ((p.length:Nat):Int)),(33,Zi (k:Int)),(49,Zi (b.full+1)),(50,Zi (a:Int)),(65,.bool false)]) [6,7,8,9,10,11,12,13,14,15,16,17,18,19,0] Z).as (by (try rw [show (s8.has (a:Int))=false from h4]);(try rfl)),M.mask [true,true,true,true] Z⟩
   clear T M
   rintro ac wc ⟨T,M⟩
   refine wp_cond_split (T.e 14 Z) ?_ ?_
   ·intro h5
    (have h5':=h5;try simp only [Zb1,Zb2,Zb3,Zb4,Zb5,Zb6,Zb7] at h5')
    have hSa:S (a:Int)=true:=by rw [← hR.eq (a:Int) (by omega) (by omega)];simp_all
    have hm1:=secM (s:=q.sec) (q:=q.lo+(dn:Int)+s) (by omega) (by omega)
    have haf : -1000≤aft wy (a:Int) (q.sec * (q.lo+(dn:Int)+s))∧aft wy (a:Int) (q.sec * (q.lo+(dn:Int)+s))≤1000:=by unfold aft;split <;> omega
    refine Zsk ?_
    refine wp_seq ?_
    refine wp_block ?_
    refine Zsr ?_
    refine Zg8 (v3:=(Zj g3)) (v6:=(.pointer (some ⟨g1,6,none⟩))) T (Zq (Zrm Z (T.e 4 Z))) Z (Zm 8 Z Z) Z (Zf 0 5 Z Z) Z (Zo M 1 0 Z Z Z Z) Z (Zm 12 Z Z) Z (Zf 6 6 Z Z) Z (Zo M 3 0 Z Z Z Z) Z (fun _ T=>Zq (rn_add Z (T.e 2 Z) (T.e 0 Z) (by omega))) Z ?_;intro ac T
    refine lq T (rn_mul Z (T.e 4 Z) (T.e 0 Z) (by omega)) ?_;intro ac T
    refine Zl2 ?_
    refine Zod T Z Z Z Z (T.e 8 Z) (.cons (T.e 7 Z) (.cons (T.e 0 Z) .nil)) ha1u2 ha2u2 ha3u2 ?_
    refine Calls.mono (ha4u2 (a:Int) (q.sec * ((q.lo+(dn:Int))+s)) _ (by omega)) ?_
    clear T;rintro e wc ⟨rfl,hb⟩ ac T
    replace M:=M.call hb;clear hb
    refine lq T (Zra Z (T.e 0 Z)) ?_;intro ac T
    replace T:=T.pick [0,11,12,13,14,15,16,17,18,19,20,21,22,23,24] rfl
    refine Zln ?_
    refine Zsr ?_
    refine Zg4 (v2:=(Zj g1)) (v3:=(Zj g1)) T (Zq (Zrm Z (T.e 0 Z))) Z (Zf 0 3 Z Z) Z (Zf 0 0 Z Z) Z (Zo M 3 0 Z Z Z Z) Z ?_;intro ac T
    refine Zl2 ?_
    refine Zod T Z Z Z Z evf (.cons (T.e 3 Z) (.cons evc (.cons (T.e 0 Z) .nil))) Try.func76 Z Z ?_
    refine Calls.mono (bin_any (aft wy (a:Int) (q.sec * ((q.lo+(dn:Int))+s))) 0 b.full _) ?_
    clear T;rintro e wc ⟨rfl,hb⟩ ac T
    replace M:=M.call hb;clear hb
    replace T:=T.pick [0,5,6,7,8,9,10,11,12,13,14,15,16,17,18,19] rfl
    refine Zln ?_
    refine wp_cond_split (T.e 0 Z) ?_ ?_
    ·intro h6
     have hw6:=withinB_iff.1 (by simpa using h6)
     refine wp_region_lit ?_
     refine Zg2 T (Zq (Zrr (Mem.nth M 0 Z) Z (T.e 7 Z) Z)) Z (Zm 2 Z Z) Z ?_;intro ac T
     refine Zl2 ?_
     refine Zod T Z Z Z Z evf (.cons (T.e 1 Z) (.cons (T.e 0 Z) .nil)) Try.func147 Z Z ?_
     refine Calls.mono (with_any x4 (aft wy (a:Int) (q.sec * ((q.lo+(dn:Int))+s))) _ (by omega) (by omega)) ?_
     clear T;rintro e wc ⟨rfl,hb⟩ ac T
     replace M:=M.call hb;clear hb
     refine Zl2 ?_
     refine Zot M T Z Z (T.e 10 Z) (T.e 0 Z) Z .head Z Z ?_;clear M T;intro wc ac M T
     refine wpList_nil ?_
     replace T:=T.pick [5,6,7,8,9,10,11,12,13,14,15,16,17,18] rfl
     refine Znb ?_
     refine nm_then ?_
     refine wp_region_lit ?_
     refine Zg2 T (Zq (Zrm Z (T.e 8 Z))) Z (fun _ T=>Zq (rn_add Z (T.e 0 Z) evc (by omega))) Z ?_;intro ac T
     refine l_q (v:=(Zi ((q.lo+(dn:Int))+1))) (T.pick [0,1,2,3,4,5,6,7,8,9,11,12,13,14,15] Z) Z Z Z Z (Zra Z (T.e 0 Z)) ?_;intro ac T
     replace T:=T.pick [0,3,4,5,6,7,8,9,10,11,12,13,14,15] rfl
     refine Zln ?_
     rw [show q.lo+(dn:Int)+1=q.lo+((dn+1:Nat):Int) by omega] at T
     exact ⟨_,by omega,dn+1,(x4.add (aft wy (a:Int) (q.sec * ((q.lo+(dn:Int))+s)))),Z,(by omega),(by rw [show q.lo+((dn+1:Nat):Int)=q.lo+(dn:Int)+1 by omega];exact hX4.hit hSa (by omega) (by omega) hw6),T.pick [1,2,3,4,5,6,7,8,0,9,10,11,12,13] Z,M.mask [true,true,true,true] Z⟩
    intro h6
    refine wp_skip ?_
    refine Znb ?_
    refine nm_then ?_
    refine wp_region_lit ?_
    refine Zg2 T (Zq (Zrm Z (T.e 10 Z))) Z (fun _ T=>Zq (rn_add Z (T.e 0 Z) evc (by omega))) Z ?_;intro ac T
    refine l_q (v:=(Zi ((q.lo+(dn:Int))+1))) (T.pick [0,1,2,3,4,5,6,7,8,9,10,11,13,14,15,16,17] Z) Z Z Z Z (Zra Z (T.e 0 Z)) ?_;intro ac T
    replace T:=T.pick [0,5,6,7,8,9,10,11,12,13,14,15,16,17] rfl
    refine Zln ?_
    rw [show q.lo+(dn:Int)+1=q.lo+((dn+1:Nat):Int) by omega] at T
    exact ⟨_,by omega,dn+1,x4,Z,(by omega),(by rw [show q.lo+((dn+1:Nat):Int)=q.lo+(dn:Int)+1 by omega];exact hX4.miss (fun h9=>by have:=withinB_iff.2 h9;simp_all)),T.pick [1,2,3,4,5,6,7,8,0,9,10,11,12,13] Z,M.mask [true,true,true,true] Z⟩
   intro h5
   (have h5':=h5;try simp only [Zb1,Zb2,Zb3,Zb4,Zb5,Zb6,Zb7] at h5')
   refine wp_exit ?_
   refine Zet ?_
   refine Zet ?_
   refine ex_hit ?_
   refine Znb ?_
   refine nm_then ?_
   refine wp_region_lit ?_
   refine lq T (rn_add Z (T.e 13 Z) evc (by omega)) ?_;intro ac T
   refine l_q (v:=(Zi ((a:Int)+1))) (T.pick [0,1,2,3,4,5,6,7,8,9,10,11,12,13,15] Z) Z Z Z Z (Zrm Z (T.e 0 Z)) ?_;intro ac T
   replace T:=T.pick [0,2,3,4,5,6,7,8,11,12,13,14] rfl
   refine Zln ?_
   have hX9:Rep4 x4 b.full (Src wy s q S ((a:Int)+1)):=by
     rcases Zx9 (S (a:Int)) with hs9 | hs9
     · have h8:=hR.eq (a:Int) (by omega) (by omega);rw [hs9] at h8;have h7 : ¬ (q.lo+(dn:Int)≤q.hi):=(by simp_all);exact hX4.stop_all (by omega) (by omega)
     · exact hX4.stop_no hs9
   rw [show (a:Int)+1=((a+1:Nat):Int) by omega] at T hX9
   exact ⟨_,by omega,a+1,x4,Z,(by omega),hX9,T.pick [1,2,3,4,5,6,7,8,9,10,11,0] Z,M.mask [true,true,true,true] Z⟩
  intro h3
  have ha9:(a:Int)=b.full+1:=by omega
  have hR2:=(show Rep4 x b.full (Src wy s q S (b.full+1)) by rw [← ha9];exact hX).done
  refine wp_exit ?_
  refine Zet ?_
  refine Zet ?_
  refine ex_hit ?_
  refine nm_then ?_
  refine Zsr ?_
  refine lq T (Zrr (Mem.nth M 0 Z) Z (T.e 6 Z) Z) ?_;intro ac T
  refine Zl2 ?_
  refine Zot M T Z Z (T.e 4 Z) (T.e 0 Z) Z (.tail (.tail .head)) Z Z ?_;clear M T;intro wc ac M T
  refine wpList_nil ?_
  replace T:=T.pick [2,3,4,9,10,11] rfl
  replace M:=M.mask [false,false,true,true] rfl
  refine nm_then ?_
  refine Zsr ?_
  refine Zg3 (v2:=(.agg #[.int .u64 0,.int .u64 0,.int .u64 0,.int .u64 0])) (v3:=(.bool ((decide (x.a=0)) && ((decide (x.b=0)) && ((decide (x.c=0)) && (decide (x.d=0))))))) T (Zq (Zrr (Mem.nth M 0 Z) Z (T.e 2 Z) Z)) Z (fun _ T=>Zq (rn_build Z .nil (fun _=>by kernel_rfl))) Z (fun _ T=>Zq (rn_bin Z (T.e 1 Z) (T.e 0 Z) eqT156)) Z ?_;intro ac T
  replace T:=T.pick [0,3,4,5,6,7,8] rfl
  refine Zln ?_
  refine wp_cond_split (T.e 0 Z) ?_ ?_
  ·intro h7
   (have h7':=h7;try simp only [Zb1,Zb2,Zb3,Zb4,Zb5,Zb6,Zb7] at h7')
   refine Zsr ?_
   refine lq T (Zra Z evc) ?_;intro ac T
   refine wpList_nil ?_
   replace T:=T.pick [0] rfl
   replace M:=M.mask [false,false] rfl
   refine Znr ?_
   refine Zrb ?_
   refine Zrt ?_
   refine Zrt ?_
   refine Zrb ?_
   refine Zrt ?_
   refine rt_1 T Z (T.e 0 Z) ?_
   rw [hR2.none (by omega) (by simp_all) (by simp_all) (by simp_all) (by simp_all),Bool.false_and] at H
   exact ⟨ret_bool H.symm,M.below⟩
  intro h7
  (have h7':=h7;try simp only [Zb1,Zb2,Zb3,Zb4,Zb5,Zb6,Zb7] at h7')
  refine wp_skip ?_
  refine Znb ?_
  refine nm_then ?_
  refine wp_region_lit ?_
  refine lq T (rn_add Z (T.e 6 Z) evc (by omega)) ?_;intro ac T
  refine l_q (v:=(Zi ((k:Int)+1))) (T.pick [0,1,2,3,4,5,6] Z) Z Z Z Z (Zrm Z (T.e 0 Z)) ?_;intro ac T
  replace T:=T.pick [0,3,4,5,6,7] rfl
  refine Zln ?_
  rw [hR2.some (fun h9=>by simp_all),Bool.true_and] at H
  exact ⟨_,by omega,k+1,x,(nxB b.full wy s q S),Z,(by omega),hR2,H,T.pick [1,2,3,4,5,0] Z,M.mask [true,true] Z⟩
 intro h2
 rw [List.drop_of_length_le (l:=p) (by omega),canF_nil] at H
 refine wp_exit ?_
 refine Zet ?_
 refine Zet ?_
 refine ex_hit ?_
 refine nm_then ?_
 refine Zsr ?_
 refine lq T (Zra Z evc) ?_;intro ac T
 refine wpList_nil ?_
 replace T:=T.pick [0] rfl
 replace M:=M.mask [false,false] rfl
 refine Znr ?_
 refine rt_1 T Z (T.e 0 Z) ?_
 exact ⟨ret_bool H.symm,M.below⟩
theorem maybe1_any (b:Bw) (A:Option Addr) (c:Nat) (D:Option Addr) (d:Nat) (p:List Nt) (P:Option Addr) (pc:Nat) (s:Int) (G:Option Addr) (n:Nat) (g:List Int) (gw:Nat)  (w:World) (hP9:Rd w w.heap.size 4 P p.length (ntc p)) (hG:Rd w w.heap.size 1 G g.length (ic g)) (hgp:NtGood p) (hgb:BwAir b) (hs:0≤s∧s≤20) (hgl:g.length=p.length) (q1:Bk w gw #[.slice G g.length n])  :
  Calls Try.prog 136 #[.agg #[Zi b.full,Zi b.a0,Zi b.a1,.slice A b.cs.length c,.slice D b.ts.length d,.slice P p.length pc,Zi s],Zj gw] w fun e w'=>e=.returned (.bool (canB b p g s))∧Below w.heap.size w w':=by
 obtain ⟨bP,oP,SP⟩:=Sp.old hP9
 obtain ⟨bG,oG,SG⟩:=Sp.old hG
 refine Zpx noEx Try.func136 Z 7 Z [.agg #[Zi b.full,Zi b.a0,Zi b.a1,.slice A b.cs.length c,.slice D b.ts.length d,.slice P p.length pc,Zi s],Zj gw] Z Z (Mem.init w _) ?_
 intro ac wc T M
 refine Zsr ?_
 refine Zl2 ?_
 refine Zob M T Z Z Z Z (T.e 0 Z) Z ?_;clear M T;intro g1 wc ac M T
 refine lq T (Zra Z evc) ?_;intro ac T
 replace T:=T.pick [1,3] rfl
 refine Zln ?_
 refine Zsr ?_
 refine Zg2 T (Zq (Zrr (Mem.nth M 0 Z) Z (T.e 0 Z) Z)) Z (fun _ T=>Zq (Zro (Mem.old M q1 (fun h=>h)) Z (T.e 2 Z) Z)) Z ?_;intro ac T
 refine Zl2 ?_
 refine Zod T Z Z Z Z evf (.cons (T.e 1 Z) (.cons (T.e 0 Z) .nil)) Try.func137 Z Z ?_
 refine Calls.mono (can_any b A c D d p P pc s G n g _ (SP.rd M (Zz9 _)) (SG.rd M (Zz9 _)) hgp hgb (by omega) hgl) ?_
 clear T;rintro e wc ⟨rfl,hb⟩ ac T
 replace M:=M.call hb;clear hb
 refine lq T (Zra Z (T.e 0 Z)) ?_;intro ac T
 refine wpList_nil ?_
 replace T:=T.pick [0] rfl
 replace M:=M.mask [false] rfl
 refine Znr ?_
 refine rt_1 T Z (T.e 0 Z) ?_
 exact ⟨rfl,M.below⟩
theorem hop_any {b:Bw} {A:Option Addr} {c:Nat} {D:Option Addr} {d:Nat} {P:Option Addr} {pc:Nat} {p:List Nt} {g:List Int} (ss:List Int):((ss.map (mkP b A c D d P pc p)).any fun x=>canB x.b x.l g x.s)=hopB b p ss g:=by
 unfold hopB
 rw [List.any_map]
 rfl
theorem maybe_any (b:Bw) (A:Option Addr) (c:Nat) (D:Option Addr) (d:Nat) (p:List Nt) (P:Option Addr) (pc:Nat) (ss:List Int) (B:Option Addr) (lc:Nat) (G:Option Addr) (n:Nat) (g:List Int)  (w:World) (hP9:Rd w w.heap.size 4 P p.length (ntc p)) (hG:Rd w w.heap.size 1 G g.length (ic g)) (hL:Rd w w.heap.size 7 B ss.length (pdc (ss.map (mkP b A c D d P pc p)))) (nL:ss.length≤1000000) (hgp:NtGood p) (hgb:BwAir b) (hss:∀ s∈ss,0≤s∧s≤20) (hgl:g.length=p.length)  :
  Calls Try.prog 96 #[.slice B ss.length lc,.slice G g.length n] w fun e w'=>e=.returned (.bool (hopB b p ss g))∧Below w.heap.size w w':=by
 obtain ⟨bP,oP,SP⟩:=Sp.old hP9
 obtain ⟨bG,oG,SG⟩:=Sp.old hG
 obtain ⟨bL,oL,SL⟩:=Sp.old hL
 refine Zpx noEx Try.func96 Z 8 Z [.slice B ss.length lc,.slice G g.length n] Z Z (Mem.init w _) ?_
 intro ac wc T M
 refine Zsr ?_
 refine Zl2 ?_
 refine Zob M T Z Z Z Z (T.e 1 Z) Z ?_;clear M T;intro g1 wc ac M T
 refine lq T (Zra Z evc) ?_;intro ac T
 replace T:=T.pick [1,2] rfl
 refine Zln ?_
 refine Zsr ?_
 refine Zg2 (v2:=(.func (.func 136) #[] #[Zj g1])) T (Zq (Zrm Z (T.e 1 Z))) Z (fun _ T=>Zq (rn_makeFunc Z .nil (.cons (T.e 1 Z) .nil))) Z ?_;intro ac T
 refine Zl2 ?_
 obtain ⟨l9,hl9⟩:∃ q,q=ss.map (mkP b A c D d P pc p):=⟨_,rfl⟩
 have hL9:=SL.rd M (Zz9 _)
 rw [← hl9,show ss.length=l9.length by rw [hl9,List.length_map]] at hL9
 rw [show ss.length=l9.length by rw [hl9,List.length_map]] at T
 have q9:=M.nth 0 rfl
 have hP8:=SP.rd M (Zz9 _)
 have hG8:=SG.rd M (Zz9 _)
 refine Zod T Z Z Z Z evf (.cons (T.e 1 Z) (.cons (T.e 0 Z) .nil)) Try.func128 Z Z ?_
 refine Calls.mono (containsF_any 136 _ [Zj g1] (fun x=>canB x.b x.l g x.s) l9 B lc _ hL9 (by rw [hl9,List.length_map];exact nL) Try.func136 rfl rfl (fun x hx w1 hb1=>by rw [hl9] at hx;obtain ⟨s,hs9,rfl⟩:=List.mem_map.1 hx;exact maybe1_any b A c D d p P pc s G n g g1 w1 ((hP8.below hb1).more hb1.size) ((hG8.below hb1).more hb1.size) hgp hgb (hss s hs9) hgl (q9.below hb1))) ?_
 clear T;rintro e wc ⟨rfl,hb⟩ ac T
 replace M:=M.call hb;clear hb
 refine lq T (Zra Z (T.e 0 Z)) ?_;intro ac T
 refine wpList_nil ?_
 replace T:=T.pick [0] rfl
 replace M:=M.mask [false] rfl
 refine Znr ?_
 refine rt_1 T Z (T.e 0 Z) ?_
 refine ⟨ret_bool ?_,M.below⟩
 rw [hl9]
 exact hop_any ss
def plaV (b:Bw) (p:List Nt) (g:List Int):Int:=if lvlE b p g≠0 then 0 else if alwB b p (sums0 b) g then 1 else if hopB b p (sums0 b) g then 3 else 2
set_option maxHeartbeats 4000000 in
theorem Plays_any {J:Nat→Option Obj} (hP:FuncsOk Try.prog) (b:Bw) (A:Option Addr) (c:Nat) (D:Option Addr) (d:Nat) (p:List Nt) (P:Option Addr) (pc:Nat) (G:Option Addr) (n:Nat) (g:List Int)  (w:World) (hA:Rd w w.heap.size 2 A b.cs.length (rc b.cs)) (hD:Rd w w.heap.size 4 D b.ts.length (lkc b.ts)) (hop:∀ t∈b.ts,Rd w w.heap.size 1 t.A t.op.length (ic t.op)) (nA:b.cs.length≤1000) (nD:b.ts.length≤1000) (nop:∀ t∈b.ts,t.op.length≤1000) (hP9:Rd w w.heap.size 4 P p.length (ntc p)) (nP:p.length≤1000) (hG:Rd w w.heap.size 1 G g.length (ic g)) (nG:g.length≤1000)  :
   CallsB Try.prog J 38 #[.agg #[Zi b.full,Zi b.a0,Zi b.a1,.slice A b.cs.length c,.slice D b.ts.length d],.slice P p.length pc,.slice G g.length n] w fun e w'=>e=.returned (.tuple #[Zi (plaV b p g),Zi (lvlE b p g)])∧Below w.heap.size w w':=by
 obtain ⟨bA,oA,SA⟩:=Sp.old hA
 obtain ⟨bD,oD,SD⟩:=Sp.old hD
 obtain ⟨bP,oP,SP⟩:=Sp.old hP9
 obtain ⟨bG,oG,SG⟩:=Sp.old hG
 refine px_enterB hP noEx Try.func38 Z 37 Z [.agg #[Zi b.full,Zi b.a0,Zi b.a1,.slice A b.cs.length c,.slice D b.ts.length d],.slice P p.length pc,.slice G g.length n] Z Z (Mem.init w _) ?_
 intro ac wc T M
 refine wpB_seq hP ?_
 refine b_lone hP w fun T9=>?_
 replace M:=M.tp T9 0 0
 replace SA:=SA.tp T9 0
 replace SD:=SD.tp T9 0
 replace SG:=SG.tp T9 0
 replace SP:=SP.tp T9 0
 refine wp_region_lit ?_
 refine Zl2 ?_
 refine Zob M T Z Z Z Z (T.e 0 Z) Z ?_;clear M T;intro g1 wc ac M T
 refine Zg2 T (Zq (Zra Z evc)) Z (Zc Z) Z ?_;intro ac T
 refine wpList_nil ?_
 refine nqR_n M ?_;clear M;intro wc M
 replace SA:=SA.pt
 replace SD:=SD.pt
 replace SG:=SG.pt
 replace SP:=SP.pt
 replace T:=T.pick [2,4,5] rfl
 refine nm_then ?_
 refine wpB_seq hP ?_
 refine gB_start2 hP M (M.mask [true] Z) 13 (by kernel_rfl) Z (by kernel_rfl) ?_
 clear M;intro wc M
 refine gB_q (T:=T) (i:=0) Z (by kernel_rfl) (by kernel_rfl:(Zpb 13 0).setIfInBounds 0 true=Zpb 13 1) (fun _=>si_U) Z Z Z Z (fun T9 B w' hD hl hS=>(Zrr (Mem.nth (show Mem (Bq.tp w T9 0) noEx w' _ from hS) 0 Z) Z (T.e 0 Z) Z)) ?_;intro ac T
 refine gB_q (T:=T) (i:=1) Z (by kernel_rfl) (by kernel_rfl:(Zpb 13 1).setIfInBounds 1 true=Zpb 13 3) (fun _=>si_U) Z Z Z Z (fun _ _ _ _ _ _=>(Zrm Z (T.e 2 Z))) ?_;intro ac T
 refine gB_q (T:=T) (i:=3) Z (by kernel_rfl) (by kernel_rfl:(Zpb 13 3).setIfInBounds 3 true=Zpb 13 11) (fun _=>si_U) Z Z Z Z (fun _ _ _ _ _ _=>(Zrm Z (T.e 3 Z))) ?_;intro ac T
 refine gB_q (T:=T) (i:=4) Z (by kernel_rfl) (by kernel_rfl:(Zpb 13 11).setIfInBounds 4 true=Zpb 13 27) (fun _=>si_U) Z Z Z Z (fun _ _ _ _ _ _=>(Zrm Z (T.e 5 Z))) ?_;intro ac T
 refine gB_w (i:=2) (by kernel_rfl) Z (by kernel_rfl:(Zpb 13 27).setIfInBounds 2 true=Zpb 13 31) Z ?_;intro T9 K hK
 replace M:=M.tp T9 0 0
 replace SA:=SA.tp T9 0
 replace SD:=SD.tp T9 0
 replace SG:=SG.tp T9 0
 replace SP:=SP.tp T9 0
 refine Zod T Z Z Z Z evf (.cons (T.e 2 Z) .nil) Try.func40 Z Z ?_
 refine Calls.mono (piece_any p P pc _ (SP.rd M (Zz9 _)) (by omega)) ?_
 clear T;rintro e wc ⟨rfl,hb⟩ ac T
 replace M:=M.call hb;clear hb
 refine gB_out hK M ?_;clear hK K M;intro wc M
 replace SA:=SA.pt
 replace SD:=SD.pt
 replace SG:=SG.pt
 replace SP:=SP.pt
 refine ⟨(M.mask [true] Z),?_⟩
 refine gB_w (i:=5) (by kernel_rfl) Z (by kernel_rfl:(Zpb 13 31).setIfInBounds 5 true=Zpb 13 63) Z ?_;intro T9 K hK
 replace M:=M.tp T9 0 0
 replace SA:=SA.tp T9 0
 replace SD:=SD.tp T9 0
 replace SG:=SG.tp T9 0
 replace SP:=SP.tp T9 0
 refine Zod T Z Z Z Z evf (.cons (T.e 2 Z) (.cons (T.e 1 Z) .nil)) Try.func91 Z Z ?_
 refine Calls.mono (checkWays_any p P pc G n g _ (SP.rd M (Zz9 _)) (by omega) (SG.rd M (Zz9 _)) (by omega)) ?_
 clear T;rintro e wc ⟨rfl,hb⟩ ac T
 replace M:=M.call hb;clear hb
 refine gB_out hK M ?_;clear hK K M;intro wc M
 replace SA:=SA.pt
 replace SD:=SD.pt
 replace SG:=SG.pt
 replace SP:=SP.pt
 refine ⟨(M.mask [true] Z),?_⟩
 refine gB_w (i:=6) (by kernel_rfl) Z (by kernel_rfl:(Zpb 13 63).setIfInBounds 6 true=Zpb 13 127) Z ?_;intro T9 K hK
 replace M:=M.tp T9 0 0
 replace SA:=SA.tp T9 0
 replace SD:=SD.tp T9 0
 replace SG:=SG.tp T9 0
 replace SP:=SP.tp T9 0
 refine ow_bs (e:=39) [Zi (pieceE p),Zi (waysE p g)] M T Z Z Z Z (.cons (T.e 1 Z) (.cons (T.e 0 Z) .nil)) (fun _=>by kernel_rfl) ?_;clear M T;intro g2 wc ac M T
 refine gB_out hK M ?_;clear hK K M;intro wc M
 replace SA:=SA.pt
 replace SD:=SD.pt
 replace SG:=SG.pt
 replace SP:=SP.pt
 refine ⟨(M.mask [false,true] Z),?_⟩
 refine gB_one (i:=7) (by kernel_rfl) (by kernel_rfl:(Zpb 13 127).setIfInBounds 7 true=Zpb 13 255) (opB_call (first:=[]) (cap:=[]) T Z Z Z Z Z evf (.cons (T.e 6 Z) (.cons (T.e 0 Z) .nil)) Try.func77 Z Z (known_any hP b A c D d (some ⟨g2,0,none⟩) 2 [(pieceE p),(waysE p g)] _ (SA.rd M (Zz9 _)) (SD.rd M (Zz9 _)) (fun t ht=>M.rd (hop t ht) (Nat.le_refl _)) nA nD nop (M.rdOwn (Zne (i:=0) Z) Z Z) (by first | omega | simp)) ?_ Z)
 clear T
 rintro e wc ⟨Akur1_7,ckur1_7,Ikur1_7,rfl,hckur1_7,N⟩
 refine ⟨_,Z,?_⟩
 intro ac T
 obtain ⟨lkur1_7,hlkur1_7⟩:∃ q,q=knownL b [(pieceE p),(waysE p g)]:=⟨_,rfl⟩
 obtain ⟨ekur1_7,hekur1_7⟩:∃ q,q=knownE b [(pieceE p),(waysE p g)]:=⟨_,rfl⟩
 rw [← hlkur1_7] at hckur1_7 T
 rw [← hekur1_7] at T
 obtain ⟨bkur1_7,okur1_7,hSkur1_7⟩:=hckur1_7.spV (l4c_length _)
 have SLkur1_7:=hSkur1_7 w noEx
 clear hSkur1_7
 replace M:=(M.join N).swapI
 clear N
 replace M:Mem w noEx wc ((g2,.cells [Zi (pieceE p),Zi (waysE p g)])::(g1,.cells [Zi b.full,Zi b.a0,Zi b.a1,.slice A b.cs.length c,.slice D b.ts.length d])::Ikur1_7):=M
 refine ⟨(M.perm [1] Z Z),?_⟩
 refine gB_q (T:=T) (i:=8) Z (by kernel_rfl) (by kernel_rfl:(Zpb 13 255).setIfInBounds 8 true=Zpb 13 511) (fun _=>si_U) Z Z Z Z (fun _ _ _ _ _ _=>(Zrm Z (T.e 0 Z))) ?_;intro ac T
 refine gB_q (T:=T) (i:=9) Z (by kernel_rfl) (by kernel_rfl:(Zpb 13 511).setIfInBounds 9 true=Zpb 13 1023) (fun _=>si_U) Z Z Z Z (fun _ _ _ _ _ _=>(Zre Z (T.e 0 Z) Z)) ?_;intro ac T
 refine gB_q (T:=T) (i:=10) Z (by kernel_rfl) (by kernel_rfl:(Zpb 13 1023).setIfInBounds 10 true=Zpb 13 2047) (fun _=>si_U) Z Z Z Z (fun _ _ _ _ _ _=>(Zre Z (T.e 1 Z) Z)) ?_;intro ac T
 refine gB_q (T:=T) (i:=11) Z (by kernel_rfl) (by kernel_rfl:(Zpb 13 2047).setIfInBounds 11 true=Zpb 13 4095) (fun _=>si_U) Z Z Z Z (fun _ _ _ _ _ _=>(Zra Z (T.e 1 Z))) ?_;intro ac T
 refine gB_q (T:=T) (i:=12) Z (by kernel_rfl) (by kernel_rfl:(Zpb 13 4095).setIfInBounds 12 true=Zpb 13 8191) (fun _=>si_U) Z Z Z Z (fun _ _ _ _ _ _=>(Zra Z (T.e 1 Z))) ?_;intro ac T
 refine gB_done (by kernel_rfl) M ?_;clear M;intro wc M
 replace T:=T.pick [0,1,13,14,15] rfl
 replace M:=M.mask [false,true] rfl
 refine nm_then ?_
 refine b_lone hP w fun T9=>?_
 replace M:=M.tp T9 0 0
 replace SA:=SA.tp T9 0
 replace SD:=SD.tp T9 0
 replace SG:=SG.tp T9 0
 replace SLkur1_7:=SLkur1_7.tp T9 0
 replace SP:=SP.tp T9 0
 generalize hw9:Bq.tp w T9 0=w at M SA SD SG SLkur1_7 SP
 generalize Bq.tp wc T9 0=wc at M ⊢
 refine wp_seq ?_
 refine Zsr ?_
 refine Zg2 T (Zq (Zrm Z (T.e 0 Z))) Z (fun _ T=>Zq (rn_neq Z (T.e 0 Z) evc)) Z ?_;intro ac T
 replace T:=T.pick [0,2,3,4,5,6] rfl
 refine Zln ?_
 refine wp_ifn (T.e 0 Z) ?_ ?_
 ·intro h1
  refine Zsr ?_
  refine Zg3 T (Zq (Zrm Z (T.e 1 Z))) Z (Zc Z) Z (Za 1 Z Z) Z ?_;intro ac T
  refine wpList_nil ?_
  replace T:=T.pick [0,1] rfl
  replace M:=M.mask [false] rfl
  refine Znr ?_
  refine Zrt ?_
  subst hw9
  refine nqR_r M ?_;clear M;intro wc M
  refine rt_2 T Z (T.e 1 Z) (T.e 0 Z) ?_
  have hke:lvlE b p g≠0:=by unfold lvlE;rw [← hekur1_7];omega
  have e9:plaV b p g=0∧lvlE b p g=ekur1_7:=⟨by unfold plaV;rw [if_pos hke],hekur1_7.symm⟩
  rw [e9.1,e9.2]
  exact ⟨rfl,M.below⟩
 intro h1
 have hke:knownE b [pieceE p,waysE p g]=0:=by rw [← hekur1_7];omega
 obtain ⟨hgood,hf9,hlt,hl4,hlp,hln⟩:=known_ok nop hke
 rw [← hlkur1_7] at hlt hl4 hlp hln
 obtain ⟨hpe,hwe9⟩:=first2 hf9
 have hgp:=pieceE_good hpe
 have hgb:=hgood.airs
 have h4:=hgood.n4
 have hgl:=waysE_len hwe9
 refine Zsk ?_
 refine Zsr ?_
 refine Zg3 T (Zq (Zrr (Mem.nth M 0 Z) Z (T.e 3 Z) Z)) Z (Zm 3 Z Z) Z (Zm 6 Z Z) Z ?_;intro ac T
 refine Zl2 ?_
 refine Zod T Z Z Z Z evf (.cons (T.e 2 Z) (.cons (T.e 1 Z) (.cons (T.e 0 Z) (.cons evc .nil)))) Try.func85 Z Z ?_
 refine Calls.mono (playedBy_any b A c D d lkur1_7 Akur1_7 ckur1_7 p P pc none 0 [] _ (SLkur1_7.rd M (.cons _ (List.Sublist.refl _))) (by omega) hl4 h4 (⟨by simp [ic],fun h=>absurd h (by simp)⟩) (by first | omega | simp)) ?_
 clear T;rintro e wc ⟨Apu3,cpu3,Ipu3,rfl,hclu3,N⟩ ac T
 obtain ⟨svu3,hsvu3⟩:∃ q,q=sumsB (cornL b.cs.length []) lkur1_7:=⟨_,rfl⟩
 rw [← hsvu3] at hclu3 T
 have hssvu3:∀ s∈svu3,0≤s∧s≤20:=by rw [hsvu3];exact sums_bd hl4 h4
 have hnsvu3:svu3.length≤lkur1_7.length:=by rw [hsvu3];exact sumsB_len _
 obtain ⟨bpu3,opu3,Spu3⟩:=hclu3.spV (by rw [pdc_length,List.length_map])
 replace Spu3:=Spu3 w noEx
 replace M:=(M.join N).swapI
 clear N
 replace M:Mem w noEx wc ((g1,.cells [Zi b.full,Zi b.a0,Zi b.a1,.slice A b.cs.length c,.slice D b.ts.length d])::(Ikur1_7++Ipu3)):=M
 refine lq T (Zra Z (T.e 0 Z)) ?_;intro ac T
 refine wpList_nil ?_
 replace T:=T.pick [0,10] rfl
 replace M:=M.mask [false] rfl
 refine Zns ?_
 refine wp_block ?_
 refine Zsr ?_
 refine Zg2 T (Zq (Zrm Z (T.e 0 Z))) Z (Zm 2 Z Z) Z ?_;intro ac T
 refine Zl2 ?_
 refine Zod T Z Z Z Z evf (.cons (T.e 1 Z) (.cons (T.e 0 Z) .nil)) Try.func87 Z Z ?_
 refine Calls.mono (always_any b A c D d p P pc svu3 Apu3 cpu3 G n g _ (SP.rd M (Zz9 _)) (SG.rd M (Zz9 _)) (Spu3.rd M (Zsq _ _)) (by omega) hgp hgb hssvu3 hgl) ?_
 clear T;rintro e wc ⟨rfl,hb⟩ ac T
 replace M:=M.call hb;clear hb
 refine lq T (Zra Z (T.e 0 Z)) ?_;intro ac T
 replace T:=T.pick [0,4,5] rfl
 refine Zln ?_
 refine wp_cond_split (T.e 0 Z) ?_ ?_
 ·intro h2
  refine Zsr ?_
  refine Zg2 T (Zq (Zra Z evc)) Z (Zc Z) Z ?_;intro ac T
  replace T:=T.pick [0,1] rfl
  refine Zln ?_
  refine wp_ret ?_
  refine Zrb ?_
  refine Zrt ?_
  subst hw9
  refine nqR_r M ?_;clear M;intro wc M
  refine rt_2 T Z (T.e 1 Z) (T.e 0 Z) ?_
  have e8:lvlE b p g=0:=hke
  have hss9:svu3=sums0 b:=by rw [hsvu3,hlt];rfl
  skip
  have e9:plaV b p g=1:=by unfold plaV;rw [if_neg (by omega),← hss9,if_pos h2]
  rw [e8,e9]
  exact ⟨rfl,M.below⟩
 intro h2
 refine Zsr ?_
 refine Zg2 T (Zq (Zrm Z (T.e 1 Z))) Z (Zm 3 Z Z) Z ?_;intro ac T
 refine Zl2 ?_
 refine Zod T Z Z Z Z evf (.cons (T.e 1 Z) (.cons (T.e 0 Z) .nil)) Try.func96 Z Z ?_
 refine Calls.mono (maybe_any b A c D d p P pc svu3 Apu3 cpu3 G n g _ (SP.rd M (Zz9 _)) (SG.rd M (Zz9 _)) (Spu3.rd M (Zsq _ _)) (by omega) hgp hgb hssvu3 hgl) ?_
 clear T;rintro e wc ⟨rfl,hb⟩ ac T
 replace M:=M.call hb;clear hb
 refine lq T (Zra Z (T.e 0 Z)) ?_;intro ac T
 replace T:=T.pick [0] rfl
 refine Zln ?_
 refine wp_cond_split (T.e 0 Z) ?_ ?_
 ·intro h3
  refine Zsr ?_
  refine Zg2 T (Zq (Zra Z evc)) Z (Zc Z) Z ?_;intro ac T
  replace T:=T.pick [0,1] rfl
  refine Zln ?_
  refine wp_ret ?_
  refine Zrb ?_
  refine Zrt ?_
  subst hw9
  refine nqR_r M ?_;clear M;intro wc M
  refine rt_2 T Z (T.e 1 Z) (T.e 0 Z) ?_
  have e8:lvlE b p g=0:=hke
  have hss9:svu3=sums0 b:=by rw [hsvu3,hlt];rfl
  skip
  have e9:plaV b p g=3:=by unfold plaV;rw [if_neg (by omega),← hss9,if_neg (by rw [h2];simp),if_pos h3]
  rw [e8,e9]
  exact ⟨rfl,M.below⟩
 intro h3
 refine wp_skip ?_
 refine Znb ?_
 refine nm_then ?_
 refine Zsr ?_
 refine Zg2 T (Zq (Zra Z evc)) Z (Zc Z) Z ?_;intro ac T
 replace T:=T.pick [0,1] rfl
 refine Zln ?_
 refine wp_ret ?_
 subst hw9
 refine nqR_r M ?_;clear M;intro wc M
 refine rt_2 T Z (T.e 1 Z) (T.e 0 Z) ?_
 have e8:lvlE b p g=0:=hke
 have hss9:svu3=sums0 b:=by rw [hsvu3,hlt];rfl
 skip
 have e9:plaV b p g=2:=by unfold plaV;rw [if_neg (by omega),← hss9,if_neg (by rw [h2];simp),if_neg (by rw [h3];simp)]
 rw [e8,e9]
 exact ⟨rfl,M.below⟩
end
def lastO (b:List Int):Option Int:=if b.length=0 then none else some (b.getD (b.length - 1) 0)
theorem wyE_steps {p:List Nt}:∀ (r b:List Int),stepsOk p b r→b.length+r.length=p.length→wyE (p.drop b.length) r (lastO b)=0
 | [],b,_,_=>by
  cases p.drop b.length <;> rfl
 | w::r,b,h,hl=>by
  simp only [Zx1] at hl
  have hb:b.length < p.length:=by omega
  rw [List.drop_eq_getElem_cons hb]
  unfold wyE
  have hw:withinB w 1 2=true:=withinB_iff.2 (by have:=h.1;omega)
  have ih:=wyE_steps r (b++[w]) h.2.2 (by rw [Zx3,List.length_singleton];omega)
  rw [Zx3,List.length_singleton,show lastO (b++[w])=some w by
   unfold lastO
   rw [Zx3,List.length_singleton,if_neg (by omega),List.getD_eq_getElem?_getD,show b.length+1 - 1=b.length by omega,List.getElem?_append_right (Nat.le_refl _),Nat.sub_self]
   rfl] at ih
  rw [hw,if_neg (by simp),if_neg]
  ·exact ih
  ·rintro ⟨⟨h1,h2⟩,h3⟩
   have h4:=h.2.1
   unfold stepW at h4
   rw [List.getD_eq_getElem?_getD,List.getElem?_eq_getElem hb] at h4
   unfold lastO at h1 h2
   by_cases h5:b.length=0
   ·rw [if_pos h5] at h1;cases h1
   ·rw [if_neg h5] at h2
    have h6:(p[b.length]).rest=true∨w=b.getD (b.length - 1) 0:=by simpa [h5] using h4
    rcases h6 with h6 | h6
    ·rw [h6] at h3;cases h3
    ·exact h2 (by rw [h6])
theorem WayOk.err {p:List Nt} {g:List Int} (h:WayOk p g):waysE p g=0:=by
 unfold waysE
 rw [if_neg (by have:=h.len;omega),if_neg (by have:=h.len;omega)]
 have:=wyE_steps g [] h.ok (by simpa using h.len)
 simpa [lastO] using this
theorem WayOk.take {p:List Nt} {g:List Int} (h:WayOk p g) (i:Nat):WayOk (p.take i) (g.take i) :=
 ⟨by rw [List.length_take,List.length_take,h.len],by simpa using stepsOk_take (i:=i) g [] h.ok⟩
theorem BwTrue.lvl {b:Bw} {gl:List Int} {air:Int} {p:List Nt} {g:List Int} (hb:BwTrue b gl air) (h4:gl.length≤4) (h3:b.ts.length≤3) (hp:NtGood p) (hw:WayOk p g):lvlE b p g=0 :=
 hb.known h4 h3 fun e he=>by
  rcases Zx7.1 he with rfl | he
  ·exact pieceE_of hp
  ·rw [List.mem_singleton.1 he];exact hw.err
theorem sums_pos {b:Bw} {el:List Int} (h:knownE b el=0):sums0 b≠[]:=by
 unfold knownE at h
 split at h
 ·rename_i h1;exact absurd h h1
 ·split at h
  ·rename_i h2;exact absurd h h2
  ·split at h
   ·cases h
   ·rename_i h3
    intro h4
    have h5:0 < (truthsL b).length:=by unfold truthsL;rw [List.length_map];omega
    obtain ⟨x,hx⟩:=List.exists_mem_of_length_pos h5
    have h6:totL x.l (cornL b.cs.length [])∈sums0 b:=sumsB_mem.2 ⟨x,hx,rfl⟩
    rw [h4] at h6
    cases h6
theorem levF_len {f:Int→List (Int×Int)} {n:Nat} (hf:∀ s,(f s).length=n):∀ {ss:List Int},ss≠[]→(levF f ss).length=n
 | [],h=>absurd rfl h
 | s::r,_=>by
  unfold levF
  have key:∀ (r:List Int) (acc:List (Int×Int)),acc.length=n→(r.foldl (fun acc t=>List.zipWith mm2 acc (f t)) acc).length=n:=fun r=>by
   induction r with
   | nil=>intro acc h;exact h
   | cons t r ih =>
    intro acc h
    rw [List.foldl_cons]
    exact ih _ (by rw [List.length_zipWith,h,hf,Nat.min_self])
  exact key r _ (hf s)
theorem levF_take {f:Int→List (Int×Int)} (i:Nat):∀ (ss:List Int),levF (fun s=>(f s).take i) ss=(levF f ss).take i
 | []=>by unfold levF;rw [List.take_nil]
 | s::r=>by
  unfold levF
  have key:∀ (r:List Int) (acc:List (Int×Int)),r.foldl (fun acc t=>List.zipWith mm2 acc ((f t).take i)) (acc.take i)=(r.foldl (fun acc t=>List.zipWith mm2 acc (f t)) acc).take i:=fun r=>by
   induction r with
   | nil=>intro acc;rfl
   | cons t r ih =>
    intro acc
    rw [List.foldl_cons,List.foldl_cons,← ih,List.take_zipWith]
  exact key r (f s)
theorem lvlL_of {b:Bw} {p:List Nt} {g:List Int} (h:lvlE b p g=0):lvlL b p g=levF (fun s=>levs s (b.a0,b.a1) p g) (sums0 b):=by
 unfold lvlL
 rw [if_neg (by omega)]
theorem lvlL_len {b:Bw} {p:List Nt} {g:List Int} (h:lvlE b p g=0) (hw:g.length=p.length):(lvlL b p g).length=p.length:=by
 rw [lvlL_of h]
 exact levF_len (fun s=>levs_len2 _ _ _ _ hw) (sums_pos h)
theorem canF_take {full s:Int}:∀ (i:Nat) (S:Int→Bool) (p:List Nt) (g:List Int),canF full s S p g=true→canF full s S (p.take i) (g.take i)=true
 | 0,S,p,g,_=>by rw [List.take_zero,canF_nil]
 | i+1,S,[],g,_=>by rw [List.take_nil,canF_nil]
 | i+1,S,q::p,[],_=>by rw [List.take_nil];unfold canF;rfl
 | i+1,S,q::p,w::g,h=>by
  rw [Zy2,Zy2]
  unfold canF at h ⊢
  rw [Bool.and_eq_true] at h ⊢
  exact ⟨h.1,canF_take i _ p g h.2⟩
theorem plaV_of {b:Bw} {p:List Nt} {g:List Int} (h:lvlE b p g=0):plaV b p g=if alwB b p (sums0 b) g then 1 else if hopB b p (sums0 b) g then 3 else 2:=by
 unfold plaV
 rw [if_neg (by omega)]
theorem split_law {b:Bw} {gl:List Int} {air:Int} {p:List Nt} {g:List Int} (hb:BwTrue b gl air) (h4:gl.length≤4) (h3:b.ts.length≤3) (hp:NtGood p) (hw:WayOk p g) (i:Nat) :
  lvlE b p g=0∧lvlE b (p.take i) (g.take i)=0∧(lvlL b p g).length=p.length∧lvlL b (p.take i) (g.take i)=(lvlL b p g).take i∧(plaV b (p.take i) (g.take i)=2→plaV b p g=2)∧(plaV b p g=1→plaV b (p.take i) (g.take i)=1):=by
 have e1:=hb.lvl h4 h3 hp hw
 have e2:=hb.lvl h4 h3 (hp.take i) (hw.take i)
 have ha:alwB b p (sums0 b) g=true→alwB b (p.take i) (sums0 b) (g.take i)=true:=fun h=>by
  unfold alwB at h ⊢
  rw [List.all_eq_true] at h ⊢
  exact fun s hs=>mustB_take i (h s hs)
 have hh:hopB b p (sums0 b) g=true→hopB b (p.take i) (sums0 b) (g.take i)=true:=fun h=>by
  unfold hopB at h ⊢
  rw [List.any_eq_true] at h ⊢
  obtain ⟨s,hs,h⟩:=h
  exact ⟨s,hs,canF_take i _ p g h⟩
 refine ⟨e1,e2,lvlL_len e1 hw.len,?_,?_,?_⟩
 ·rw [lvlL_of e1,lvlL_of e2,← levF_take]
  congr 1
  funext s
  exact levs_take s i _ p g
 ·rw [plaV_of e1,plaV_of e2]
  intro h
  split at h
  ·cases h
  ·rename_i h1
   split at h
   ·cases h
   ·rename_i h2
    rw [if_neg (fun h9=>h1 (ha h9)),if_neg (fun h9=>h2 (hh h9))]
 ·rw [plaV_of e1,plaV_of e2]
  intro h
  split at h
  ·rename_i h1;rw [if_pos (ha h1)]
  ·split at h <;> cases h
section
open Go.RowKit Go.Proofs.Ytoheddpnnjldgaa.Bq
set_option maxHeartbeats 4000000 in
theorem BellowSplit_any {J:Nat→Option Obj} (hP:FuncsOk Try.prog) (D:Option Addr) (n d:Nat) (l:List Int) (w:World) (hl:Rd w w.heap.size 1 D n (ic l)) (hm:n≤9223372036854775807) :
   TopB Try.prog J 10 Try.f10 #[.slice D n d] w fun e w'=>e=.returned (.bool true)∧Below w.heap.size w w':=by
 have hll:=hl.len1
 obtain ⟨bI,oI,SI⟩:=Sp.old hl
 refine px_enterT hP noEx Try.func10 Z 120 Z [.slice D n d] Z Z (Mem.init w _) ?_ (fun _ _ h=>⟨_,h.1⟩)
 intro ac wc T M
 refine wpB_seq hP ?_
 refine b_lone hP w fun T9=>?_
 replace M:=M.tp T9 0 0
 replace SI:=SI.tp T9 0
 refine wp_region_lit ?_
 refine lq T (Zra Z evc) ?_;intro ac T
 refine wpList_nil ?_
 refine nqR_n M ?_;clear M;intro wc M
 replace SI:=SI.pt
 replace T:=T.pick [1] rfl
 refine nm_then ?_
 refine wpB_seq hP ?_
 refine b_lone hP w fun T9=>?_
 replace M:=M.tp T9 0 0
 replace SI:=SI.tp T9 0
 refine wp_region_lit ?_
 refine lq T (Zrm Z (T.e 0 Z)) ?_;intro ac T
 refine Zl2 ?_
 refine Zod T Z Z Z Z evf (.cons (T.e 0 Z) .nil) Try.func17 Z Z ?_
 refine Calls.mono (newPot_any _ _ _ l _ (SI.rd M (Zz9 _)) (by omega)) ?_
 clear T;rintro e wc ⟨bpu1,su1,hsu1,rfl,N⟩ ac T
 replace M:=M.join N;clear N
 replace M:=M.mask [true] rfl
 refine lq T (Zra Z (T.e 0 Z)) ?_;intro ac T
 refine wpList_nil ?_
 refine nqR_n M ?_;clear M;intro wc M
 replace SI:=SI.pt
 replace T:=T.pick [0] rfl
 refine nm_then ?_
 refine wpB_seq hP ?_
 refine b_lone hP w fun T9=>?_
 replace M:=M.tp T9 0 0
 replace SI:=SI.tp T9 0
 refine wp_region_lit ?_
 refine lq T (Zrm Z (T.e 0 Z)) ?_;intro ac T
 refine Zl2 ?_
 refine Zod T Z Z Z Z evf (.cons (T.e 0 Z) (.cons evc (.cons evc .nil))) Try.func18 Z Z ?_
 refine Calls.mono (bellowOf_any _ bpu1 4 2 _ (by omega) (by omega) (M.nth 0 Z) hsu1) ?_
 clear T;rintro e wc ⟨bu2,gu2,airu2,Abu2,cbu2,Dbu2,dbu2,Gbu2,nbu2,su2,Ibu2,rfl,hBtu2,hBgu2,hBnu2,hsu2,hBiu2,⟨bGu2,oGu2,hGsu2⟩,N⟩ ac T
 replace M:=(M.joinW2 .head N).swapI
 clear N
 replace M:Mem (Bq.tp w T9 0) noEx wc ((bpu1,.cells [.int .u64 su2])::Ibu2):=M
 have SGu2:=hGsu2 (Bq.tp w T9 0) noEx
 have hB4u2:gu2.length≤4:=by omega
 have hB3u2:bu2.ts.length≤3:=by omega
 refine Zg4 T (Zq (Zrm Z (T.e 0 Z))) Z (Ze 0 Z Z Z) Z (Ze 1 Z Z Z) Z (Ze 2 Z Z Z) Z ?_;intro ac T
 refine Zl2 ?_
 refine Zoa M T Z Z Z Z ?_;clear M T;intro g1 wc ac M T
 refine Zl2 ?_
 refine Zot M T Z Z (T.e 0 Z) (T.e 3 Z) Z .head Z Z ?_;clear M T;intro wc ac M T
 refine Zg2 T (Zq (Zra Z (T.e 2 Z))) Z (Za 2 Z Z) Z ?_;intro ac T
 refine wpList_nil ?_
 refine nqR_n M ?_;clear M;intro wc M
 replace SGu2:=SGu2.pt
 replace SI:=SI.pt
 replace T:=T.pick [2,9] rfl
 refine nm_then ?_
 refine wpB_seq hP ?_
 refine b_lone hP w fun T9=>?_
 replace M:=M.tp T9 0 0
 replace SGu2:=SGu2.tp T9 0
 replace SI:=SI.tp T9 0
 refine wp_region_lit ?_
 refine lq T (Zrm Z (T.e 1 Z)) ?_;intro ac T
 refine Zl2 ?_
 refine Zod T Z Z Z Z evf (.cons (T.e 0 Z) (.cons evc .nil)) Try.func25 Z Z ?_
 refine Calls.mono (pieceOf_any _ bpu1 6 _ (by omega) (M.nth 1 Z) hsu2) ?_
 clear T;rintro e wc ⟨pu3,aau3,Apu3,cpu3,Bpu3,dpu3,su3,Ipu3,rfl,hPtu3,hPlu3,hPmu3,hPcu3,hsu3,⟨bqu3,oqu3,hSpu3⟩,⟨bru3,oru3,hSau3⟩,N⟩ ac T
 replace M:=(M.joinW2 (.tail .head) N).swapI
 clear N
 replace M:Mem (Bq.tp w T9 0) noEx wc ((g1,.cells [Zi bu2.full,Zi bu2.a0,Zi bu2.a1,.slice Abu2 bu2.cs.length cbu2,.slice Dbu2 bu2.ts.length dbu2])::(bpu1,.cells [.int .u64 su3])::(Ibu2++Ipu3)):=M
 have SPu3:=hSpu3 (Bq.tp w T9 0) noEx
 have SAu3:=hSau3 (Bq.tp w T9 0) noEx
 have hpgu3:NtGood pu3:=⟨by omega,hPtu3.good⟩
 have hp6u3:=hpgu3.n6
 refine Zg5 T (Zq (Zrm Z (T.e 0 Z))) Z (Ze 0 Z Z Z) Z (Ze 1 Z Z Z) Z (Za 1 Z Z) Z (Za 1 Z Z) Z ?_;intro ac T
 refine wpList_nil ?_
 refine nqR_n M ?_;clear M;intro wc M
 replace SAu3:=SAu3.pt
 replace SGu2:=SGu2.pt
 replace SI:=SI.pt
 replace SPu3:=SPu3.pt
 replace T:=T.pick [1,7,8] rfl
 refine nm_then ?_
 refine wpB_seq hP ?_
 refine b_lone hP w fun T9=>?_
 replace M:=M.tp T9 0 0
 replace SAu3:=SAu3.tp T9 0
 replace SGu2:=SGu2.tp T9 0
 replace SI:=SI.tp T9 0
 replace SPu3:=SPu3.tp T9 0
 refine wp_region_lit ?_
 refine Zg2 T (Zq (Zrm Z (T.e 2 Z))) Z (Zm 1 Z Z) Z ?_;intro ac T
 refine Zl2 ?_
 refine Zod T Z Z Z Z evf (.cons (T.e 1 Z) (.cons (T.e 0 Z) .nil)) Try.func32 Z Z ?_
 refine Calls.mono (waysOf_any _ bpu1 pu3 Apu3 cpu3 _ (SPu3.rd M (.cons _ (.cons _ (Zsq _ _)))) (by omega) (M.nth 1 Z) hsu3) ?_
 clear T;rintro e wc ⟨gu4,Au4,cu4,su4,Iu4,rfl,hWu4,hsu4,hgcu4,⟨bu4,ou4,hSgu4⟩,N⟩ ac T
 replace M:=(M.joinW2 (.tail .head) N).swapI
 clear N
 replace M:Mem (Bq.tp w T9 0) noEx wc ((g1,.cells [Zi bu2.full,Zi bu2.a0,Zi bu2.a1,.slice Abu2 bu2.cs.length cbu2,.slice Dbu2 bu2.ts.length dbu2])::(bpu1,.cells [.int .u64 su4])::(Ibu2++Ipu3++Iu4)):=M
 have SWu4:=hSgu4 (Bq.tp w T9 0) noEx
 have hglu4:=hWu4.len
 refine lq T (Zra Z (T.e 0 Z)) ?_;intro ac T
 refine wpList_nil ?_
 refine nqR_n M ?_;clear M;intro wc M
 replace SAu3:=SAu3.pt
 replace SGu2:=SGu2.pt
 replace SI:=SI.pt
 replace SPu3:=SPu3.pt
 replace SWu4:=SWu4.pt
 replace T:=T.pick [0,4,5,6] rfl
 refine nm_then ?_
 refine wpB_seq hP ?_
 refine b_lone hP w fun T9=>?_
 replace M:=M.tp T9 0 0
 replace SAu3:=SAu3.tp T9 0
 replace SGu2:=SGu2.tp T9 0
 replace SI:=SI.tp T9 0
 replace SPu3:=SPu3.tp T9 0
 replace SWu4:=SWu4.tp T9 0
 refine wp_region_lit ?_
 refine Zg3 T (Zq (Zrm Z (T.e 3 Z))) Z (Zm 2 Z Z) Z (Zl Try.underlying44 0 Z Z) Z ?_;intro ac T
 refine Zl2 ?_
 refine Zod T Z Z Z Z evf (.cons (T.e 2 Z) (.cons (T.e 0 Z) .nil)) Try.func19 Z Z ?_
 refine Calls.mono (upto_any _ bpu1 ((pu3.length:Nat):Int) _ (by omega) (by omega) (M.nth 1 Z) hsu4) ?_
 clear T;rintro e wc ⟨xu5,su5,hxu5,hsu5,rfl,hgr,hbk⟩ ac T
 replace M:=M.callC (cs':=[.int .u64 su5]) (.tail .head) hgr hbk
 clear hgr hbk
 obtain ⟨ku5,hku5⟩:∃ k:Nat,xu5=(k:Int):=⟨xu5.toNat,by omega⟩
 refine lq T (Zra Z (T.e 0 Z)) ?_;intro ac T
 refine wpList_nil ?_
 refine nqR_n M ?_;clear M;intro wc M
 replace SAu3:=SAu3.pt
 replace SGu2:=SGu2.pt
 replace SI:=SI.pt
 replace SPu3:=SPu3.pt
 replace SWu4:=SWu4.pt
 replace T:=T.pick [0,5,6,7] rfl
 replace M:=M.mask [true,false] rfl
 replace M:Mem w noEx wc ((g1,.cells [Zi bu2.full,Zi bu2.a0,Zi bu2.a1,.slice Abu2 bu2.cs.length cbu2,.slice Dbu2 bu2.ts.length dbu2])::(Ibu2++Ipu3++Iu4)):=M
 refine nm_then ?_
 refine wpB_seq hP ?_
 refine rB_preN hP w 3 (by decide) fun T9=>?_
 replace M:=M.tp T9 0 0
 replace SAu3:=SAu3.tp T9 0
 replace SGu2:=SGu2.tp T9 0
 replace SI:=SI.tp T9 0
 replace SPu3:=SPu3.tp T9 0
 replace SWu4:=SWu4.tp T9 0
 refine Zg3 T (Zq (Zrr (Mem.nth M 0 Z) Z (T.e 3 Z) Z)) Z (Zm 3 Z Z) Z (Zm 3 Z Z) Z ?_;intro ac T
 refine wpList_nil ?_
 refine pqR_n M ?_;clear M;intro wc M
 replace SAu3:=SAu3.pt
 replace SGu2:=SGu2.pt
 replace SI:=SI.pt
 replace SPu3:=SPu3.pt
 replace SWu4:=SWu4.pt
 obtain ⟨hA9,hD9,hop9⟩:=hBiu2.rd M (.cons _ (subL (subL (List.Sublist.refl _))))
 obtain ⟨nA9,nD9,nop9⟩:=hBiu2.few
 refine rB_call hP (m:=5) (first:=[]) (cap:=[]) T Z Z Z Z Z evf (.cons (T.e 2 Z) (.cons (T.e 1 Z) (.cons (T.e 0 Z) .nil))) Try.func36 Z Z (Levels_any hP bu2 Abu2 cbu2 Dbu2 dbu2 pu3 Apu3 cpu3 Au4 cu4 gu4 _ hA9 hD9 hop9 nA9 nD9 nop9 (SPu3.rd M (.cons _ (subL (Zsq _ _)))) (by omega) (SWu4.rd M (.cons _ (Zsq _ _))) (by omega)) ?_
 clear T
 rintro e wc ⟨Aru6,cru6,Iru6,rfl,hrcu6,⟨bru6,oru6,hSru6⟩,N⟩
 refine ⟨_,Z,?_⟩
 intro ac T
 obtain ⟨z1,z2,z3,z4,z5,z6⟩:=split_law hBtu2 hB4u2 hB3u2 hpgu3 hWu4 ku5
 rw [z1] at T
 obtain ⟨qu6,hqu6⟩:∃ q,q=lvlL bu2 pu3 gu4:=⟨_,rfl⟩
 rw [← hqu6] at T z3 z4 hrcu6 hSru6
 replace M:=(M.join N).swapI
 clear N
 replace M:Mem w noEx wc ((g1,.cells [Zi bu2.full,Zi bu2.a0,Zi bu2.a1,.slice Abu2 bu2.cs.length cbu2,.slice Dbu2 bu2.ts.length dbu2])::(Ibu2++Ipu3++Iu4++Iru6)):=M
 have Sru6:=hSru6 w noEx
 refine rB_moreN hP w 5 0 Z (by decide) fun T9=>?_
 replace M:=M.tp T9 0 0
 replace SAu3:=SAu3.tp T9 0
 replace SGu2:=SGu2.tp T9 0
 replace SI:=SI.tp T9 0
 replace SPu3:=SPu3.tp T9 0
 replace SWu4:=SWu4.tp T9 0
 replace Sru6:=Sru6.tp T9 0
 refine Zg5 T (Zq (Zrm Z (T.e 0 Z))) Z (Ze 0 Z Z Z) Z (Ze 1 Z Z Z) Z (Za 1 Z Z) Z (Za 1 Z Z) Z ?_;intro ac T
 refine wpList_nil ?_
 refine pqR_n M ?_;clear M;intro wc M
 replace SAu3:=SAu3.pt
 replace SGu2:=SGu2.pt
 replace SI:=SI.pt
 replace SPu3:=SPu3.pt
 replace SWu4:=SWu4.pt
 replace Sru6:=Sru6.pt
 refine rB_nil hP ?_
 replace T:=T.pick [0,1,9,10,11,12] rfl
 refine nm_then ?_
 refine wpB_seq hP ?_
 refine gB_start2 hP M (M.mask [true] Z) 13 (by kernel_rfl) Z (by kernel_rfl) ?_
 clear M;intro wc M
 refine gB_q (T:=T) (i:=0) Z (by kernel_rfl) (by kernel_rfl:(Zpb 13 0).setIfInBounds 0 true=Zpb 13 1) (fun _=>si_U) Z Z Z Z (fun T9 B w' hD hl hS=>(Zrr (Mem.nth (show Mem (Bq.tp w T9 0) noEx w' _ from hS) 0 Z) Z (T.e 5 Z) Z)) ?_;intro ac T
 refine gB_q (T:=T) (i:=1) Z (by kernel_rfl) (by kernel_rfl:(Zpb 13 1).setIfInBounds 1 true=Zpb 13 3) (fun _=>si_U) Z Z Z Z (fun _ _ _ _ _ _=>(Zrm Z (T.e 5 Z))) ?_;intro ac T
 refine gB_q (T:=T) (i:=2) Z (by kernel_rfl) (by kernel_rfl:(Zpb 13 3).setIfInBounds 2 true=Zpb 13 7) (fun _=>si_U) Z Z Z Z (fun _ _ _ _ _ _=>(Zrm Z (T.e 4 Z))) ?_;intro ac T
 refine gB_q (T:=T) (i:=3) Z (by kernel_rfl) (by kernel_rfl:(Zpb 13 7).setIfInBounds 3 true=Zpb 13 15) (fun _=>si_U) Z Z Z Z (fun _ _ _ _ _ _=>(rn_slice (size:=4) (l:=0) (h:=ku5) Z Try.underlying44 (by kernel_rfl) (T.e 1 Z) Z ((T.e 0 Z).trans (congrArg (Value.int .i64) hku5)) (by omega) (by omega))) ?_;intro ac T
 obtain ⟨Aq1,hAq1⟩:∃ q:Option Addr,q=(if cpu3=0 then Apu3 else Option.map (fun x:Addr=>x.add (0 * 4)) Apu3):=⟨_,rfl⟩
 rw [← hAq1] at T
 obtain ⟨lq1,hlq1⟩:∃ q,q=(pu3.drop 0).take (ku5 - 0):=⟨_,rfl⟩
 have nlq1:lq1.length=ku5 - 0:=by rw [hlq1,List.length_take,List.length_drop];(try simp only [Zx1,Zx3,Zx2]);omega
 rw [← nlq1] at T
 have SAq1:Sp w noEx Ipu3 Aq1 lq1.length 4 bqu3 (oqu3+0 * 4) (ntc lq1):=by rw [nlq1,hAq1,hlq1,← ntc_part];exact SPu3.sub (by omega) (by omega) (by omega)
 refine gB_q (T:=T) (i:=4) Z (by kernel_rfl) (by kernel_rfl:(Zpb 13 15).setIfInBounds 4 true=Zpb 13 31) (fun _=>si_U) Z Z Z Z (fun _ _ _ _ _ _=>(Zrm Z (T.e 7 Z))) ?_;intro ac T
 refine gB_q (T:=T) (i:=5) Z (by kernel_rfl) (by kernel_rfl:(Zpb 13 31).setIfInBounds 5 true=Zpb 13 63) (fun _=>si_U) Z Z Z Z (fun _ _ _ _ _ _=>(Zrm Z (T.e 7 Z))) ?_;intro ac T
 refine gB_q (T:=T) (i:=6) Z (by kernel_rfl) (by kernel_rfl:(Zpb 13 63).setIfInBounds 6 true=Zpb 13 127) (fun _=>si_U) Z Z Z Z (fun _ _ _ _ _ _=>(rn_slice (size:=1) (l:=0) (h:=ku5) Z Try.underlying28 (by kernel_rfl) (T.e 1 Z) Z ((T.e 0 Z).trans (congrArg (Value.int .i64) hku5)) (by omega) (by omega))) ?_;intro ac T
 obtain ⟨Aq2,hAq2⟩:∃ q:Option Addr,q=(if cu4=0 then Au4 else Option.map (fun x:Addr=>x.add (0 * 1)) Au4):=⟨_,rfl⟩
 rw [← hAq2] at T
 obtain ⟨lq2,hlq2⟩:∃ q,q=(gu4.drop 0).take (ku5 - 0):=⟨_,rfl⟩
 have nlq2:lq2.length=ku5 - 0:=by rw [hlq2,List.length_take,List.length_drop];(try simp only [Zx1,Zx3,Zx2]);omega
 rw [← nlq2] at T
 have SAq2:Sp w noEx Iu4 Aq2 lq2.length 1 bu4 (ou4+0 * 1) (ic lq2):=by rw [nlq2,hAq2,hlq2,← ic_part];exact SWu4.sub (by omega) (by omega) (by omega)
 obtain ⟨hA9,hD9,hop9⟩:=hBiu2.rd M (.cons _ (subL (subL (subL (List.Sublist.refl _)))))
 obtain ⟨nA9,nD9,nop9⟩:=hBiu2.few
 refine gB_one (i:=7) (by kernel_rfl) (by kernel_rfl:(Zpb 13 127).setIfInBounds 7 true=Zpb 13 255) (opB_call (first:=[]) (cap:=[]) T Z Z Z Z Z evf (.cons (T.e 6 Z) (.cons (T.e 3 Z) (.cons (T.e 0 Z) .nil))) Try.func36 Z Z (Levels_any hP bu2 Abu2 cbu2 Dbu2 dbu2 lq1 Aq1 (cpu3 - 0) Aq2 (cu4 - 0) lq2 _ hA9 hD9 hop9 nA9 nD9 nop9 (SAq1.rd M (.cons _ (subL (subL (Zsq _ _))))) (by omega) (SAq2.rd M (.cons _ (subL (Zsq _ _)))) (by omega)) ?_ Z)
 clear T
 rintro e wc ⟨Arur7_7,crur7_7,Irur7_7,rfl,hrcur7_7,⟨brur7_7,orur7_7,hSrur7_7⟩,N⟩
 refine ⟨_,Z,?_⟩
 intro ac T
 have ep9:lq1=pu3.take ku5:=by rw [hlq1];simp
 have eg9:lq2=gu4.take ku5:=by rw [hlq2];simp
 have z29:lvlE bu2 lq1 lq2=0:=by rw [ep9,eg9];exact z2
 rw [z29] at T
 obtain ⟨qur7_7,hqur7_7⟩:∃ q,q=lvlL bu2 lq1 lq2:=⟨_,rfl⟩
 have hqq:qur7_7=qu6.take ku5:=by rw [hqur7_7,ep9,eg9];exact z4
 rw [← hqur7_7] at T hrcur7_7 hSrur7_7
 clear ep9 eg9 z29
 replace M:=(M.join N).swapI
 clear N
 replace M:Mem w noEx wc ((g1,.cells [Zi bu2.full,Zi bu2.a0,Zi bu2.a1,.slice Abu2 bu2.cs.length cbu2,.slice Dbu2 bu2.ts.length dbu2])::(Ibu2++Ipu3++Iu4++Iru6++Irur7_7)):=M
 have Srur7_7:=hSrur7_7 w noEx
 refine ⟨((M.mask [true] Z).sub (List.Sublist.cons_cons _ (Zsl _ _))),?_⟩
 refine gB_q (T:=T) (i:=8) Z (by kernel_rfl) (by kernel_rfl:(Zpb 13 255).setIfInBounds 8 true=Zpb 13 511) (fun _=>si_U) Z Z Z Z (fun _ _ _ _ _ _=>(Zrm Z (T.e 0 Z))) ?_;intro ac T
 refine gB_q (T:=T) (i:=9) Z (by kernel_rfl) (by kernel_rfl:(Zpb 13 511).setIfInBounds 9 true=Zpb 13 1023) (fun _=>si_U) Z Z Z Z (fun _ _ _ _ _ _=>(Zre Z (T.e 0 Z) Z)) ?_;intro ac T
 refine gB_q (T:=T) (i:=10) Z (by kernel_rfl) (by kernel_rfl:(Zpb 13 1023).setIfInBounds 10 true=Zpb 13 2047) (fun _=>si_U) Z Z Z Z (fun _ _ _ _ _ _=>(Zre Z (T.e 1 Z) Z)) ?_;intro ac T
 refine gB_q (T:=T) (i:=11) Z (by kernel_rfl) (by kernel_rfl:(Zpb 13 2047).setIfInBounds 11 true=Zpb 13 4095) (fun _=>si_U) Z Z Z Z (fun _ _ _ _ _ _=>(Zra Z (T.e 1 Z))) ?_;intro ac T
 refine gB_q (T:=T) (i:=12) Z (by kernel_rfl) (by kernel_rfl:(Zpb 13 4095).setIfInBounds 12 true=Zpb 13 8191) (fun _=>si_U) Z Z Z Z (fun _ _ _ _ _ _=>(Zra Z (T.e 1 Z))) ?_;intro ac T
 refine gB_done (by kernel_rfl) M ?_;clear M;intro wc M
 replace T:=T.pick [0,1,13,14,15,16,17,18] rfl
 refine nm_then ?_
 refine wpB_seq hP ?_
 refine rB_preN hP w 3 (by decide) fun T9=>?_
 replace M:=M.tp T9 0 0
 replace SAq1:=SAq1.tp T9 0
 replace SAq2:=SAq2.tp T9 0
 replace SAu3:=SAu3.tp T9 0
 replace SGu2:=SGu2.tp T9 0
 replace SI:=SI.tp T9 0
 replace SPu3:=SPu3.tp T9 0
 replace SWu4:=SWu4.tp T9 0
 replace Sru6:=Sru6.tp T9 0
 replace Srur7_7:=Srur7_7.tp T9 0
 refine Zg3 T (Zq (Zrr (Mem.nth M 0 Z) Z (T.e 7 Z) Z)) Z (Zm 7 Z Z) Z (Zm 7 Z Z) Z ?_;intro ac T
 refine wpList_nil ?_
 refine pqR_n M ?_;clear M;intro wc M
 replace SAq1:=SAq1.pt
 replace SAq2:=SAq2.pt
 replace SAu3:=SAu3.pt
 replace SGu2:=SGu2.pt
 replace SI:=SI.pt
 replace SPu3:=SPu3.pt
 replace SWu4:=SWu4.pt
 replace Sru6:=Sru6.pt
 replace Srur7_7:=Srur7_7.pt
 obtain ⟨hA9,hD9,hop9⟩:=hBiu2.rd M (.cons _ (subL (subL (subL (subL (List.Sublist.refl _))))))
 obtain ⟨nA9,nD9,nop9⟩:=hBiu2.few
 refine rB_call hP (m:=5) (first:=[]) (cap:=[]) T Z Z Z Z Z evf (.cons (T.e 2 Z) (.cons (T.e 1 Z) (.cons (T.e 0 Z) .nil))) Try.func38 Z Z (Plays_any hP bu2 Abu2 cbu2 Dbu2 dbu2 pu3 Apu3 cpu3 Au4 cu4 gu4 _ hA9 hD9 hop9 nA9 nD9 nop9 (SPu3.rd M (.cons _ (subL (subL (subL (Zsq _ _)))))) (by omega) (SWu4.rd M (.cons _ (subL (subL (Zsq _ _))))) (by omega)) ?_
 clear T
 rintro e wc ⟨rfl,hb⟩
 refine ⟨_,Z,?_⟩
 intro ac T
 replace M:=M.call hb;clear hb
 rw [z1] at T
 obtain ⟨pv,hpv⟩:∃ q,q=plaV bu2 pu3 gu4:=⟨_,rfl⟩
 rw [← hpv] at T z5 z6
 refine rB_moreN hP w 5 0 Z (by decide) fun T9=>?_
 replace M:=M.tp T9 0 0
 replace SAq1:=SAq1.tp T9 0
 replace SAq2:=SAq2.tp T9 0
 replace SAu3:=SAu3.tp T9 0
 replace SGu2:=SGu2.tp T9 0
 replace SI:=SI.tp T9 0
 replace SPu3:=SPu3.tp T9 0
 replace SWu4:=SWu4.tp T9 0
 replace Sru6:=Sru6.tp T9 0
 replace Srur7_7:=Srur7_7.tp T9 0
 refine Zg5 T (Zq (Zrm Z (T.e 0 Z))) Z (Ze 0 Z Z Z) Z (Ze 1 Z Z Z) Z (Za 1 Z Z) Z (Za 1 Z Z) Z ?_;intro ac T
 refine wpList_nil ?_
 refine pqR_n M ?_;clear M;intro wc M
 replace SAq1:=SAq1.pt
 replace SAq2:=SAq2.pt
 replace SAu3:=SAu3.pt
 replace SGu2:=SGu2.pt
 replace SI:=SI.pt
 replace SPu3:=SPu3.pt
 replace SWu4:=SWu4.pt
 replace Sru6:=Sru6.pt
 replace Srur7_7:=Srur7_7.pt
 refine rB_nil hP ?_
 replace T:=T.pick [0,1,9,10,11,12,13,14,15,16] rfl
 refine nm_then ?_
 refine wpB_seq hP ?_
 refine gB_start2 hP M (M.mask [true] Z) 13 (by kernel_rfl) Z (by kernel_rfl) ?_
 clear M;intro wc M
 refine gB_q (T:=T) (i:=0) Z (by kernel_rfl) (by kernel_rfl:(Zpb 13 0).setIfInBounds 0 true=Zpb 13 1) (fun _=>si_U) Z Z Z Z (fun T9 B w' hD hl hS=>(Zrr (Mem.nth (show Mem (Bq.tp w T9 0) noEx w' _ from hS) 0 Z) Z (T.e 9 Z) Z)) ?_;intro ac T
 refine gB_q (T:=T) (i:=1) Z (by kernel_rfl) (by kernel_rfl:(Zpb 13 1).setIfInBounds 1 true=Zpb 13 3) (fun _=>si_U) Z Z Z Z (fun _ _ _ _ _ _=>(Zrm Z (T.e 9 Z))) ?_;intro ac T
 refine gB_q (T:=T) (i:=2) Z (by kernel_rfl) (by kernel_rfl:(Zpb 13 3).setIfInBounds 2 true=Zpb 13 7) (fun _=>si_U) Z Z Z Z (fun _ _ _ _ _ _=>(Zrm Z (T.e 8 Z))) ?_;intro ac T
 refine gB_q (T:=T) (i:=3) Z (by kernel_rfl) (by kernel_rfl:(Zpb 13 7).setIfInBounds 3 true=Zpb 13 15) (fun _=>si_U) Z Z Z Z (fun _ _ _ _ _ _=>(rn_slice (size:=4) (l:=0) (h:=ku5) Z Try.underlying44 (by kernel_rfl) (T.e 1 Z) Z ((T.e 0 Z).trans (congrArg (Value.int .i64) hku5)) (by omega) (by omega))) ?_;intro ac T
 obtain ⟨Aq3,hAq3⟩:∃ q:Option Addr,q=(if cpu3=0 then Apu3 else Option.map (fun x:Addr=>x.add (0 * 4)) Apu3):=⟨_,rfl⟩
 rw [← hAq3] at T
 obtain ⟨lq3,hlq3⟩:∃ q,q=(pu3.drop 0).take (ku5 - 0):=⟨_,rfl⟩
 have nlq3:lq3.length=ku5 - 0:=by rw [hlq3,List.length_take,List.length_drop];(try simp only [Zx1,Zx3,Zx2]);omega
 rw [← nlq3] at T
 have SAq3:Sp w noEx Ipu3 Aq3 lq3.length 4 bqu3 (oqu3+0 * 4) (ntc lq3):=by rw [nlq3,hAq3,hlq3,← ntc_part];exact SPu3.sub (by omega) (by omega) (by omega)
 refine gB_q (T:=T) (i:=4) Z (by kernel_rfl) (by kernel_rfl:(Zpb 13 15).setIfInBounds 4 true=Zpb 13 31) (fun _=>si_U) Z Z Z Z (fun _ _ _ _ _ _=>(Zrm Z (T.e 11 Z))) ?_;intro ac T
 refine gB_q (T:=T) (i:=5) Z (by kernel_rfl) (by kernel_rfl:(Zpb 13 31).setIfInBounds 5 true=Zpb 13 63) (fun _=>si_U) Z Z Z Z (fun _ _ _ _ _ _=>(Zrm Z (T.e 11 Z))) ?_;intro ac T
 refine gB_q (T:=T) (i:=6) Z (by kernel_rfl) (by kernel_rfl:(Zpb 13 63).setIfInBounds 6 true=Zpb 13 127) (fun _=>si_U) Z Z Z Z (fun _ _ _ _ _ _=>(rn_slice (size:=1) (l:=0) (h:=ku5) Z Try.underlying28 (by kernel_rfl) (T.e 1 Z) Z ((T.e 0 Z).trans (congrArg (Value.int .i64) hku5)) (by omega) (by omega))) ?_;intro ac T
 obtain ⟨Aq4,hAq4⟩:∃ q:Option Addr,q=(if cu4=0 then Au4 else Option.map (fun x:Addr=>x.add (0 * 1)) Au4):=⟨_,rfl⟩
 rw [← hAq4] at T
 obtain ⟨lq4,hlq4⟩:∃ q,q=(gu4.drop 0).take (ku5 - 0):=⟨_,rfl⟩
 have nlq4:lq4.length=ku5 - 0:=by rw [hlq4,List.length_take,List.length_drop];(try simp only [Zx1,Zx3,Zx2]);omega
 rw [← nlq4] at T
 have SAq4:Sp w noEx Iu4 Aq4 lq4.length 1 bu4 (ou4+0 * 1) (ic lq4):=by rw [nlq4,hAq4,hlq4,← ic_part];exact SWu4.sub (by omega) (by omega) (by omega)
 obtain ⟨hA9,hD9,hop9⟩:=hBiu2.rd M (.cons _ (subL (subL (subL (subL (List.Sublist.refl _))))))
 obtain ⟨nA9,nD9,nop9⟩:=hBiu2.few
 refine gB_one (i:=7) (by kernel_rfl) (by kernel_rfl:(Zpb 13 127).setIfInBounds 7 true=Zpb 13 255) (opB_call (first:=[]) (cap:=[]) T Z Z Z Z Z evf (.cons (T.e 6 Z) (.cons (T.e 3 Z) (.cons (T.e 0 Z) .nil))) Try.func38 Z Z (Plays_any hP bu2 Abu2 cbu2 Dbu2 dbu2 lq3 Aq3 (cpu3 - 0) Aq4 (cu4 - 0) lq4 _ hA9 hD9 hop9 nA9 nD9 nop9 (SAq3.rd M (.cons _ (subL (subL (subL (Zsq _ _)))))) (by omega) (SAq4.rd M (.cons _ (subL (subL (Zsq _ _))))) (by omega)) ?_ Z)
 clear T
 rintro e wc ⟨rfl,hb⟩
 refine ⟨_,Z,?_⟩
 intro ac T
 replace M:=M.call hb;clear hb
 have ep9:lq3=pu3.take ku5:=by rw [hlq3];simp
 have eg9:lq4=gu4.take ku5:=by rw [hlq4];simp
 have z29:lvlE bu2 lq3 lq4=0:=by rw [ep9,eg9];exact z2
 rw [z29] at T
 obtain ⟨pw,hpw⟩:∃ q,q=plaV bu2 lq3 lq4:=⟨_,rfl⟩
 rw [← hpw] at T
 rw [← ep9,← eg9,← hpw] at z5 z6
 clear ep9 eg9 z29
 refine ⟨(M.mask [true] Z),?_⟩
 refine gB_q (T:=T) (i:=8) Z (by kernel_rfl) (by kernel_rfl:(Zpb 13 255).setIfInBounds 8 true=Zpb 13 511) (fun _=>si_U) Z Z Z Z (fun _ _ _ _ _ _=>(Zrm Z (T.e 0 Z))) ?_;intro ac T
 refine gB_q (T:=T) (i:=9) Z (by kernel_rfl) (by kernel_rfl:(Zpb 13 511).setIfInBounds 9 true=Zpb 13 1023) (fun _=>si_U) Z Z Z Z (fun _ _ _ _ _ _=>(Zre Z (T.e 0 Z) Z)) ?_;intro ac T
 refine gB_q (T:=T) (i:=10) Z (by kernel_rfl) (by kernel_rfl:(Zpb 13 1023).setIfInBounds 10 true=Zpb 13 2047) (fun _=>si_U) Z Z Z Z (fun _ _ _ _ _ _=>(Zre Z (T.e 1 Z) Z)) ?_;intro ac T
 refine gB_q (T:=T) (i:=11) Z (by kernel_rfl) (by kernel_rfl:(Zpb 13 2047).setIfInBounds 11 true=Zpb 13 4095) (fun _=>si_U) Z Z Z Z (fun _ _ _ _ _ _=>(Zra Z (T.e 1 Z))) ?_;intro ac T
 refine gB_q (T:=T) (i:=12) Z (by kernel_rfl) (by kernel_rfl:(Zpb 13 4095).setIfInBounds 12 true=Zpb 13 8191) (fun _=>si_U) Z Z Z Z (fun _ _ _ _ _ _=>(Zra Z (T.e 1 Z))) ?_;intro ac T
 refine gB_done (by kernel_rfl) M ?_;clear M;intro wc M
 replace T:=T.pick [0,1,13,14,15,16,17,18,19,21] rfl
 replace M:=M.mask [false] rfl
 replace M:Mem w noEx wc ((Ibu2++Ipu3++Iu4++Iru6++Irur7_7)):=M
 refine nm_then ?_
 refine wpB_seq hP ?_
 refine wpB_seq hP ?_
 refine b_lone hP w fun T9=>?_
 replace M:=M.tp T9 0 0
 replace SAq1:=SAq1.tp T9 0
 replace SAq2:=SAq2.tp T9 0
 replace SAq3:=SAq3.tp T9 0
 replace SAq4:=SAq4.tp T9 0
 replace SAu3:=SAu3.tp T9 0
 replace SGu2:=SGu2.tp T9 0
 replace SI:=SI.tp T9 0
 replace SPu3:=SPu3.tp T9 0
 replace SWu4:=SWu4.tp T9 0
 replace Sru6:=Sru6.tp T9 0
 replace Srur7_7:=Srur7_7.tp T9 0
 refine wp_region_lit ?_
 refine Zg8 (v2:=(.bool false)) (v5:=(.bool false)) T (Zq (Zrm Z (T.e 6 Z))) Z (fun _ T=>Zq (Zrq (rn_neq Z (T.e 0 Z) evc) (by simp))) Z (Zm 0 Z Z) Z (fun _ T=>Zw (Zwy Z Z (T.e 0 Z) Z) (Zrm Z (T.e 7 Z))) Z (fun _ T=>Zw (Zwy Z Z (T.e 1 Z) Z) (Zrq (rn_neq Z (T.e 0 Z) evc) (by simp))) Z (fun _ T=>Zq (Zr0 Z (T.e 2 Z) Z (T.e 0 Z))) Z (Zm 0 Z Z) Z (fun _ T=>Zw (Zwy Z Z (T.e 0 Z) Z) (Zrm Z (T.e 9 Z))) Z ?_;intro ac T
 refine Zg8 (v1:=(.bool false)) (v5:=(.bool false)) T (Zw (Zwy Z Z (T.e 1 Z) Z) (Zrq (rn_neq Z (T.e 0 Z) evc) (by simp))) Z (fun _ T=>Zq (Zr0 Z (T.e 2 Z) Z (T.e 0 Z))) Z (Zm 0 Z Z) Z (fun _ T=>Zw (Zwy Z Z (T.e 0 Z) Z) (Zrm Z (T.e 11 Z))) Z (fun _ T=>Zw (Zwy Z Z (T.e 1 Z) Z) (Zrq (rn_neq Z (T.e 0 Z) evc) (by simp))) Z (fun _ T=>Zq (Zr0 Z (T.e 2 Z) Z (T.e 0 Z))) Z (Zm 0 Z Z) Z (fun _ T=>Zw (Zwy Z Z (T.e 0 Z) Z) (Zrm Z (T.e 22 Z))) Z ?_;intro ac T
 refine Zg5 T (Zw (Zwy Z Z (T.e 1 Z) Z) (Zrl Z Try.underlying24 (T.e 0 Z))) Z (fun _ T=>Zw (Zwy Z Z (T.e 2 Z) Z) (Zrm Z (T.e 26 Z))) Z (fun _ T=>Zw (Zwy Z Z (T.e 3 Z) Z) (Zrl Z Try.underlying44 (T.e 0 Z))) Z (fun _ T=>Zw (Zwy Z Z (T.e 4 Z) Z) (rn_neq Z (T.e 2 Z) (T.e 0 Z))) Z (fun _ T=>Zq (Zr0 Z (T.e 5 Z) Z (T.e 0 Z))) Z ?_;intro ac T
 refine wpList_nil ?_
 refine nqR_n M ?_;clear M;intro wc M
 replace SAq1:=SAq1.pt
 replace SAq2:=SAq2.pt
 replace SAq3:=SAq3.pt
 replace SAq4:=SAq4.pt
 replace SAu3:=SAu3.pt
 replace SGu2:=SGu2.pt
 replace SI:=SI.pt
 replace SPu3:=SPu3.pt
 replace SWu4:=SWu4.pt
 replace Sru6:=Sru6.pt
 replace Srur7_7:=Srur7_7.pt
 replace T:=T.pick [0,22,24,26,28,29] rfl
 refine nm_then ?_
 refine wB_ifn hP (T.e 0 Z) ?_ ?_
 ·intro h1
  exfalso
  omega
 intro h1
 refine wpB_skip hP ?_
 refine nm_then ?_
 refine cutB_seq hP (fun ac wc=>Tm ac 120 [(2,.bool true)]∧Mem w noEx wc ((Ibu2++Ipu3++Iu4++Iru6++Irur7_7))) ?_ ?_
 ·refine rB_preN hP w 22 (by decide) fun T9=>?_
  replace M:=M.tp T9 0 0
  replace SAq1:=SAq1.tp T9 0
  replace SAq2:=SAq2.tp T9 0
  replace SAq3:=SAq3.tp T9 0
  replace SAq4:=SAq4.tp T9 0
  replace SAu3:=SAu3.tp T9 0
  replace SGu2:=SGu2.tp T9 0
  replace SI:=SI.tp T9 0
  replace SPu3:=SPu3.tp T9 0
  replace SWu4:=SWu4.tp T9 0
  replace Sru6:=Sru6.tp T9 0
  replace Srur7_7:=Srur7_7.tp T9 0
  refine Zg4 T (Zq (Zrm Z (T.e 3 Z))) Z (Zm 5 Z Z) Z (Zm 7 Z Z) Z (fun _ T=>Zq (rn_slice (size:=2) (l:=0) (h:=ku5) Z Try.underlying24 (by kernel_rfl) (T.e 1 Z) Z ((T.e 0 Z).trans (congrArg (Value.int .i64) hku5)) (by omega) (by omega))) Z ?_;intro ac T
  obtain ⟨Aq5,hAq5⟩:∃ q:Option Addr,q=(if cru6=0 then Aru6 else Option.map (fun x:Addr=>x.add (0 * 2)) Aru6):=⟨_,rfl⟩
  rw [← hAq5] at T
  obtain ⟨lq5,hlq5⟩:∃ q,q=(qu6.drop 0).take (ku5 - 0):=⟨_,rfl⟩
  have nlq5:lq5.length=ku5 - 0:=by rw [hlq5,List.length_take,List.length_drop];(try simp only [Zx1,Zx3,Zx2]);omega
  rw [← nlq5] at T
  have SAq5:Sp (Bq.tp w T9 0) noEx Iru6 Aq5 lq5.length 2 bru6 (oru6+0 * 2) (rc lq5):=by rw [nlq5,hAq5,hlq5,← rc_part];exact Sru6.sub (by omega) (by omega) (by omega)
  refine Zl2 ?_
  have hrr9:qur7_7=lq5:=by rw [hqq,hlq5];simp
  have hrl9:qur7_7.length=lq5.length:=by rw [hrr9]
  refine Zod T Z Z Z Z evf (.cons (T.e 3 Z) (.cons (T.e 0 Z) .nil)) Try.func42 Z Z ?_
  refine Calls.mono (sameRanges_same _ _ _ lq5.length _ _ qur7_7 _ (Srur7_7.rd M (Zsq _ _)) (by rw [hrr9];exact SAq5.rd M (subL (Zsq _ _))) (by omega) (by omega)) ?_
  clear T;rintro e wc ⟨rfl,hb⟩ ac T
  replace M:=M.call hb;clear hb
  refine Zg4 T (Zq (Zrm Z (T.e 0 Z))) Z (fun _ T=>Zw (Zwy Z Z (T.e 0 Z) Z) (Zrm Z (T.e 7 Z))) Z (fun _ T=>Zw (Zwy Z Z (T.e 1 Z) Z) (rn_neq Z (T.e 0 Z) evc)) Z (fun _ T=>Zw (Zwy Z Z (T.e 2 Z) Z) (Zrm Z (T.e 0 Z))) Z ?_;intro ac T
  rcases Zx9 (!(decide (pw=2))) with h2 | h2
  ·replace h2 : ¬ (pw=2):=by first | (rw [Bool.not_eq_true'] at h2;exact of_decide_eq_false h2) | simpa using h2
   refine Zg8 T (Zp (Zwn Z Z (T.e 0 Z) (by simp [h2]))) Z (fun _ T=>Zp (Zwn Z Z (T.e 1 Z) (by simp [h2]))) Z (fun _ T=>Zw (Zwy Z Z (T.e 5 Z) Z) (Zr1 Z (T.e 2 Z) (by simp [h2]) evc)) Z (fun _ T=>Zq (Zr1 Z (T.e 6 Z) Z (T.e 0 Z))) Z (Zm 0 Z Z) Z (fun _ T=>Zw (Zwy Z Z (T.e 0 Z) Z) (Zrm Z (T.e 16 Z))) Z (fun _ T=>Zw (Zwy Z Z (T.e 1 Z) Z) (rn_neq Z (T.e 0 Z) evc)) Z (fun _ T=>Zw (Zwy Z Z (T.e 2 Z) Z) (Zrm Z (T.e 0 Z))) Z ?_;intro ac T
   rcases Zx9 (!(decide (pv=1))) with h3 | h3
   ·replace h3 : ¬ (pv=1):=by first | (rw [Bool.not_eq_true'] at h3;exact of_decide_eq_false h3) | simpa using h3
    refine Zg5 T (Zp (Zwn Z Z (T.e 0 Z) (by simp [h3]))) Z (fun _ T=>Zp (Zwn Z Z (T.e 1 Z) (by simp [h3]))) Z (fun _ T=>Zw (Zwy Z Z (T.e 5 Z) Z) (Zr1 Z (T.e 2 Z) (by simp [h3]) evc)) Z (fun _ T=>Zq (Zr1 Z (T.e 6 Z) Z (T.e 0 Z))) Z (Zm 0 Z Z) Z ?_;intro ac T
    refine wpList_nil ?_
    refine pqR_n M ?_;clear M;intro wc M
    replace SAq1:=SAq1.pt
    replace SAq2:=SAq2.pt
    replace SAq3:=SAq3.pt
    replace SAq4:=SAq4.pt
    replace SAq5:=SAq5.pt
    replace SAu3:=SAu3.pt
    replace SGu2:=SGu2.pt
    replace SI:=SI.pt
    replace SPu3:=SPu3.pt
    replace SWu4:=SWu4.pt
    replace Sru6:=Sru6.pt
    replace Srur7_7:=Srur7_7.pt
    refine rB_call hP (m:=2) (first:=[]) (cap:=[]) T Z Z Z Z Z evf .nil Try.func16 Z Z (airy_any hP _) ?_ (Zwy Z Z (T.e 0 Z) Z)
    clear T
    rintro e wc ⟨rfl,hb⟩
    refine ⟨_,Z,?_⟩
    intro ac T
    replace M:=M.call hb;clear hb
    refine rB_moreN hP w 2 0 Z (by decide) fun T9=>?_
    replace M:=M.tp T9 0 0
    replace SAq1:=SAq1.tp T9 0
    replace SAq2:=SAq2.tp T9 0
    replace SAq3:=SAq3.tp T9 0
    replace SAq4:=SAq4.tp T9 0
    replace SAq5:=SAq5.tp T9 0
    replace SAu3:=SAu3.tp T9 0
    replace SGu2:=SGu2.tp T9 0
    replace SI:=SI.tp T9 0
    replace SPu3:=SPu3.tp T9 0
    replace SWu4:=SWu4.tp T9 0
    replace Sru6:=Sru6.tp T9 0
    replace Srur7_7:=Srur7_7.tp T9 0
    refine Zg2 T (Zq (Zr1 Z (T.e 1 Z) Z (T.e 0 Z))) Z (Za 0 Z Z) Z ?_;intro ac T
    refine wpList_nil ?_
    refine pqR_n M ?_;clear M;intro wc M
    replace SAq1:=SAq1.pt
    replace SAq2:=SAq2.pt
    replace SAq3:=SAq3.pt
    replace SAq4:=SAq4.pt
    replace SAq5:=SAq5.pt
    replace SAu3:=SAu3.pt
    replace SGu2:=SGu2.pt
    replace SI:=SI.pt
    replace SPu3:=SPu3.pt
    replace SWu4:=SWu4.pt
    replace Sru6:=Sru6.pt
    replace Srur7_7:=Srur7_7.pt
    refine rB_nil hP ?_
    replace T:=T.pick [0] rfl
    exact ⟨(T.pick (E':=[(2,.bool true)]) [0] Z).as (by (try rw [show (!(decide (pw=2)))=true from (by simp [h2])]);(try rw [show (!(decide (pv=1)))=true from (by simp [h3])]);(try rfl)),M.mask [] Z⟩
   replace h3:pv=1:=by first | (rw [Bool.not_eq_false'] at h3;exact of_decide_eq_true h3) | simpa using h3
   refine Zg5 T (Zw (Zwy Z Z (T.e 0 Z) (by simp [h3])) (Zrm Z (T.e 18 Z))) Z (fun _ T=>Zw (Zwy Z Z (T.e 1 Z) (by simp [h3])) (rn_eql Z (T.e 0 Z) evc)) Z (fun _ T=>Zw (Zwy Z Z (T.e 5 Z) Z) (Zr0 Z (T.e 2 Z) (by simp [h3]) (T.e 0 Z))) Z (fun _ T=>Zq (Zr1 Z (T.e 6 Z) Z (T.e 0 Z))) Z (Zm 0 Z Z) Z ?_;intro ac T
   refine wpList_nil ?_
   refine pqR_n M ?_;clear M;intro wc M
   replace SAq1:=SAq1.pt
   replace SAq2:=SAq2.pt
   replace SAq3:=SAq3.pt
   replace SAq4:=SAq4.pt
   replace SAq5:=SAq5.pt
   replace SAu3:=SAu3.pt
   replace SGu2:=SGu2.pt
   replace SI:=SI.pt
   replace SPu3:=SPu3.pt
   replace SWu4:=SWu4.pt
   replace Sru6:=Sru6.pt
   replace Srur7_7:=Srur7_7.pt
   refine rB_call hP (m:=2) (first:=[]) (cap:=[]) T Z Z Z Z Z evf .nil Try.func16 Z Z (airy_any hP _) ?_ (Zwy Z Z (T.e 0 Z) (Zdt (z6 h3)))
   clear T
   rintro e wc ⟨rfl,hb⟩
   refine ⟨_,Z,?_⟩
   intro ac T
   replace M:=M.call hb;clear hb
   refine rB_moreN hP w 2 0 Z (by decide) fun T9=>?_
   replace M:=M.tp T9 0 0
   replace SAq1:=SAq1.tp T9 0
   replace SAq2:=SAq2.tp T9 0
   replace SAq3:=SAq3.tp T9 0
   replace SAq4:=SAq4.tp T9 0
   replace SAq5:=SAq5.tp T9 0
   replace SAu3:=SAu3.tp T9 0
   replace SGu2:=SGu2.tp T9 0
   replace SI:=SI.tp T9 0
   replace SPu3:=SPu3.tp T9 0
   replace SWu4:=SWu4.tp T9 0
   replace Sru6:=Sru6.tp T9 0
   replace Srur7_7:=Srur7_7.tp T9 0
   refine Zg2 T (Zq (Zr1 Z (T.e 1 Z) (Zdt (z6 h3)) (T.e 0 Z))) Z (Za 0 Z Z) Z ?_;intro ac T
   refine wpList_nil ?_
   refine pqR_n M ?_;clear M;intro wc M
   replace SAq1:=SAq1.pt
   replace SAq2:=SAq2.pt
   replace SAq3:=SAq3.pt
   replace SAq4:=SAq4.pt
   replace SAq5:=SAq5.pt
   replace SAu3:=SAu3.pt
   replace SGu2:=SGu2.pt
   replace SI:=SI.pt
   replace SPu3:=SPu3.pt
   replace SWu4:=SWu4.pt
   replace Sru6:=Sru6.pt
   replace Srur7_7:=Srur7_7.pt
   refine rB_nil hP ?_
   replace T:=T.pick [0] rfl
   exact ⟨(T.pick (E':=[(2,.bool true)]) [0] Z).as (by (try rw [show (!(decide (pw=2)))=true from (by simp [h2])]);(try rw [show (!(decide (pv=1)))=false from (by simp [h3])]);(try rfl)),M.mask [] Z⟩
  replace h2:pw=2:=by first | (rw [Bool.not_eq_false'] at h2;exact of_decide_eq_true h2) | simpa using h2
  refine Zg8 T (Zw (Zwy Z Z (T.e 0 Z) (by simp [h2])) (Zrm Z (T.e 11 Z))) Z (fun _ T=>Zw (Zwy Z Z (T.e 1 Z) (by simp [h2])) (rn_eql Z (T.e 0 Z) evc)) Z (fun _ T=>Zw (Zwy Z Z (T.e 5 Z) Z) (Zr0 Z (T.e 2 Z) (by simp [h2]) (T.e 0 Z))) Z (fun _ T=>Zq (Zr1 Z (T.e 6 Z) Z (T.e 0 Z))) Z (Zm 0 Z Z) Z (fun _ T=>Zw (Zwy Z Z (T.e 0 Z) (Zdt (z5 h2))) (Zrm Z (T.e 16 Z))) Z (fun _ T=>Zw (Zwy Z Z (T.e 1 Z) (Zdt (z5 h2))) (rn_neq Z (T.e 0 Z) evc)) Z (fun _ T=>Zw (Zwy Z Z (T.e 2 Z) (Zdt (z5 h2))) (Zrm Z (T.e 0 Z))) Z ?_;intro ac T
  rcases Zx9 (!(decide (pv=1))) with h4 | h4
  ·replace h4 : ¬ (pv=1):=by first | (rw [Bool.not_eq_true'] at h4;exact of_decide_eq_false h4) | simpa using h4
   refine Zg5 T (Zp (Zwn Z Z (T.e 0 Z) (by simp [h4]))) Z (fun _ T=>Zp (Zwn Z Z (T.e 1 Z) (by simp [h4]))) Z (fun _ T=>Zw (Zwy Z Z (T.e 5 Z) (Zdt (z5 h2))) (Zr1 Z (T.e 2 Z) (by simp [h4]) evc)) Z (fun _ T=>Zq (Zr1 Z (T.e 6 Z) (Zdt (z5 h2)) (T.e 0 Z))) Z (Zm 0 Z Z) Z ?_;intro ac T
   refine wpList_nil ?_
   refine pqR_n M ?_;clear M;intro wc M
   replace SAq1:=SAq1.pt
   replace SAq2:=SAq2.pt
   replace SAq3:=SAq3.pt
   replace SAq4:=SAq4.pt
   replace SAq5:=SAq5.pt
   replace SAu3:=SAu3.pt
   replace SGu2:=SGu2.pt
   replace SI:=SI.pt
   replace SPu3:=SPu3.pt
   replace SWu4:=SWu4.pt
   replace Sru6:=Sru6.pt
   replace Srur7_7:=Srur7_7.pt
   refine rB_call hP (m:=2) (first:=[]) (cap:=[]) T Z Z Z Z Z evf .nil Try.func16 Z Z (airy_any hP _) ?_ (Zwy Z Z (T.e 0 Z) Z)
   clear T
   rintro e wc ⟨rfl,hb⟩
   refine ⟨_,Z,?_⟩
   intro ac T
   replace M:=M.call hb;clear hb
   refine rB_moreN hP w 2 0 Z (by decide) fun T9=>?_
   replace M:=M.tp T9 0 0
   replace SAq1:=SAq1.tp T9 0
   replace SAq2:=SAq2.tp T9 0
   replace SAq3:=SAq3.tp T9 0
   replace SAq4:=SAq4.tp T9 0
   replace SAq5:=SAq5.tp T9 0
   replace SAu3:=SAu3.tp T9 0
   replace SGu2:=SGu2.tp T9 0
   replace SI:=SI.tp T9 0
   replace SPu3:=SPu3.tp T9 0
   replace SWu4:=SWu4.tp T9 0
   replace Sru6:=Sru6.tp T9 0
   replace Srur7_7:=Srur7_7.tp T9 0
   refine Zg2 T (Zq (Zr1 Z (T.e 1 Z) Z (T.e 0 Z))) Z (Za 0 Z Z) Z ?_;intro ac T
   refine wpList_nil ?_
   refine pqR_n M ?_;clear M;intro wc M
   replace SAq1:=SAq1.pt
   replace SAq2:=SAq2.pt
   replace SAq3:=SAq3.pt
   replace SAq4:=SAq4.pt
   replace SAq5:=SAq5.pt
   replace SAu3:=SAu3.pt
   replace SGu2:=SGu2.pt
   replace SI:=SI.pt
   replace SPu3:=SPu3.pt
   replace SWu4:=SWu4.pt
   replace Sru6:=Sru6.pt
   replace Srur7_7:=Srur7_7.pt
   refine rB_nil hP ?_
   replace T:=T.pick [0] rfl
   exact ⟨(T.pick (E':=[(2,.bool true)]) [0] Z).as (by (try rw [show (!(decide (pw=2)))=false from (by simp [h2])]);(try rw [show (!(decide (pv=1)))=true from (by simp [h4])]);(try rfl)),M.mask [] Z⟩
  replace h4:pv=1:=by first | (rw [Bool.not_eq_false'] at h4;exact of_decide_eq_true h4) | simpa using h4
  refine Zg5 T (Zw (Zwy Z Z (T.e 0 Z) (by simp [h4])) (Zrm Z (T.e 18 Z))) Z (fun _ T=>Zw (Zwy Z Z (T.e 1 Z) (by simp [h4])) (rn_eql Z (T.e 0 Z) evc)) Z (fun _ T=>Zw (Zwy Z Z (T.e 5 Z) (Zdt (z5 h2))) (Zr0 Z (T.e 2 Z) (by simp [h4]) (T.e 0 Z))) Z (fun _ T=>Zq (Zr1 Z (T.e 6 Z) (Zdt (z5 h2)) (T.e 0 Z))) Z (Zm 0 Z Z) Z ?_;intro ac T
  refine wpList_nil ?_
  refine pqR_n M ?_;clear M;intro wc M
  replace SAq1:=SAq1.pt
  replace SAq2:=SAq2.pt
  replace SAq3:=SAq3.pt
  replace SAq4:=SAq4.pt
  replace SAq5:=SAq5.pt
  replace SAu3:=SAu3.pt
  replace SGu2:=SGu2.pt
  replace SI:=SI.pt
  replace SPu3:=SPu3.pt
  replace SWu4:=SWu4.pt
  replace Sru6:=Sru6.pt
  replace Srur7_7:=Srur7_7.pt
  refine rB_call hP (m:=2) (first:=[]) (cap:=[]) T Z Z Z Z Z evf .nil Try.func16 Z Z (airy_any hP _) ?_ (Zwy Z Z (T.e 0 Z) (Zdt (z6 h4)))
  clear T
  rintro e wc ⟨rfl,hb⟩
  refine ⟨_,Z,?_⟩
  intro ac T
  replace M:=M.call hb;clear hb
  refine rB_moreN hP w 2 0 Z (by decide) fun T9=>?_
  replace M:=M.tp T9 0 0
  replace SAq1:=SAq1.tp T9 0
  replace SAq2:=SAq2.tp T9 0
  replace SAq3:=SAq3.tp T9 0
  replace SAq4:=SAq4.tp T9 0
  replace SAq5:=SAq5.tp T9 0
  replace SAu3:=SAu3.tp T9 0
  replace SGu2:=SGu2.tp T9 0
  replace SI:=SI.tp T9 0
  replace SPu3:=SPu3.tp T9 0
  replace SWu4:=SWu4.tp T9 0
  replace Sru6:=Sru6.tp T9 0
  replace Srur7_7:=Srur7_7.tp T9 0
  refine Zg2 T (Zq (Zr1 Z (T.e 1 Z) (Zdt (z6 h4)) (T.e 0 Z))) Z (Za 0 Z Z) Z ?_;intro ac T
  refine wpList_nil ?_
  refine pqR_n M ?_;clear M;intro wc M
  replace SAq1:=SAq1.pt
  replace SAq2:=SAq2.pt
  replace SAq3:=SAq3.pt
  replace SAq4:=SAq4.pt
  replace SAq5:=SAq5.pt
  replace SAu3:=SAu3.pt
  replace SGu2:=SGu2.pt
  replace SI:=SI.pt
  replace SPu3:=SPu3.pt
  replace SWu4:=SWu4.pt
  replace Sru6:=Sru6.pt
  replace Srur7_7:=Srur7_7.pt
  refine rB_nil hP ?_
  replace T:=T.pick [0] rfl
  exact ⟨(T.pick (E':=[(2,.bool true)]) [0] Z).as (by (try rw [show (!(decide (pw=2)))=false from (by simp [h2])]);(try rw [show (!(decide (pv=1)))=false from (by simp [h4])]);(try rfl)),M.mask [] Z⟩
 clear T M
 rintro ac wc ⟨T,M⟩
 refine wpB_ret hP ?_
 refine rt_1 T Z (T.e 0 Z) ?_
 exact ⟨rfl,M.below⟩
end
end Go.Proofs.Ytoheddpnnjldgaa


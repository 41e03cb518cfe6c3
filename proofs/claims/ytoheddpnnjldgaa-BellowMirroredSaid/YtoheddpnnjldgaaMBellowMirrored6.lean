/-
  Walks of functions,and plain laws (texts put together). No condition.
-/
import Derived.ChangeKeysEq
import Derived.Test.YtoheddpnnjldgaaMBellowMirrored1
import Derived.Test.YtoheddpnnjldgaaMBellowMirrored2
import Derived.Test.YtoheddpnnjldgaaMBellowMirrored3
import Derived.Test.YtoheddpnnjldgaaMBellowMirrored4
import Derived.Test.YtoheddpnnjldgaaMBellowMirrored5
set_option maxRecDepth 100000
set_option maxHeartbeats 1000000
set_option linter.unusedSimpArgs false
set_option linter.unusedVariables false
set_option linter.unusedSectionVars false
namespace Go.Proofs.Ytoheddpnnjldgaa
open Go.RowKit
section
open Go.RowKit Go.Proofs.Ytoheddpnnjldgaa.Bq
theorem eqT156 {x y:Operand} {a0 a1 a2 a3 b0 b1 b2 b3:Int} {w:World}:(do eqGuard .eql 156 x y (.agg #[.int .u64 a0,.int .u64 a1,.int .u64 a2,.int .u64 a3]) (.agg #[.int .u64 b0,.int .u64 b1,.int .u64 b2,.int .u64 b3]);binOp .eql 156 (.agg #[.int .u64 a0,.int .u64 a1,.int .u64 a2,.int .u64 a3]) (.agg #[.int .u64 b0,.int .u64 b1,.int .u64 b2,.int .u64 b3]):Sem Value).run Try.prog w=.ok (.bool (decide (a0=b0) && (decide (a1=b1) && (decide (a2=b2) && decide (a3=b3))))) w:=by
 go_simp
 obtain ⟨i,hi⟩:=Option.isSome_iff_exists.1 (by kernel_rfl:(Try.prog.info? 96).isSome=true)
 rw [show (10000:Nat)=9999+1 from rfl,run_equalIn_array w 9999 _ _ Try.underlying156 hi,show Try.prog.cellsOf 96=1 by kernel_rfl,show List.range 4=[0,1,2,3] from rfl]
 simp only [Op.eqItems]
 go_simp
 (repeat' split) <;> simp_all
def asC (s:As):List Value:=[.int .u64 s.a,.int .u64 s.b,.int .u64 s.c,.int .u64 s.d]
theorem asAt {w:World} {g:Nat} {s:As} {k:Nat} (h:Bk w g #[.int .u64 s.a,.int .u64 s.b,.int .u64 s.c,.int .u64 s.d]) (hk:k < 4):w.cell? ((⟨g,0,none⟩:Addr).add (k * 1))=some (.int .u64 (s.get k)):=by
 have:=h.cell k
 match k,hk with
 | 0,_=>exact this
 | 1,_=>exact this
 | 2,_=>exact this
 | 3,_=>exact this
section
variable {P:Program} {op:Oper} {a:Act} {K:Act→World→Prop} {Q:Exit→Act→World→Prop} {w0 w:World} {ex:Nat→Prop} {L L':List (Nat×BA)} {n:Nat} {E:List (Nat×Value)} {df:List Deferred}
theorem ow_stA {ty : TypeId} {x y : Operand} {g k : Nat} {s : As} {v : Int} (M : Mem w0 ex w L) (T : TmD df a n E) (ho : op.op = .store ty x y) (hd : op.dst = none) (hx : a.eval x = .pointer (some ((⟨g, 0, none⟩ : Addr).add (k * 1)))) (hk : k < 4) (hy : a.eval y = .int .u64 v)
   (hu:Upd L g (.cells (asC s)) (.cells (asC (s.put k v))) L') (hi:(P.info? ty).map (·.size)=some 1) (h:∀ w' a',Mem w0 ex w' L'→TmD df a' n E→K a' w'):op.wp P a w K Q:=by
 match k,hk,hx,hu with
 | 0,_,hx,hu=>exact Zos (o:=0) M T ho hd hx hy rfl hu rfl (by simp) rfl hi h
 | 1,_,hx,hu=>exact Zos (o:=1) M T ho hd hx hy rfl hu rfl (by simp) rfl hi h
 | 2,_,hx,hu=>exact Zos (o:=2) M T ho hd hx hy rfl hu rfl (by simp) rfl hi h
 | 3,_,hx,hu=>exact Zos (o:=3) M T ho hd hx hy rfl hu rfl (by simp) rfl hi h
end
def nxB (full way s:Int) (q:Nt) (S:Int→Bool) (y:Int):Bool:=(decide (0≤y) && decide (y≤full)) && (upI 0 full).any fun a=>S a && (upI q.lo q.hi).any fun d=>decide (aft way a (q.sec * (d+s))=y)
def canF (full s:Int):(Int→Bool)→List Nt→List Int→Bool
 | S,q::p,w::g=>(upI 0 full).any (nxB full w s q S) && canF full s (nxB full w s q S) p g
 | _,_,_=>true
theorem canF_nil (full s:Int) (S:Int→Bool) (g:List Int):canF full s S [] g=true:=by unfold canF;rfl
def canB (b:Bw) (p:List Nt) (g:List Int) (s:Int):Bool:=canF b.full s (fun m=>decide (b.a0≤m) && decide (m≤b.a1)) p g
def hopB (b:Bw) (p:List Nt) (ss:List Int) (g:List Int):Bool:=ss.any (canB b p g)
structure RepS (x:As) (full:Int) (S:Int→Bool):Prop where
 ok:x.ok
 eq:∀ m:Int,0≤m→m < 256→x.has m=S m
 bd:∀ m,S m=true→0≤m∧m≤full
def Src (way s:Int) (q:Nt) (S:Int→Bool) (a m:Int):Prop:=∃ a',(0≤a'∧a' < a)∧S a'=true∧∃ d,(q.lo≤d∧d≤q.hi)∧aft way a' (q.sec * (d+s))=m
def SrcD (way s:Int) (q:Nt) (S:Int→Bool) (a d m:Int):Prop:=Src way s q S a m∨S a=true∧∃ e,(q.lo≤e∧e < d)∧aft way a (q.sec * (e+s))=m
def Rep4 (x:As) (full:Int) (R:Int→Prop):Prop:=x.ok∧∀ m:Int,0≤m→m < 256→(x.has m=true↔(0≤m∧m≤full)∧R m)
section
variable {x:As} {full way s a d:Int} {q:Nt} {S:Int→Bool}
theorem Rep4.zero:Rep4 ⟨0,0,0,0⟩ full (Src way s q S 0):=by
 refine ⟨As.zero_ok,fun m k0 _=>?_⟩
 rw [As.has_zero k0]
 constructor
 · intro h;cases h
 · rintro ⟨-,a',h,-⟩;omega
theorem Rep4.iff {R R':Int→Prop} (h:Rep4 x full R) (hr:∀ m,0≤m∧m≤full→(R m↔R' m)):Rep4 x full R' :=
 ⟨h.1,fun m k0 k1=>(h.2 m k0 k1).trans (and_congr_right fun hm=>hr m hm)⟩
theorem Rep4.start (h:Rep4 x full (Src way s q S a)):Rep4 x full (SrcD way s q S a q.lo):=by
 refine h.iff fun m hm=>⟨.inl,fun h=>?_⟩
 rcases h with h | ⟨-,e,h,-⟩
 · exact h
 · omega
theorem Rep4.stop_no (h:Rep4 x full (SrcD way s q S a d)) (hs:S a=false):Rep4 x full (Src way s q S (a+1)):=by
 refine h.iff fun m hm=>⟨fun h=>?_,fun h=>?_⟩
 ·rcases h with ⟨a',h,h2⟩ | ⟨h,-⟩
  ·exact ⟨a',by omega,h2⟩
  ·rw [hs] at h;cases h
 ·obtain ⟨a',h1,h2,h3⟩:=h
  rcases (by omega:a' < a∨a'=a) with h4 | rfl
  ·exact .inl ⟨a',by omega,h2,h3⟩
  ·rw [hs] at h2;cases h2
theorem Rep4.stop_all (h:Rep4 x full (SrcD way s q S a d)) (h0:0≤a) (hd:d=q.hi+1):Rep4 x full (Src way s q S (a+1)):=by
 refine h.iff fun m hm=>⟨fun h=>?_,fun h=>?_⟩
 ·rcases h with ⟨a',h,h2⟩ | ⟨h,e,h2,h3⟩
  ·exact ⟨a',by omega,h2⟩
  ·exact ⟨a,by omega,h,e,by omega,h3⟩
 ·obtain ⟨a',h1,h2,e,h3,h5⟩:=h
  rcases (by omega:a' < a∨a'=a) with h4 | rfl
  ·exact .inl ⟨a',by omega,h2,e,h3,h5⟩
  ·exact .inr ⟨h2,e,by omega,h5⟩
theorem Rep4.miss (h:Rep4 x full (SrcD way s q S a d)) (hy : ¬ (0≤aft way a (q.sec * (d+s))∧aft way a (q.sec * (d+s))≤full)):Rep4 x full (SrcD way s q S a (d+1)):=by
 refine h.iff fun m hm=>⟨fun h=>?_,fun h=>?_⟩
 ·rcases h with h | ⟨h,e,h2,h3⟩
  ·exact .inl h
  ·exact .inr ⟨h,e,by omega,h3⟩
 ·rcases h with h | ⟨h,e,h2,h3⟩
  ·exact .inl h
  ·rcases (by omega:e < d∨e=d) with h4 | rfl
   ·exact .inr ⟨h,e,by omega,h3⟩
   ·exact absurd (h3 ▸ hm) hy
theorem Rep4.hit (h:Rep4 x full (SrcD way s q S a d)) (hS:S a=true) (hl:q.lo≤d) (hf:full < 256) (hy:0≤aft way a (q.sec * (d+s))∧aft way a (q.sec * (d+s))≤full):Rep4 (x.add (aft way a (q.sec * (d+s)))) full (SrcD way s q S a (d+1)):=by
 refine ⟨As.add_ok h.1 hy.1,fun m k0 k1=>?_⟩
 rw [As.has_add h.1 hy.1 (by omega) k0 k1,h.2 m k0 k1]
 constructor
 ·rintro (rfl | ⟨hm,h⟩)
  ·exact ⟨hy,.inr ⟨hS,d,by omega,Z⟩⟩
  ·refine ⟨hm,?_⟩
   rcases h with h | ⟨h,e,h2,h3⟩
   ·exact .inl h
   ·exact .inr ⟨h,e,by omega,h3⟩
 ·rintro ⟨hm,h⟩
  rcases h with h | ⟨h,e,h2,h3⟩
  ·exact .inr ⟨hm,.inl h⟩
  ·rcases (by omega:e < d∨e=d) with h4 | rfl
   ·exact .inr ⟨hm,.inr ⟨h,e,by omega,h3⟩⟩
   ·exact .inl h3.symm
theorem Rep4.done (h:Rep4 x full (Src way s q S (full+1))):RepS x full (nxB full way s q S):=by
 refine ⟨h.1,fun m k0 k1=>?_,fun m hm=>?_⟩
 ·rw [Bool.eq_iff_iff,h.2 m k0 k1]
  unfold nxB Src
  simp only [Bool.and_eq_true,decide_eq_true_eq,List.any_eq_true,upI_mem]
  refine and_congr_right fun _=>⟨fun ⟨a',h1,h2,e,h3,h4⟩=>⟨a',by omega,h2,e,h3,h4⟩,fun ⟨a',h1,h2,e,h3,h4⟩=>⟨a',by omega,h2,e,h3,h4⟩⟩
 ·unfold nxB at hm
  simp only [Bool.and_eq_true,decide_eq_true_eq] at hm
  exact hm.1
theorem RepS.none (h:RepS x full S) (hf:full < 256) (ha:x.a=0) (hb:x.b=0) (hc:x.c=0) (hd:x.d=0):(upI 0 full).any S=false:=by
 rw [List.any_eq_false]
 intro m hm
 have:=upI_mem.1 hm
 rw [← h.eq m (by omega) (by omega)]
 have e:x=⟨0,0,0,0⟩:=by cases x;simp_all
 rw [e,As.has_zero (by omega)]
 simp
theorem RepS.some (h:RepS x full S) (hn : ¬ (x.a=0∧x.b=0∧x.c=0∧x.d=0)):(upI 0 full).any S=true:=by
 rcases Zx9 ((upI 0 full).any S) with h1 | h1
 ·exact h1
 ·refine absurd (As.zero_of h.ok fun m k0 k1=>?_) hn
  rw [h.eq m k0 k1]
  rcases Zx9 (S m) with h2 | h2
  ·have:=List.any_eq_false.1 h1 m (upI_mem.2 (h.bd m h2))
   exact absurd h2 this
  ·exact h2
end
theorem with_any (s:As) (n:Int)  (w:World) (h0:0≤n) (h1:n < 256)  :
  Calls Try.prog 147 #[.agg #[.int .u64 s.a,.int .u64 s.b,.int .u64 s.c,.int .u64 s.d],Zi n] w fun e w'=>e=.returned (.agg #[.int .u64 ((s.add n).a),.int .u64 ((s.add n).b),.int .u64 ((s.add n).c),.int .u64 ((s.add n).d)])∧Below w.heap.size w w':=by
 have hq64:=td64 h0
 have hr64:=tm64 h0
 refine Zpx noEx Try.func147 Z 15 Z [.agg #[.int .u64 s.a,.int .u64 s.b,.int .u64 s.c,.int .u64 s.d],Zi n] Z Z (Mem.init w _) ?_
 intro ac wc T M
 refine Zsr ?_
 refine Zl2 ?_
 refine Zob M T Z Z Z Z (T.e 0 Z) Z ?_;clear M T;intro g1 wc ac M T
 refine Zl2 ?_
 refine Zoa M T Z Z Z Z ?_;clear M T;intro g2 wc ac M T
 replace T:=T.pick [0,1,3] rfl
 refine Zln ?_
 refine wp_seq ?_
 refine Zgs M (M.perm [] Z Z) 10 (by kernel_rfl) Z (by kernel_rfl) ?_
 clear M;intro wc M
 refine g_addG 9 M ?_
 refine Zgq T 0 1 Z (fun _=>(Zrm Z (T.e 2 Z))) ?_;intro ac T
 refine Zgq T 1 3 Z (fun _=>(rn_quo Z (T.e 0 Z) evc (by omega) (by omega))) ?_;intro ac T
 refine Zgq (v:=(.pointer (some ((⟨g1,0,none⟩:Addr).add ((n.toNat / 64) * 1))))) T 2 7 Z (fun _=>(rn_indexG (size:=1) (n.toNat / 64) Z (T.e 3 Z) (T.e 0 Z) (td64 h0) Try.underlying156 (by kernel_rfl) (by omega))) ?_;intro ac T
 refine gq (v:=(.int .u64 (s.get (n.toNat / 64)))) T 3 15 Z (fun B w' hD hl hS=>(rn_cell (asAt (s:=s) (Mem.nth (show Mem w noEx w' _ from ((MA.lft hS) (hD.wait (i:=3) (m:=9) (by kernel_rfl) hl))) 1 Z) (by omega)) Z (T.e 0 Z))) ?_;intro ac T
 refine Zgq T 4 31 Z (fun _=>(Zrm Z (T.e 6 Z))) ?_;intro ac T
 refine Zgq T 5 63 Z (fun _=>(rn_rem Z (T.e 0 Z) evc (by omega))) ?_;intro ac T
 refine Zgq T 6 127 Z (fun _=>(rn_shlU Z evc (T.e 0 Z) (by omega))) ?_;intro ac T
 refine Zgq T 7 255 Z (fun _=>(rn_orU Z (T.e 3 Z) (T.e 0 Z))) ?_;intro ac T
 refine Zgq (v:=(.pointer (some ((⟨g1,0,none⟩:Addr).add ((n.toNat / 64) * 1))))) T 8 511 Z (fun _=>(rn_indexG (size:=1) (n.toNat / 64) Z (T.e 9 Z) (T.e 6 Z) (td64 h0) Try.underlying156 (by kernel_rfl) (by omega))) ?_;intro ac T
 refine gw 9 1023 ?_;intro K hK
 refine ow_stA M T Z Z (T.e 0 Z) (by omega) (T.e 1 Z) (.tail .head) (by kernel_rfl) ?_;clear M T;intro wc ac M T
 replace M:Mem w noEx wc [(g2,.cells [.int .u64 0,.int .u64 0,.int .u64 0,.int .u64 0]),(g1,.cells [.int .u64 ((s.add n).a),.int .u64 ((s.add n).b),.int .u64 ((s.add n).c),.int .u64 ((s.add n).d)])]:=M
 refine Zso hK _ _ (MA.mk (fun h=>(no_of (by kernel_rfl) h).elim) (M.mask [false,false] Z)) ?_;clear hK K
 refine Zgd (by kernel_rfl) ?_
 replace T:=T.pick [9,10] rfl
 refine nm_then ?_
 refine Zsr ?_
 refine lq T (Zrr (Mem.nth M 1 Z) Z (T.e 1 Z) Z) ?_;intro ac T
 refine Zl2 ?_
 refine Zot M T Z Z (T.e 1 Z) (T.e 0 Z) Z .head Z Z ?_;clear M T;intro wc ac M T
 refine wpList_nil ?_
 replace T:=T.pick [1] rfl
 replace M:=M.mask [true,false] rfl
 refine Znr ?_
 refine rt_c M T Z (T.e 0 Z) (Zne (i:=0) Z) Z ?_
 exact ⟨rfl,M.below⟩
theorem has_any (s:As) (n:Int)  (w:World) (h0:0≤n) (h1:n < 256)  :
  Calls Try.prog 148 #[.agg #[.int .u64 s.a,.int .u64 s.b,.int .u64 s.c,.int .u64 s.d],Zi n] w fun e w'=>e=.returned (.bool (s.has n))∧Below w.heap.size w w':=by
 have hq64:=td64 h0
 have hr64:=tm64 h0
 refine Zpx noEx Try.func148 Z 14 Z [.agg #[.int .u64 s.a,.int .u64 s.b,.int .u64 s.c,.int .u64 s.d],Zi n] Z Z (Mem.init w _) ?_
 intro ac wc T M
 refine Zsr ?_
 refine Zl2 ?_
 refine Zob M T Z Z Z Z (T.e 0 Z) Z ?_;clear M T;intro g1 wc ac M T
 refine lq T (Zra Z evc) ?_;intro ac T
 replace T:=T.pick [1,3] rfl
 refine Zln ?_
 refine Zsr ?_
 refine Zg8 (v3:=(.pointer (some ((⟨g1,0,none⟩:Addr).add ((n.toNat / 64) * 1))))) (v4:=(.int .u64 (s.get (n.toNat / 64)))) T (Zq (Zrm Z (T.e 1 Z))) Z (fun _ T=>Zq (rn_quo Z (T.e 0 Z) evc (by omega) (by omega))) Z (fun _ T=>Zq (rn_indexG (size:=1) (n.toNat / 64) Z (T.e 2 Z) (T.e 0 Z) (td64 h0) Try.underlying156 (by kernel_rfl) (by omega))) Z (fun _ T=>Zq (rn_cell (asAt (s:=s) (Mem.nth M 0 Z) (by omega)) Z (T.e 0 Z))) Z (Zm 5 Z Z) Z (fun _ T=>Zq (rn_rem Z (T.e 0 Z) evc (by omega))) Z (fun _ T=>Zq (rn_shrU Z (T.e 2 Z) (T.e 0 Z) (by omega))) Z (fun _ T=>Zq (rn_andU Z (T.e 0 Z) evc)) Z ?_;intro ac T
 refine Zg2 T (Zq (rn_eql Z (T.e 0 Z) evc)) Z (Za 0 Z Z) Z ?_;intro ac T
 refine wpList_nil ?_
 replace T:=T.pick [0] rfl
 replace M:=M.mask [false] rfl
 refine Znr ?_
 refine rt_1 T Z (T.e 0 Z) ?_
 exact ⟨rfl,M.below⟩
set_option maxHeartbeats 4000000 in
theorem can_any (b:Bw) (A:Option Addr) (c:Nat) (D:Option Addr) (d:Nat) (p:List Nt) (P:Option Addr) (pc:Nat) (s:Int) (G:Option Addr) (n:Nat) (g:List Int)  (w:World) (hP9:Rd w w.heap.size 4 P p.length (ntc p)) (hG:Rd w w.heap.size 1 G g.length (ic g)) (hgp:NtGood p) (hgb:BwAir b) (hs:0≤s∧s≤20) (hgl:g.length=p.length)  :
   Calls Try.prog 137 #[.agg #[Zi b.full,Zi b.a0,Zi b.a1,.slice A b.cs.length c,.slice D b.ts.length d,.slice P p.length pc,Zi s],.slice G g.length n] w fun e w'=>e=.returned (.bool (canB b p g s))∧Below w.heap.size w w':=by
 obtain ⟨bP,oP,SP⟩:=Sp.old hP9
 obtain ⟨bG,oG,SG⟩:=Sp.old hG
 have hp6:=hgp.n6
 refine Zpx noEx Try.func137 Z 92 Z [.agg #[Zi b.full,Zi b.a0,Zi b.a1,.slice A b.cs.length c,.slice D b.ts.length d,.slice P p.length pc,Zi s],.slice G g.length n] Z Z (Mem.init w _) ?_
 intro ac wc T M
 refine Zsr ?_
 refine Zl2 ?_
 refine Zob M T Z Z Z Z (T.e 0 Z) Z ?_;clear M T;intro g1 wc ac M T
 refine lq T (Zra Z evc) ?_;intro ac T
 replace T:=T.pick [1,3] rfl
 refine Zln ?_
 refine Zsr ?_
 refine Zl2 ?_
 refine Zoa M T Z Z Z Z ?_;clear M T;intro g2 wc ac M T
 refine Zln ?_
 refine wp_seq ?_
 refine Zsr ?_
 refine Zg5 (v1:=(Zj g1)) (v2:=(.pointer (some ⟨g1,1,none⟩))) (v3:=(.pointer (some ⟨g1,1,none⟩))) T (Zq (Zrg 0 Z (T.e 1 Z))) Z (Zf 1 0 Z Z) Z (Zf 0 0 Z Z) Z (Zo M 1 0 Z Z Z Z) Z (Za 0 Z Z) Z ?_;intro ac T
 replace T:=T.pick [0,5,6,7] rfl
 refine Zln ?_
 refine wp_block ?_
 have hgb1:=hgb.full
 have hgb2:=hgb.air
 have han:airN b=(b.a1 - b.a0+1).toNat:=rfl
 rw [show b.a0=b.a0+((0:Nat):Int) by omega] at T
 refine wp_loop_n (fun mz ac wc=>∃ (j:Nat) (s9:As),mz=airN b - j∧(j≤airN b)∧s9.ok∧(∀ m:Int,0≤m→m < 256→(s9.has m=true↔b.a0≤m∧m < b.a0+(j:Int)))∧Tm ac 92 [(1,.slice G g.length n),(2,Zj g1),(5,Zj g2),(6,Zi (b.a0+(j:Int)))]∧Mem w noEx wc [(g2,.cells [.int .u64 s9.a,.int .u64 s9.b,.int .u64 s9.c,.int .u64 s9.d]),(g1,.cells [Zi b.full,Zi b.a0,Zi b.a1,.slice A b.cs.length c,.slice D b.ts.length d,.slice P p.length pc,Zi s])]) ?_ ?_
 ·exact ⟨_,0,(⟨0,0,0,0⟩:As),Z,(Nat.zero_le _),As.zero_ok,(fun m k0 _=>by rw [As.has_zero k0];constructor <;> intro h9 <;> first | (cases h9;done) | omega),T.pick [3,2,1,0] Z,M.mask [true,true] Z⟩
 clear T M
 rintro mz ac wc ⟨j,s9,hmm1,hj,hok,HX,T,M⟩
 refine wp_seq ?_
 refine Zsr ?_
 refine Zg6 (v2:=(Zj g1)) (v3:=(.pointer (some ⟨g1,1,none⟩))) (v4:=(.pointer (some ⟨g1,2,none⟩))) T (Zq (Zrm Z (T.e 3 Z))) Z (Zf 0 2 Z Z) Z (Zf 1 0 Z Z) Z (Zf 1 0 Z Z) Z (Zo M 1 0 Z Z Z Z) Z (fun _ T=>Zq (rn_leq Z (T.e 4 Z) (T.e 0 Z))) Z ?_;intro ac T
 replace T:=T.pick [0,6,7,8,9] rfl
 refine Zln ?_
 refine wp_if (T.e 0 Z) ?_ ?_
 ·intro h1
  refine Zsk ?_
  refine wp_seq ?_
  refine wp_block ?_
  refine wp_region_lit ?_
  refine Zg2 T (Zq (Zrr (Mem.nth M 0 Z) Z (T.e 3 Z) Z)) Z (Zm 5 Z Z) Z ?_;intro ac T
  refine Zl2 ?_
  refine Zod T Z Z Z Z evf (.cons (T.e 1 Z) (.cons (T.e 0 Z) .nil)) Try.func147 Z Z ?_
  refine Calls.mono (with_any s9 (b.a0+(j:Int)) _ (by omega) (by omega)) ?_
  clear T;rintro e wc ⟨rfl,hb⟩ ac T
  replace M:=M.call hb;clear hb
  refine Zl2 ?_
  refine Zot M T Z Z (T.e 6 Z) (T.e 0 Z) Z .head Z Z ?_;clear M T;intro wc ac M T
  refine wpList_nil ?_
  replace T:=T.pick [4,5,6,7] rfl
  refine Znb ?_
  refine nm_then ?_
  refine wp_region_lit ?_
  refine Zg2 T (Zq (Zrm Z (T.e 3 Z))) Z (fun _ T=>Zq (rn_add Z (T.e 0 Z) evc (by omega))) Z ?_;intro ac T
  refine l_q (v:=(Zi ((b.a0+(j:Int))+1))) (T.pick [0,1,2,3,4] Z) Z Z Z Z (Zra Z (T.e 0 Z)) ?_;intro ac T
  replace T:=T.pick [0,3,4,5] rfl
  refine Zln ?_
  rw [show b.a0+(j:Int)+1=b.a0+((j+1:Nat):Int) by omega] at T
  exact ⟨_,by omega,j+1,(s9.add (b.a0+(j:Int))),Z,(by omega),(As.add_ok hok (by omega)),(fun m k0 k1=>by rw [As.has_add hok (by omega) (by omega) k0 k1,HX m k0 k1];omega),T.pick [1,2,3,0] Z,M.mask [true,true] Z⟩
 intro h1
 obtain rfl:j=airN b:=by omega
 refine wp_exit ?_
 refine Zet ?_
 refine Zet ?_
 refine ex_hit ?_
 refine Zns ?_
 refine Zsr ?_
 refine Zg4 (v1:=(.pointer (some ⟨g1,5,none⟩))) T (Zq (Zrg 5 Z (T.e 2 Z))) Z (Zo M 1 0 Z Z Z Z) Z (Zl Try.underlying44 0 Z Z) Z (fun _ T=>Zq (Zrm Z evc)) Z ?_;intro ac T
 replace T:=T.pick [0,1,2,5,6,7] rfl
 refine Zln ?_
 refine wp_block ?_
 refine wp_loop_n (fun mz ac wc=>∃ (k:Nat) (s8:As) (S:Int→Bool),mz=p.length - k∧(k≤p.length)∧(RepS s8 b.full S)∧(canB b p g s=canF b.full s S (p.drop k) (g.drop k))∧Tm ac 92 [(1,.slice G g.length n),(2,Zj g1),(5,Zj g2),(31,.slice P p.length pc),(32,Zi ((p.length:Nat):Int)),(33,Zi (k:Int))]∧Mem w noEx wc [(g2,.cells [.int .u64 s8.a,.int .u64 s8.b,.int .u64 s8.c,.int .u64 s8.d]),(g1,.cells [Zi b.full,Zi b.a0,Zi b.a1,.slice A b.cs.length c,.slice D b.ts.length d,.slice P p.length pc,Zi s])]) ?_ ?_
 ·exact ⟨_,0,s9,(fun m=>decide (b.a0≤m) && decide (m≤b.a1)),Z,(Nat.zero_le _),⟨hok,fun m k0 k1=>by rw [Bool.eq_iff_iff,HX m k0 k1,Bool.and_eq_true,decide_eq_true_eq,decide_eq_true_eq];omega,fun m hm=>by rw [Bool.and_eq_true,decide_eq_true_eq,decide_eq_true_eq] at hm;omega⟩,Z,T.pick [3,4,5,2,1,0] Z,M.mask [true,true] Z⟩
 clear T M
 rintro mz ac wc ⟨k,s8,S,hmm2,hk,hR,H,T,M⟩
 refine Zsr ?_
 refine lq T (rn_lss Z (T.e 5 Z) (T.e 4 Z)) ?_;intro ac T
 refine Zln ?_
 refine wp_seq ?_
 refine wp_if (T.e 0 Z) ?_ ?_
 ·intro h2
  obtain ⟨q,hkq,hd⟩:=ntc_next (l:=p) (k:=k) (by omega)
  obtain ⟨wy,hky,hd2⟩:=ic_next (l:=g) (k:=k) (by omega)
  rw [hd,hd2,canF] at H
  have hgq:=hgp.ok q (List.mem_of_getElem? hkq)
  refine Zsk ?_
  refine wp_seq ?_
  refine wp_block ?_
  refine Zsr ?_
  refine Zg3 (v3:=(.agg #[Zi q.sec,Zi q.lo,Zi q.hi,.bool q.rest])) T (Zq (Zrm Z (T.e 6 Z))) Z (fun _ T=>Zq (Zri (size:=4) k Z (T.e 5 Z) (T.e 7 Z) ⟨_,Try.underlying44,by kernel_rfl⟩ Z (by omega) (SP.at0 (by omega)))) Z (fun _ T=>Zq (rn_rowat (Sp.ntcR SP M (Zz9 _) hkq) Z (T.e 0 Z) Z)) Z ?_;intro ac T
  refine Zl2 ?_
  refine Zoa M T Z Z Z Z ?_;clear M T;intro g3 wc ac M T
  refine lq T (Zra Z (T.e 3 Z)) ?_;intro ac T
  refine Zl2 ?_
  refine Zot M T Z Z (T.e 1 Z) (T.e 2 Z) Z .head Z Z ?_;clear M T;intro wc ac M T
  replace T:=T.pick [0,1,6,7,8,9,10,11] rfl
  refine Zln ?_
  refine Zsr ?_
  refine Zg4 T (Zq (Zrm Z (T.e 2 Z))) Z (Zm 1 Z Z) Z (fun _ T=>Zq (Zri (size:=1) k Z (T.e 1 Z) (T.e 0 Z) ⟨_,Try.underlying28,by kernel_rfl⟩ Z (by omega) (SG.at0 (by omega)))) Z (fun _ T=>Zq (rn_cell (Sp.ic0 SG M (Zz9 _) hky) Z (T.e 0 Z))) Z ?_;intro ac T
  refine Zl2 ?_
  refine Zod T Z Z Z Z evf (.cons (T.e 0 Z) .nil) Try.func80 Z Z ?_
  refine Calls.mono (works_fn wy _) ?_
  clear T;rintro e wc ⟨FAu2,FRu2,rfl,hfau2,hfru2,hb⟩ ac T
  replace M:=M.call hb;clear hb
  obtain ⟨fau2,ha1u2,ha2u2,ha3u2,ha4u2⟩:=hfau2
  obtain ⟨fru2,hr1u2,hr2u2,hr3u2,hr4u2⟩:=hfru2
  refine Zg2 (v1:=(.func (.func FAu2) #[] [].toArray)) T (Zq (rn_field Z (T.e 0 Z) (by kernel_rfl))) Z (Za 0 Z Z) Z ?_;intro ac T
  replace T:=T.pick [0,8,9,10,11,12,13,14] rfl
  refine Zln ?_
  refine Zsr ?_
  refine Zl2 ?_
  refine Zoa M T Z Z Z Z ?_;clear M T;intro g4 wc ac M T
  refine Zln ?_
  refine Zsr ?_
  refine Zg3 (v2:=(.func (.func 148) #[.agg #[.int .u64 s8.a,.int .u64 s8.b,.int .u64 s8.c,.int .u64 s8.d]] #[])) T (Zq (Zrr (Mem.nth M 2 Z) Z (T.e 5 Z) Z)) Z (fun _ T=>Zq (rn_makeFunc Z (.cons (T.e 0 Z) .nil) .nil)) Z (Za 0 Z Z) Z ?_;intro ac T
  replace T:=T.pick [0,3,4,5,6,7,8,9,10,11] rfl
  refine Zln ?_
  refine wp_seq ?_
  refine Zsr ?_
  refine Zg5 (v1:=(Zj g1)) (v2:=(Zj g1)) T (Zq (Zrg 0 Z (T.e 5 Z))) Z (Zf 0 0 Z Z) Z (Zo M 3 0 Z Z Z Z) Z (fun _ T=>Zq (rn_add Z (T.e 0 Z) evc (by omega))) Z (fun _ T=>Zq (Zrm Z evc)) Z ?_;intro ac T
  replace T:=T.pick [0,1,5,6,7,8,9,10,11,12,13,14] rfl
  refine Zln ?_
  refine wp_block ?_
  refine wp_loop_n (fun mz ac wc=>∃ (a:Nat) (x:As),mz=(b.full+1 - (a:Int)).toNat∧((a:Int)≤b.full+1)∧(Rep4 x b.full (Src wy s q S (a:Int)))∧Tm ac 92 [(1,.slice G g.length n),(2,Zj g1),(5,Zj g2),(8,Zj g3),(9,.func (.func FAu2) #[] [].toArray),(10,Zj g4),(11,.func (.func 148) #[.agg #[.int .u64 s8.a,.int .u64 s8.b,.int .u64 s8.c,.int .u64 s8.d]] #[]),(31,.slice P p.length pc),(32,Zi ((p.length:Nat):Int)),(33,Zi (k:Int)),(49,Zi (b.full+1)),(50,Zi (a:Int))]∧Mem w noEx wc [(g4,.cells [.int .u64 x.a,.int .u64 x.b,.int .u64 x.c,.int .u64 x.d]),(g3,.cells [Zi q.sec,Zi q.lo,Zi q.hi,.bool q.rest]),(g2,.cells [.int .u64 s8.a,.int .u64 s8.b,.int .u64 s8.c,.int .u64 s8.d]),(g1,.cells [Zi b.full,Zi b.a0,Zi b.a1,.slice A b.cs.length c,.slice D b.ts.length d,.slice P p.length pc,Zi s])]) ?_ ?_
  ·exact ⟨_,0,(⟨0,0,0,0⟩:As),Z,(by omega),Rep4.zero,T.pick [6,7,8,5,4,3,2,9,10,11,1,0] Z,M.mask [true,true,true,true] Z⟩
  clear T M
  rintro mz ac wc ⟨a,x,hmm3,ha,hX,T,M⟩
  refine Zsr ?_
  refine lq T (rn_lss Z (T.e 11 Z) (T.e 10 Z)) ?_;intro ac T
  refine Zln ?_
  refine wp_seq ?_
  refine wp_if (T.e 0 Z) ?_ ?_
  ·intro h3
   refine Zsk ?_
   refine wp_seq ?_
   refine wp_block ?_
   refine Zsr ?_
   refine Zg2 T (Zq (Zrm Z (T.e 12 Z))) Z (Za 0 Z Z) Z ?_;intro ac T
   replace T:=T.pick [0,3,4,5,6,7,8,9,10,11,12,13,14] rfl
   refine Zln ?_
   refine Zsr ?_
   refine Zg4 (v1:=(.pointer (some ⟨g3,1,none⟩))) (v2:=(.pointer (some ⟨g3,1,none⟩))) T (Zq (Zrg 1 Z (T.e 4 Z))) Z (Zf 0 0 Z Z) Z (Zo M 1 0 Z Z Z Z) Z (Za 0 Z Z) Z ?_;intro ac T
   replace T:=T.pick [0,4,5,6,7,8,9,10,11,12,13,14,15,16] rfl
   refine Zln ?_
   refine wp_block ?_
   rw [show q.lo=q.lo+((0:Nat):Int) by omega] at T
   refine wp_loop_n (fun mz ac wc=>∃ (dn:Nat) (x4:As),mz=(q.hi+1 - (q.lo+(dn:Int))).toNat∧(q.lo+(dn:Int)≤q.hi+1)∧(Rep4 x4 b.full (SrcD wy s q S (a:Int) (q.lo+(dn:Int))))∧Tm ac 92 [(1,.slice G g.length n),(2,Zj g1),(5,Zj g2),(8,Zj g3),(9,.func (.func FAu2) #[] [].toArray),(10,Zj g4),(11,.func (.func 148) #[.agg #[.int .u64 s8.a,.int .u64 s8.b,.int .u64 s8.c,.int .u64 s8.d]] #[]),(12,Zi (a:Int)),(13,Zi (q.lo+(dn:Int))),(31,.slice P p.length pc),(32,Zi ((p.length:Nat):Int)),(33,Zi (k:Int)),(49,Zi (b.full+1)),(50,Zi (a:Int))]∧Mem w noEx wc [(g4,.cells [.int .u64 x4.a,.int .u64 x4.b,.int .u64 x4.c,.int .u64 x4.d]),(g3,.cells [Zi q.sec,Zi q.lo,Zi q.hi,.bool q.rest]),(g2,.cells [.int .u64 s8.a,.int .u64 s8.b,.int .u64 s8.c,.int .u64 s8.d]),(g1,.cells [Zi b.full,Zi b.a0,Zi b.a1,.slice A b.cs.length c,.slice D b.ts.length d,.slice P p.length pc,Zi s])]) ?_ ?_
   ·exact ⟨_,0,x,Z,(by omega),(by rw [show q.lo+((0:Nat):Int)=q.lo by omega];exact hX.start),T.pick [2,3,4,5,6,7,8,1,0,9,10,11,12,13] Z,M.mask [true,true,true,true] Z⟩
   clear T M
   rintro mz ac wc ⟨dn,x4,hmm4,hd4,hX4,T,M⟩
   refine wp_seq ?_
   refine cut_seq (fun ac wc=>Tm ac 92 [(1,.slice G g.length n),(2,Zj g1),(5,Zj g2),(8,Zj g3),(9,.func (.func FAu2) #[] [].toArray),(10,Zj g4),(11,.func (.func 148) #[.agg #[.int .u64 s8.a,.int .u64 s8.b,.int .u64 s8.c,.int .u64 s8.d]] #[]),(12,Zi (a:Int)),(13,Zi (q.lo+(dn:Int))),(31,.slice P p.length pc),(32,Zi ((p.length:Nat):Int)),(33,Zi (k:Int)),(49,Zi (b.full+1)),(50,Zi (a:Int)),(65,.bool ((s8.has (a:Int)) && (decide ((q.lo+(dn:Int))≤q.hi))))]∧Mem w noEx wc [(g4,.cells [.int .u64 x4.a,.int .u64 x4.b,.int .u64 x4.c,.int .u64 x4.d]),(g3,.cells [Zi q.sec,Zi q.lo,Zi q.hi,.bool q.rest]),(g2,.cells [.int .u64 s8.a,.int .u64 s8.b,.int .u64 s8.c,.int .u64 s8.d]),(g1,.cells [Zi b.full,Zi b.a0,Zi b.a1,.slice A b.cs.length c,.slice D b.ts.length d,.slice P p.length pc,Zi s])]) ?_ ?_
   ·refine wp_region_lit ?_
    refine Zg2 T (Zq (Zrm Z (T.e 6 Z))) Z (Zm 8 Z Z) Z ?_;intro ac T
    refine Zl2 ?_
    refine Zoc (first:=[.agg #[.int .u64 s8.a,.int .u64 s8.b,.int .u64 s8.c,.int .u64 s8.d]]) (cap:=[]) T Z Z Z Z (T.e 1 Z) (.cons (T.e 0 Z) .nil) Try.func148 Z Z ?_
    refine Calls.mono (has_any s8 (a:Int) _ (by omega) (by omega)) ?_
    clear T;rintro e wc ⟨rfl,hb⟩ ac T
    replace M:=M.call hb;clear hb
    refine lq T (Zrm Z (T.e 0 Z)) ?_;intro ac T
    rcases Zx9 (s8.has (a:Int)) with h4 | h4
    ·refine Zg6 (v2:=(.pointer (some ⟨g3,1,none⟩))) (v3:=(.pointer (some ⟨g3,2,none⟩))) T (Zw (Zwy Z Z (T.e 0 Z) h4) (Zrm Z (T.e 12 Z))) Z (fun _ T=>Zw (Zwy Z Z (T.e 1 Z) h4) (Zrg 1 Z (T.e 8 Z))) Z (fun _ T=>Zw (Zwy Z Z (T.e 2 Z) h4) (Zrg 1 Z (T.e 0 Z))) Z (fun _ T=>Zw (Zwy Z Z (T.e 3 Z) h4) (Zro (Mem.nth M 1 Z) Z (T.e 0 Z) Z)) Z (fun _ T=>Zw (Zwy Z Z (T.e 4 Z) h4) (rn_leq Z (T.e 3 Z) (T.e 0 Z))) Z (fun _ T=>Zq (Zr1 Z (T.e 5 Z) h4 (T.e 0 Z))) Z ?_;intro ac T
     refine wpList_nil ?_
     replace T:=T.pick [0,1,2,3,4,5,10,11,12,13,14,15,16,17,18,19,20,21,22,23] rfl
     exact ⟨(T.pick (E':=[(1,.slice G g.length n),(2,Zj g1),(5,Zj g2),(8,Zj g3),(9,.func (.func FAu2) #[] [].toArray),(10,Zj g4),(11,.func (.func 148) #[.agg #[.int .u64 s8.a,.int .u64 s8.b,.int .u64 s8.c,.int .u64 s8.d]] #[]),(12,Zi (a:Int)),(13,Zi (q.lo+(dn:Int))),(31,.slice P p.length pc),(32,Zi ((p.length:Nat):Int)),(33,Zi (k:Int)),(49,Zi (b.full+1)),(50,Zi (a:Int)),(65,.bool (decide ((q.lo+(dn:Int))≤q.hi)))]) [6,7,8,9,10,11,12,13,14,15,16,17,18,19,0] Z).as (by (try rw [show (s8.has (a:Int))=true from h4]);(try rfl)),M.mask [true,true,true,true] Z⟩
    refine Zg6 T (Zp (Zwn Z Z (T.e 0 Z) h4)) Z (fun _ T=>Zp (Zwn Z Z (T.e 1 Z) h4)) Z (fun _ T=>Zp (Zwn Z Z (T.e 2 Z) h4)) Z (fun _ T=>Zp (Zwn Z Z (T.e 3 Z) h4)) Z (fun _ T=>Zp (Zwn Z Z (T.e 4 Z) h4)) Z (fun _ T=>Zq (Zr0 Z (T.e 5 Z) h4 evc)) Z ?_;intro ac T
    refine wpList_nil ?_
    replace T:=T.pick [0,1,2,3,4,5,10,11,12,13,14,15,16,17,18,19,20,21,22,23] rfl
    exact ⟨(T.pick (E':=[(1,.slice G g.length n),(2,Zj g1),(5,Zj g2),(8,Zj g3),(9,.func (.func FAu2) #[] [].toArray),(10,Zj g4),(11,.func (.func 148) #[.agg #[.int .u64 s8.a,.int .u64 s8.b,.int .u64 s8.c,.int .u64 s8.d]] #[]),(12,Zi (a:Int)),(13,Zi (q.lo+(dn:Int))),(31,.slice P p.length pc),(32,Zi ((p.length:Nat):Int)),(33,Zi (k:Int)),(49,Zi (b.full+1)),(50,Zi (a:Int)),(65,.bool false)]) [6,7,8,9,10,11,12,13,14,15,16,17,18,19,0] Z).as (by (try rw [show (s8.has (a:Int))=false from h4]);(try rfl)),M.mask [true,true,true,true] Z⟩
   clear T M
   rintro ac wc ⟨T,M⟩
   refine wp_cond_split (T.e 14 Z) ?_ ?_
   ·intro h5
    (have h5':=h5;try simp only [Zb1,Zb2,Zb3,Zb4,Zb5,Zb6,Zb7] at h5')
    have hSa:S (a:Int)=true:=by rw [← hR.eq (a:Int) (by omega) (by omega)];simp_all
    have hm1:=secM (s:=q.sec) (q:=q.lo+(dn:Int)+s) (by omega) (by omega)
    have haf : -1000≤aft wy (a:Int) (q.sec * (q.lo+(dn:Int)+s))∧aft wy (a:Int) (q.sec * (q.lo+(dn:Int)+s))≤1000:=by unfold aft;split <;> omega
    refine Zsk ?_
    refine wp_seq ?_
    refine wp_block ?_
    refine Zsr ?_
    refine Zg8 (v3:=(Zj g3)) (v6:=(.pointer (some ⟨g1,6,none⟩))) T (Zq (Zrm Z (T.e 4 Z))) Z (Zm 8 Z Z) Z (Zf 0 5 Z Z) Z (Zo M 1 0 Z Z Z Z) Z (Zm 12 Z Z) Z (Zf 6 6 Z Z) Z (Zo M 3 0 Z Z Z Z) Z (fun _ T=>Zq (rn_add Z (T.e 2 Z) (T.e 0 Z) (by omega))) Z ?_;intro ac T
    refine lq T (rn_mul Z (T.e 4 Z) (T.e 0 Z) (by omega)) ?_;intro ac T
    refine Zl2 ?_
    refine Zod T Z Z Z Z (T.e 8 Z) (.cons (T.e 7 Z) (.cons (T.e 0 Z) .nil)) ha1u2 ha2u2 ha3u2 ?_
    refine Calls.mono (ha4u2 (a:Int) (q.sec * ((q.lo+(dn:Int))+s)) _ (by omega)) ?_
    clear T;rintro e wc ⟨rfl,hb⟩ ac T
    replace M:=M.call hb;clear hb
    refine lq T (Zra Z (T.e 0 Z)) ?_;intro ac T
    replace T:=T.pick [0,11,12,13,14,15,16,17,18,19,20,21,22,23,24] rfl
    refine Zln ?_
    refine Zsr ?_
    refine Zg4 (v2:=(Zj g1)) (v3:=(Zj g1)) T (Zq (Zrm Z (T.e 0 Z))) Z (Zf 0 3 Z Z) Z (Zf 0 0 Z Z) Z (Zo M 3 0 Z Z Z Z) Z ?_;intro ac T
    refine Zl2 ?_
    refine Zod T Z Z Z Z evf (.cons (T.e 3 Z) (.cons evc (.cons (T.e 0 Z) .nil))) Try.func76 Z Z ?_
    refine Calls.mono (bin_any (aft wy (a:Int) (q.sec * ((q.lo+(dn:Int))+s))) 0 b.full _) ?_
    clear T;rintro e wc ⟨rfl,hb⟩ ac T
    replace M:=M.call hb;clear hb
    replace T:=T.pick [0,5,6,7,8,9,10,11,12,13,14,15,16,17,18,19] rfl
    refine Zln ?_
    refine wp_cond_split (T.e 0 Z) ?_ ?_
    ·intro h6
     have hw6:=withinB_iff.1 (by simpa using h6)
     refine wp_region_lit ?_
     refine Zg2 T (Zq (Zrr (Mem.nth M 0 Z) Z (T.e 7 Z) Z)) Z (Zm 2 Z Z) Z ?_;intro ac T
     refine Zl2 ?_
     refine Zod T Z Z Z Z evf (.cons (T.e 1 Z) (.cons (T.e 0 Z) .nil)) Try.func147 Z Z ?_
     refine Calls.mono (with_any x4 (aft wy (a:Int) (q.sec * ((q.lo+(dn:Int))+s))) _ (by omega) (by omega)) ?_
     clear T;rintro e wc ⟨rfl,hb⟩ ac T
     replace M:=M.call hb;clear hb
     refine Zl2 ?_
     refine Zot M T Z Z (T.e 10 Z) (T.e 0 Z) Z .head Z Z ?_;clear M T;intro wc ac M T
     refine wpList_nil ?_
     replace T:=T.pick [5,6,7,8,9,10,11,12,13,14,15,16,17,18] rfl
     refine Znb ?_
     refine nm_then ?_
     refine wp_region_lit ?_
     refine Zg2 T (Zq (Zrm Z (T.e 8 Z))) Z (fun _ T=>Zq (rn_add Z (T.e 0 Z) evc (by omega))) Z ?_;intro ac T
     refine l_q (v:=(Zi ((q.lo+(dn:Int))+1))) (T.pick [0,1,2,3,4,5,6,7,8,9,11,12,13,14,15] Z) Z Z Z Z (Zra Z (T.e 0 Z)) ?_;intro ac T
     replace T:=T.pick [0,3,4,5,6,7,8,9,10,11,12,13,14,15] rfl
     refine Zln ?_
     rw [show q.lo+(dn:Int)+1=q.lo+((dn+1:Nat):Int) by omega] at T
     exact ⟨_,by omega,dn+1,(x4.add (aft wy (a:Int) (q.sec * ((q.lo+(dn:Int))+s)))),Z,(by omega),(by rw [show q.lo+((dn+1:Nat):Int)=q.lo+(dn:Int)+1 by omega];exact hX4.hit hSa (by omega) (by omega) hw6),T.pick [1,2,3,4,5,6,7,8,0,9,10,11,12,13] Z,M.mask [true,true,true,true] Z⟩
    intro h6
    refine wp_skip ?_
    refine Znb ?_
    refine nm_then ?_
    refine wp_region_lit ?_
    refine Zg2 T (Zq (Zrm Z (T.e 10 Z))) Z (fun _ T=>Zq (rn_add Z (T.e 0 Z) evc (by omega))) Z ?_;intro ac T
    refine l_q (v:=(Zi ((q.lo+(dn:Int))+1))) (T.pick [0,1,2,3,4,5,6,7,8,9,10,11,13,14,15,16,17] Z) Z Z Z Z (Zra Z (T.e 0 Z)) ?_;intro ac T
    replace T:=T.pick [0,5,6,7,8,9,10,11,12,13,14,15,16,17] rfl
    refine Zln ?_
    rw [show q.lo+(dn:Int)+1=q.lo+((dn+1:Nat):Int) by omega] at T
    exact ⟨_,by omega,dn+1,x4,Z,(by omega),(by rw [show q.lo+((dn+1:Nat):Int)=q.lo+(dn:Int)+1 by omega];exact hX4.miss (fun h9=>by have:=withinB_iff.2 h9;simp_all)),T.pick [1,2,3,4,5,6,7,8,0,9,10,11,12,13] Z,M.mask [true,true,true,true] Z⟩
   intro h5
   (have h5':=h5;try simp only [Zb1,Zb2,Zb3,Zb4,Zb5,Zb6,Zb7] at h5')
   refine wp_exit ?_
   refine Zet ?_
   refine Zet ?_
   refine ex_hit ?_
   refine Znb ?_
   refine nm_then ?_
   refine wp_region_lit ?_
   refine lq T (rn_add Z (T.e 13 Z) evc (by omega)) ?_;intro ac T
   refine l_q (v:=(Zi ((a:Int)+1))) (T.pick [0,1,2,3,4,5,6,7,8,9,10,11,12,13,15] Z) Z Z Z Z (Zrm Z (T.e 0 Z)) ?_;intro ac T
   replace T:=T.pick [0,2,3,4,5,6,7,8,11,12,13,14] rfl
   refine Zln ?_
   have hX9:Rep4 x4 b.full (Src wy s q S ((a:Int)+1)):=by
     rcases Zx9 (S (a:Int)) with hs9 | hs9
     · have h8:=hR.eq (a:Int) (by omega) (by omega);rw [hs9] at h8;have h7 : ¬ (q.lo+(dn:Int)≤q.hi):=(by simp_all);exact hX4.stop_all (by omega) (by omega)
     · exact hX4.stop_no hs9
   rw [show (a:Int)+1=((a+1:Nat):Int) by omega] at T hX9
   exact ⟨_,by omega,a+1,x4,Z,(by omega),hX9,T.pick [1,2,3,4,5,6,7,8,9,10,11,0] Z,M.mask [true,true,true,true] Z⟩
  intro h3
  have ha9:(a:Int)=b.full+1:=by omega
  have hR2:=(show Rep4 x b.full (Src wy s q S (b.full+1)) by rw [← ha9];exact hX).done
  refine wp_exit ?_
  refine Zet ?_
  refine Zet ?_
  refine ex_hit ?_
  refine nm_then ?_
  refine Zsr ?_
  refine lq T (Zrr (Mem.nth M 0 Z) Z (T.e 6 Z) Z) ?_;intro ac T
  refine Zl2 ?_
  refine Zot M T Z Z (T.e 4 Z) (T.e 0 Z) Z (.tail (.tail .head)) Z Z ?_;clear M T;intro wc ac M T
  refine wpList_nil ?_
  replace T:=T.pick [2,3,4,9,10,11] rfl
  replace M:=M.mask [false,false,true,true] rfl
  refine nm_then ?_
  refine Zsr ?_
  refine Zg3 (v2:=(.agg #[.int .u64 0,.int .u64 0,.int .u64 0,.int .u64 0])) (v3:=(.bool ((decide (x.a=0)) && ((decide (x.b=0)) && ((decide (x.c=0)) && (decide (x.d=0))))))) T (Zq (Zrr (Mem.nth M 0 Z) Z (T.e 2 Z) Z)) Z (fun _ T=>Zq (rn_build Z .nil (fun _=>by kernel_rfl))) Z (fun _ T=>Zq (rn_bin Z (T.e 1 Z) (T.e 0 Z) eqT156)) Z ?_;intro ac T
  replace T:=T.pick [0,3,4,5,6,7,8] rfl
  refine Zln ?_
  refine wp_cond_split (T.e 0 Z) ?_ ?_
  ·intro h7
   (have h7':=h7;try simp only [Zb1,Zb2,Zb3,Zb4,Zb5,Zb6,Zb7] at h7')
   refine Zsr ?_
   refine lq T (Zra Z evc) ?_;intro ac T
   refine wpList_nil ?_
   replace T:=T.pick [0] rfl
   replace M:=M.mask [false,false] rfl
   refine Znr ?_
   refine Zrb ?_
   refine Zrt ?_
   refine Zrt ?_
   refine Zrb ?_
   refine Zrt ?_
   refine rt_1 T Z (T.e 0 Z) ?_
   rw [hR2.none (by omega) (by simp_all) (by simp_all) (by simp_all) (by simp_all),Bool.false_and] at H
   exact ⟨ret_bool H.symm,M.below⟩
  intro h7
  (have h7':=h7;try simp only [Zb1,Zb2,Zb3,Zb4,Zb5,Zb6,Zb7] at h7')
  refine wp_skip ?_
  refine Znb ?_
  refine nm_then ?_
  refine wp_region_lit ?_
  refine lq T (rn_add Z (T.e 6 Z) evc (by omega)) ?_;intro ac T
  refine l_q (v:=(Zi ((k:Int)+1))) (T.pick [0,1,2,3,4,5,6] Z) Z Z Z Z (Zrm Z (T.e 0 Z)) ?_;intro ac T
  replace T:=T.pick [0,3,4,5,6,7] rfl
  refine Zln ?_
  rw [hR2.some (fun h9=>by simp_all),Bool.true_and] at H
  exact ⟨_,by omega,k+1,x,(nxB b.full wy s q S),Z,(by omega),hR2,H,T.pick [1,2,3,4,5,0] Z,M.mask [true,true] Z⟩
 intro h2
 rw [List.drop_of_length_le (l:=p) (by omega),canF_nil] at H
 refine wp_exit ?_
 refine Zet ?_
 refine Zet ?_
 refine ex_hit ?_
 refine nm_then ?_
 refine Zsr ?_
 refine lq T (Zra Z evc) ?_;intro ac T
 refine wpList_nil ?_
 replace T:=T.pick [0] rfl
 replace M:=M.mask [false,false] rfl
 refine Znr ?_
 refine rt_1 T Z (T.e 0 Z) ?_
 exact ⟨ret_bool H.symm,M.below⟩
theorem maybe1_any (b:Bw) (A:Option Addr) (c:Nat) (D:Option Addr) (d:Nat) (p:List Nt) (P:Option Addr) (pc:Nat) (s:Int) (G:Option Addr) (n:Nat) (g:List Int) (gw:Nat)  (w:World) (hP9:Rd w w.heap.size 4 P p.length (ntc p)) (hG:Rd w w.heap.size 1 G g.length (ic g)) (hgp:NtGood p) (hgb:BwAir b) (hs:0≤s∧s≤20) (hgl:g.length=p.length) (q1:Bk w gw #[.slice G g.length n])  :
  Calls Try.prog 136 #[.agg #[Zi b.full,Zi b.a0,Zi b.a1,.slice A b.cs.length c,.slice D b.ts.length d,.slice P p.length pc,Zi s],Zj gw] w fun e w'=>e=.returned (.bool (canB b p g s))∧Below w.heap.size w w':=by
 obtain ⟨bP,oP,SP⟩:=Sp.old hP9
 obtain ⟨bG,oG,SG⟩:=Sp.old hG
 refine Zpx noEx Try.func136 Z 7 Z [.agg #[Zi b.full,Zi b.a0,Zi b.a1,.slice A b.cs.length c,.slice D b.ts.length d,.slice P p.length pc,Zi s],Zj gw] Z Z (Mem.init w _) ?_
 intro ac wc T M
 refine Zsr ?_
 refine Zl2 ?_
 refine Zob M T Z Z Z Z (T.e 0 Z) Z ?_;clear M T;intro g1 wc ac M T
 refine lq T (Zra Z evc) ?_;intro ac T
 replace T:=T.pick [1,3] rfl
 refine Zln ?_
 refine Zsr ?_
 refine Zg2 T (Zq (Zrr (Mem.nth M 0 Z) Z (T.e 0 Z) Z)) Z (fun _ T=>Zq (Zro (Mem.old M q1 (fun h=>h)) Z (T.e 2 Z) Z)) Z ?_;intro ac T
 refine Zl2 ?_
 refine Zod T Z Z Z Z evf (.cons (T.e 1 Z) (.cons (T.e 0 Z) .nil)) Try.func137 Z Z ?_
 refine Calls.mono (can_any b A c D d p P pc s G n g _ (SP.rd M (Zz9 _)) (SG.rd M (Zz9 _)) hgp hgb (by omega) hgl) ?_
 clear T;rintro e wc ⟨rfl,hb⟩ ac T
 replace M:=M.call hb;clear hb
 refine lq T (Zra Z (T.e 0 Z)) ?_;intro ac T
 refine wpList_nil ?_
 replace T:=T.pick [0] rfl
 replace M:=M.mask [false] rfl
 refine Znr ?_
 refine rt_1 T Z (T.e 0 Z) ?_
 exact ⟨rfl,M.below⟩
theorem hop_any {b:Bw} {A:Option Addr} {c:Nat} {D:Option Addr} {d:Nat} {P:Option Addr} {pc:Nat} {p:List Nt} {g:List Int} (ss:List Int):((ss.map (mkP b A c D d P pc p)).any fun x=>canB x.b x.l g x.s)=hopB b p ss g:=by
 unfold hopB
 rw [List.any_map]
 rfl
theorem maybe_any (b:Bw) (A:Option Addr) (c:Nat) (D:Option Addr) (d:Nat) (p:List Nt) (P:Option Addr) (pc:Nat) (ss:List Int) (B:Option Addr) (lc:Nat) (G:Option Addr) (n:Nat) (g:List Int)  (w:World) (hP9:Rd w w.heap.size 4 P p.length (ntc p)) (hG:Rd w w.heap.size 1 G g.length (ic g)) (hL:Rd w w.heap.size 7 B ss.length (pdc (ss.map (mkP b A c D d P pc p)))) (nL:ss.length≤1000000) (hgp:NtGood p) (hgb:BwAir b) (hss:∀ s∈ss,0≤s∧s≤20) (hgl:g.length=p.length)  :
  Calls Try.prog 96 #[.slice B ss.length lc,.slice G g.length n] w fun e w'=>e=.returned (.bool (hopB b p ss g))∧Below w.heap.size w w':=by
 obtain ⟨bP,oP,SP⟩:=Sp.old hP9
 obtain ⟨bG,oG,SG⟩:=Sp.old hG
 obtain ⟨bL,oL,SL⟩:=Sp.old hL
 refine Zpx noEx Try.func96 Z 8 Z [.slice B ss.length lc,.slice G g.length n] Z Z (Mem.init w _) ?_
 intro ac wc T M
 refine Zsr ?_
 refine Zl2 ?_
 refine Zob M T Z Z Z Z (T.e 1 Z) Z ?_;clear M T;intro g1 wc ac M T
 refine lq T (Zra Z evc) ?_;intro ac T
 replace T:=T.pick [1,2] rfl
 refine Zln ?_
 refine Zsr ?_
 refine Zg2 (v2:=(.func (.func 136) #[] #[Zj g1])) T (Zq (Zrm Z (T.e 1 Z))) Z (fun _ T=>Zq (rn_makeFunc Z .nil (.cons (T.e 1 Z) .nil))) Z ?_;intro ac T
 refine Zl2 ?_
 obtain ⟨l9,hl9⟩:∃ q,q=ss.map (mkP b A c D d P pc p):=⟨_,rfl⟩
 have hL9:=SL.rd M (Zz9 _)
 rw [← hl9,show ss.length=l9.length by rw [hl9,List.length_map]] at hL9
 rw [show ss.length=l9.length by rw [hl9,List.length_map]] at T
 have q9:=M.nth 0 rfl
 have hP8:=SP.rd M (Zz9 _)
 have hG8:=SG.rd M (Zz9 _)
 refine Zod T Z Z Z Z evf (.cons (T.e 1 Z) (.cons (T.e 0 Z) .nil)) Try.func128 Z Z ?_
 refine Calls.mono (containsF_any 136 _ [Zj g1] (fun x=>canB x.b x.l g x.s) l9 B lc _ hL9 (by rw [hl9,List.length_map];exact nL) Try.func136 rfl rfl (fun x hx w1 hb1=>by rw [hl9] at hx;obtain ⟨s,hs9,rfl⟩:=List.mem_map.1 hx;exact maybe1_any b A c D d p P pc s G n g g1 w1 ((hP8.below hb1).more hb1.size) ((hG8.below hb1).more hb1.size) hgp hgb (hss s hs9) hgl (q9.below hb1))) ?_
 clear T;rintro e wc ⟨rfl,hb⟩ ac T
 replace M:=M.call hb;clear hb
 refine lq T (Zra Z (T.e 0 Z)) ?_;intro ac T
 refine wpList_nil ?_
 replace T:=T.pick [0] rfl
 replace M:=M.mask [false] rfl
 refine Znr ?_
 refine rt_1 T Z (T.e 0 Z) ?_
 refine ⟨ret_bool ?_,M.below⟩
 rw [hl9]
 exact hop_any ss
def plaV (b:Bw) (p:List Nt) (g:List Int):Int:=if lvlE b p g≠0 then 0 else if alwB b p (sums0 b) g then 1 else if hopB b p (sums0 b) g then 3 else 2
set_option maxHeartbeats 4000000 in
theorem Plays_any {J:Nat→Option Obj} (hP:FuncsOk Try.prog) (b:Bw) (A:Option Addr) (c:Nat) (D:Option Addr) (d:Nat) (p:List Nt) (P:Option Addr) (pc:Nat) (G:Option Addr) (n:Nat) (g:List Int)  (w:World) (hA:Rd w w.heap.size 2 A b.cs.length (rc b.cs)) (hD:Rd w w.heap.size 4 D b.ts.length (lkc b.ts)) (hop:∀ t∈b.ts,Rd w w.heap.size 1 t.A t.op.length (ic t.op)) (nA:b.cs.length≤1000) (nD:b.ts.length≤1000) (nop:∀ t∈b.ts,t.op.length≤1000) (hP9:Rd w w.heap.size 4 P p.length (ntc p)) (nP:p.length≤1000) (hG:Rd w w.heap.size 1 G g.length (ic g)) (nG:g.length≤1000)  :
   CallsB Try.prog J 38 #[.agg #[Zi b.full,Zi b.a0,Zi b.a1,.slice A b.cs.length c,.slice D b.ts.length d],.slice P p.length pc,.slice G g.length n] w fun e w'=>e=.returned (.tuple #[Zi (plaV b p g),Zi (lvlE b p g)])∧Below w.heap.size w w':=by
 obtain ⟨bA,oA,SA⟩:=Sp.old hA
 obtain ⟨bD,oD,SD⟩:=Sp.old hD
 obtain ⟨bP,oP,SP⟩:=Sp.old hP9
 obtain ⟨bG,oG,SG⟩:=Sp.old hG
 refine px_enterB hP noEx Try.func38 Z 37 Z [.agg #[Zi b.full,Zi b.a0,Zi b.a1,.slice A b.cs.length c,.slice D b.ts.length d],.slice P p.length pc,.slice G g.length n] Z Z (Mem.init w _) ?_
 intro ac wc T M
 refine wpB_seq hP ?_
 refine b_lone hP w fun T9=>?_
 replace M:=M.tp T9 0 0
 replace SA:=SA.tp T9 0
 replace SD:=SD.tp T9 0
 replace SG:=SG.tp T9 0
 replace SP:=SP.tp T9 0
 refine wp_region_lit ?_
 refine Zl2 ?_
 refine Zob M T Z Z Z Z (T.e 0 Z) Z ?_;clear M T;intro g1 wc ac M T
 refine Zg2 T (Zq (Zra Z evc)) Z (Zc Z) Z ?_;intro ac T
 refine wpList_nil ?_
 refine nqR_n M ?_;clear M;intro wc M
 replace SA:=SA.pt
 replace SD:=SD.pt
 replace SG:=SG.pt
 replace SP:=SP.pt
 replace T:=T.pick [2,4,5] rfl
 refine nm_then ?_
 refine wpB_seq hP ?_
 refine gB_start2 hP M (M.mask [true] Z) 13 (by kernel_rfl) Z (by kernel_rfl) ?_
 clear M;intro wc M
 refine gB_q (T:=T) (i:=0) Z (by kernel_rfl) (by kernel_rfl:(Zpb 13 0).setIfInBounds 0 true=Zpb 13 1) (fun _=>si_U) Z Z Z Z (fun T9 B w' hD hl hS=>(Zrr (Mem.nth (show Mem (Bq.tp w T9 0) noEx w' _ from hS) 0 Z) Z (T.e 0 Z) Z)) ?_;intro ac T
 refine gB_q (T:=T) (i:=1) Z (by kernel_rfl) (by kernel_rfl:(Zpb 13 1).setIfInBounds 1 true=Zpb 13 3) (fun _=>si_U) Z Z Z Z (fun _ _ _ _ _ _=>(Zrm Z (T.e 2 Z))) ?_;intro ac T
 refine gB_q (T:=T) (i:=3) Z (by kernel_rfl) (by kernel_rfl:(Zpb 13 3).setIfInBounds 3 true=Zpb 13 11) (fun _=>si_U) Z Z Z Z (fun _ _ _ _ _ _=>(Zrm Z (T.e 3 Z))) ?_;intro ac T
 refine gB_q (T:=T) (i:=4) Z (by kernel_rfl) (by kernel_rfl:(Zpb 13 11).setIfInBounds 4 true=Zpb 13 27) (fun _=>si_U) Z Z Z Z (fun _ _ _ _ _ _=>(Zrm Z (T.e 5 Z))) ?_;intro ac T
 refine gB_w (i:=2) (by kernel_rfl) Z (by kernel_rfl:(Zpb 13 27).setIfInBounds 2 true=Zpb 13 31) Z ?_;intro T9 K hK
 replace M:=M.tp T9 0 0
 replace SA:=SA.tp T9 0
 replace SD:=SD.tp T9 0
 replace SG:=SG.tp T9 0
 replace SP:=SP.tp T9 0
 refine Zod T Z Z Z Z evf (.cons (T.e 2 Z) .nil) Try.func40 Z Z ?_
 refine Calls.mono (piece_any p P pc _ (SP.rd M (Zz9 _)) (by omega)) ?_
 clear T;rintro e wc ⟨rfl,hb⟩ ac T
 replace M:=M.call hb;clear hb
 refine gB_out hK M ?_;clear hK K M;intro wc M
 replace SA:=SA.pt
 replace SD:=SD.pt
 replace SG:=SG.pt
 replace SP:=SP.pt
 refine ⟨(M.mask [true] Z),?_⟩
 refine gB_w (i:=5) (by kernel_rfl) Z (by kernel_rfl:(Zpb 13 31).setIfInBounds 5 true=Zpb 13 63) Z ?_;intro T9 K hK
 replace M:=M.tp T9 0 0
 replace SA:=SA.tp T9 0
 replace SD:=SD.tp T9 0
 replace SG:=SG.tp T9 0
 replace SP:=SP.tp T9 0
 refine Zod T Z Z Z Z evf (.cons (T.e 2 Z) (.cons (T.e 1 Z) .nil)) Try.func91 Z Z ?_
 refine Calls.mono (checkWays_any p P pc G n g _ (SP.rd M (Zz9 _)) (by omega) (SG.rd M (Zz9 _)) (by omega)) ?_
 clear T;rintro e wc ⟨rfl,hb⟩ ac T
 replace M:=M.call hb;clear hb
 refine gB_out hK M ?_;clear hK K M;intro wc M
 replace SA:=SA.pt
 replace SD:=SD.pt
 replace SG:=SG.pt
 replace SP:=SP.pt
 refine ⟨(M.mask [true] Z),?_⟩
 refine gB_w (i:=6) (by kernel_rfl) Z (by kernel_rfl:(Zpb 13 63).setIfInBounds 6 true=Zpb 13 127) Z ?_;intro T9 K hK
 replace M:=M.tp T9 0 0
 replace SA:=SA.tp T9 0
 replace SD:=SD.tp T9 0
 replace SG:=SG.tp T9 0
 replace SP:=SP.tp T9 0
 refine ow_bs (e:=39) [Zi (pieceE p),Zi (waysE p g)] M T Z Z Z Z (.cons (T.e 1 Z) (.cons (T.e 0 Z) .nil)) (fun _=>by kernel_rfl) ?_;clear M T;intro g2 wc ac M T
 refine gB_out hK M ?_;clear hK K M;intro wc M
 replace SA:=SA.pt
 replace SD:=SD.pt
 replace SG:=SG.pt
 replace SP:=SP.pt
 refine ⟨(M.mask [false,true] Z),?_⟩
 refine gB_one (i:=7) (by kernel_rfl) (by kernel_rfl:(Zpb 13 127).setIfInBounds 7 true=Zpb 13 255) (opB_call (first:=[]) (cap:=[]) T Z Z Z Z Z evf (.cons (T.e 6 Z) (.cons (T.e 0 Z) .nil)) Try.func77 Z Z (known_any hP b A c D d (some ⟨g2,0,none⟩) 2 [(pieceE p),(waysE p g)] _ (SA.rd M (Zz9 _)) (SD.rd M (Zz9 _)) (fun t ht=>M.rd (hop t ht) (Nat.le_refl _)) nA nD nop (M.rdOwn (Zne (i:=0) Z) Z Z) (by first | omega | simp)) ?_ Z)
 clear T
 rintro e wc ⟨Akur1_7,ckur1_7,Ikur1_7,rfl,hckur1_7,N⟩
 refine ⟨_,Z,?_⟩
 intro ac T
 obtain ⟨lkur1_7,hlkur1_7⟩:∃ q,q=knownL b [(pieceE p),(waysE p g)]:=⟨_,rfl⟩
 obtain ⟨ekur1_7,hekur1_7⟩:∃ q,q=knownE b [(pieceE p),(waysE p g)]:=⟨_,rfl⟩
 rw [← hlkur1_7] at hckur1_7 T
 rw [← hekur1_7] at T
 obtain ⟨bkur1_7,okur1_7,hSkur1_7⟩:=hckur1_7.spV (l4c_length _)
 have SLkur1_7:=hSkur1_7 w noEx
 clear hSkur1_7
 replace M:=(M.join N).swapI
 clear N
 replace M:Mem w noEx wc ((g2,.cells [Zi (pieceE p),Zi (waysE p g)])::(g1,.cells [Zi b.full,Zi b.a0,Zi b.a1,.slice A b.cs.length c,.slice D b.ts.length d])::Ikur1_7):=M
 refine ⟨(M.perm [1] Z Z),?_⟩
 refine gB_q (T:=T) (i:=8) Z (by kernel_rfl) (by kernel_rfl:(Zpb 13 255).setIfInBounds 8 true=Zpb 13 511) (fun _=>si_U) Z Z Z Z (fun _ _ _ _ _ _=>(Zrm Z (T.e 0 Z))) ?_;intro ac T
 refine gB_q (T:=T) (i:=9) Z (by kernel_rfl) (by kernel_rfl:(Zpb 13 511).setIfInBounds 9 true=Zpb 13 1023) (fun _=>si_U) Z Z Z Z (fun _ _ _ _ _ _=>(Zre Z (T.e 0 Z) Z)) ?_;intro ac T
 refine gB_q (T:=T) (i:=10) Z (by kernel_rfl) (by kernel_rfl:(Zpb 13 1023).setIfInBounds 10 true=Zpb 13 2047) (fun _=>si_U) Z Z Z Z (fun _ _ _ _ _ _=>(Zre Z (T.e 1 Z) Z)) ?_;intro ac T
 refine gB_q (T:=T) (i:=11) Z (by kernel_rfl) (by kernel_rfl:(Zpb 13 2047).setIfInBounds 11 true=Zpb 13 4095) (fun _=>si_U) Z Z Z Z (fun _ _ _ _ _ _=>(Zra Z (T.e 1 Z))) ?_;intro ac T
 refine gB_q (T:=T) (i:=12) Z (by kernel_rfl) (by kernel_rfl:(Zpb 13 4095).setIfInBounds 12 true=Zpb 13 8191) (fun _=>si_U) Z Z Z Z (fun _ _ _ _ _ _=>(Zra Z (T.e 1 Z))) ?_;intro ac T
 refine gB_done (by kernel_rfl) M ?_;clear M;intro wc M
 replace T:=T.pick [0,1,13,14,15] rfl
 replace M:=M.mask [false,true] rfl
 refine nm_then ?_
 refine b_lone hP w fun T9=>?_
 replace M:=M.tp T9 0 0
 replace SA:=SA.tp T9 0
 replace SD:=SD.tp T9 0
 replace SG:=SG.tp T9 0
 replace SLkur1_7:=SLkur1_7.tp T9 0
 replace SP:=SP.tp T9 0
 generalize hw9:Bq.tp w T9 0=w at M SA SD SG SLkur1_7 SP
 generalize Bq.tp wc T9 0=wc at M ⊢
 refine wp_seq ?_
 refine Zsr ?_
 refine Zg2 T (Zq (Zrm Z (T.e 0 Z))) Z (fun _ T=>Zq (rn_neq Z (T.e 0 Z) evc)) Z ?_;intro ac T
 replace T:=T.pick [0,2,3,4,5,6] rfl
 refine Zln ?_
 refine wp_ifn (T.e 0 Z) ?_ ?_
 ·intro h1
  refine Zsr ?_
  refine Zg3 T (Zq (Zrm Z (T.e 1 Z))) Z (Zc Z) Z (Za 1 Z Z) Z ?_;intro ac T
  refine wpList_nil ?_
  replace T:=T.pick [0,1] rfl
  replace M:=M.mask [false] rfl
  refine Znr ?_
  refine Zrt ?_
  subst hw9
  refine nqR_r M ?_;clear M;intro wc M
  refine rt_2 T Z (T.e 1 Z) (T.e 0 Z) ?_
  have hke:lvlE b p g≠0:=by unfold lvlE;rw [← hekur1_7];omega
  have e9:plaV b p g=0∧lvlE b p g=ekur1_7:=⟨by unfold plaV;rw [if_pos hke],hekur1_7.symm⟩
  rw [e9.1,e9.2]
  exact ⟨rfl,M.below⟩
 intro h1
 have hke:knownE b [pieceE p,waysE p g]=0:=by rw [← hekur1_7];omega
 obtain ⟨hgood,hf9,hlt,hl4,hlp,hln⟩:=known_ok nop hke
 rw [← hlkur1_7] at hlt hl4 hlp hln
 obtain ⟨hpe,hwe9⟩:=first2 hf9
 have hgp:=pieceE_good hpe
 have hgb:=hgood.airs
 have h4:=hgood.n4
 have hgl:=waysE_len hwe9
 refine Zsk ?_
 refine Zsr ?_
 refine Zg3 T (Zq (Zrr (Mem.nth M 0 Z) Z (T.e 3 Z) Z)) Z (Zm 3 Z Z) Z (Zm 6 Z Z) Z ?_;intro ac T
 refine Zl2 ?_
 refine Zod T Z Z Z Z evf (.cons (T.e 2 Z) (.cons (T.e 1 Z) (.cons (T.e 0 Z) (.cons evc .nil)))) Try.func85 Z Z ?_
 refine Calls.mono (playedBy_any b A c D d lkur1_7 Akur1_7 ckur1_7 p P pc none 0 [] _ (SLkur1_7.rd M (.cons _ (List.Sublist.refl _))) (by omega) hl4 h4 (⟨by simp [ic],fun h=>absurd h (by simp)⟩) (by first | omega | simp)) ?_
 clear T;rintro e wc ⟨Apu3,cpu3,Ipu3,rfl,hclu3,N⟩ ac T
 obtain ⟨svu3,hsvu3⟩:∃ q,q=sumsB (cornL b.cs.length []) lkur1_7:=⟨_,rfl⟩
 rw [← hsvu3] at hclu3 T
 have hssvu3:∀ s∈svu3,0≤s∧s≤20:=by rw [hsvu3];exact sums_bd hl4 h4
 have hnsvu3:svu3.length≤lkur1_7.length:=by rw [hsvu3];exact sumsB_len _
 obtain ⟨bpu3,opu3,Spu3⟩:=hclu3.spV (by rw [pdc_length,List.length_map])
 replace Spu3:=Spu3 w noEx
 replace M:=(M.join N).swapI
 clear N
 replace M:Mem w noEx wc ((g1,.cells [Zi b.full,Zi b.a0,Zi b.a1,.slice A b.cs.length c,.slice D b.ts.length d])::(Ikur1_7++Ipu3)):=M
 refine lq T (Zra Z (T.e 0 Z)) ?_;intro ac T
 refine wpList_nil ?_
 replace T:=T.pick [0,10] rfl
 replace M:=M.mask [false] rfl
 refine Zns ?_
 refine wp_block ?_
 refine Zsr ?_
 refine Zg2 T (Zq (Zrm Z (T.e 0 Z))) Z (Zm 2 Z Z) Z ?_;intro ac T
 refine Zl2 ?_
 refine Zod T Z Z Z Z evf (.cons (T.e 1 Z) (.cons (T.e 0 Z) .nil)) Try.func87 Z Z ?_
 refine Calls.mono (always_any b A c D d p P pc svu3 Apu3 cpu3 G n g _ (SP.rd M (Zz9 _)) (SG.rd M (Zz9 _)) (Spu3.rd M (Zsq _ _)) (by omega) hgp hgb hssvu3 hgl) ?_
 clear T;rintro e wc ⟨rfl,hb⟩ ac T
 replace M:=M.call hb;clear hb
 refine lq T (Zra Z (T.e 0 Z)) ?_;intro ac T
 replace T:=T.pick [0,4,5] rfl
 refine Zln ?_
 refine wp_cond_split (T.e 0 Z) ?_ ?_
 ·intro h2
  refine Zsr ?_
  refine Zg2 T (Zq (Zra Z evc)) Z (Zc Z) Z ?_;intro ac T
  replace T:=T.pick [0,1] rfl
  refine Zln ?_
  refine wp_ret ?_
  refine Zrb ?_
  refine Zrt ?_
  subst hw9
  refine nqR_r M ?_;clear M;intro wc M
  refine rt_2 T Z (T.e 1 Z) (T.e 0 Z) ?_
  have e8:lvlE b p g=0:=hke
  have hss9:svu3=sums0 b:=by rw [hsvu3,hlt];rfl
  skip
  have e9:plaV b p g=1:=by unfold plaV;rw [if_neg (by omega),← hss9,if_pos h2]
  rw [e8,e9]
  exact ⟨rfl,M.below⟩
 intro h2
 refine Zsr ?_
 refine Zg2 T (Zq (Zrm Z (T.e 1 Z))) Z (Zm 3 Z Z) Z ?_;intro ac T
 refine Zl2 ?_
 refine Zod T Z Z Z Z evf (.cons (T.e 1 Z) (.cons (T.e 0 Z) .nil)) Try.func96 Z Z ?_
 refine Calls.mono (maybe_any b A c D d p P pc svu3 Apu3 cpu3 G n g _ (SP.rd M (Zz9 _)) (SG.rd M (Zz9 _)) (Spu3.rd M (Zsq _ _)) (by omega) hgp hgb hssvu3 hgl) ?_
 clear T;rintro e wc ⟨rfl,hb⟩ ac T
 replace M:=M.call hb;clear hb
 refine lq T (Zra Z (T.e 0 Z)) ?_;intro ac T
 replace T:=T.pick [0] rfl
 refine Zln ?_
 refine wp_cond_split (T.e 0 Z) ?_ ?_
 ·intro h3
  refine Zsr ?_
  refine Zg2 T (Zq (Zra Z evc)) Z (Zc Z) Z ?_;intro ac T
  replace T:=T.pick [0,1] rfl
  refine Zln ?_
  refine wp_ret ?_
  refine Zrb ?_
  refine Zrt ?_
  subst hw9
  refine nqR_r M ?_;clear M;intro wc M
  refine rt_2 T Z (T.e 1 Z) (T.e 0 Z) ?_
  have e8:lvlE b p g=0:=hke
  have hss9:svu3=sums0 b:=by rw [hsvu3,hlt];rfl
  skip
  have e9:plaV b p g=3:=by unfold plaV;rw [if_neg (by omega),← hss9,if_neg (by rw [h2];simp),if_pos h3]
  rw [e8,e9]
  exact ⟨rfl,M.below⟩
 intro h3
 refine wp_skip ?_
 refine Znb ?_
 refine nm_then ?_
 refine Zsr ?_
 refine Zg2 T (Zq (Zra Z evc)) Z (Zc Z) Z ?_;intro ac T
 replace T:=T.pick [0,1] rfl
 refine Zln ?_
 refine wp_ret ?_
 subst hw9
 refine nqR_r M ?_;clear M;intro wc M
 refine rt_2 T Z (T.e 1 Z) (T.e 0 Z) ?_
 have e8:lvlE b p g=0:=hke
 have hss9:svu3=sums0 b:=by rw [hsvu3,hlt];rfl
 skip
 have e9:plaV b p g=2:=by unfold plaV;rw [if_neg (by omega),← hss9,if_neg (by rw [h2];simp),if_neg (by rw [h3];simp)]
 rw [e8,e9]
 exact ⟨rfl,M.below⟩
end
def lastO (b:List Int):Option Int:=if b.length=0 then none else some (b.getD (b.length - 1) 0)
theorem wyE_steps {p:List Nt}:∀ (r b:List Int),stepsOk p b r→b.length+r.length=p.length→wyE (p.drop b.length) r (lastO b)=0
 | [],b,_,_=>by
  cases p.drop b.length <;> rfl
 | w::r,b,h,hl=>by
  simp only [Zx1] at hl
  have hb:b.length < p.length:=by omega
  rw [List.drop_eq_getElem_cons hb]
  unfold wyE
  have hw:withinB w 1 2=true:=withinB_iff.2 (by have:=h.1;omega)
  have ih:=wyE_steps r (b++[w]) h.2.2 (by rw [Zx3,List.length_singleton];omega)
  rw [Zx3,List.length_singleton,show lastO (b++[w])=some w by
   unfold lastO
   rw [Zx3,List.length_singleton,if_neg (by omega),List.getD_eq_getElem?_getD,show b.length+1 - 1=b.length by omega,List.getElem?_append_right (Nat.le_refl _),Nat.sub_self]
   rfl] at ih
  rw [hw,if_neg (by simp),if_neg]
  ·exact ih
  ·rintro ⟨⟨h1,h2⟩,h3⟩
   have h4:=h.2.1
   unfold stepW at h4
   rw [List.getD_eq_getElem?_getD,List.getElem?_eq_getElem hb] at h4
   unfold lastO at h1 h2
   by_cases h5:b.length=0
   ·rw [if_pos h5] at h1;cases h1
   ·rw [if_neg h5] at h2
    have h6:(p[b.length]).rest=true∨w=b.getD (b.length - 1) 0:=by simpa [h5] using h4
    rcases h6 with h6 | h6
    ·rw [h6] at h3;cases h3
    ·exact h2 (by rw [h6])
theorem WayOk.err {p:List Nt} {g:List Int} (h:WayOk p g):waysE p g=0:=by
 unfold waysE
 rw [if_neg (by have:=h.len;omega),if_neg (by have:=h.len;omega)]
 have:=wyE_steps g [] h.ok (by simpa using h.len)
 simpa [lastO] using this
theorem BwTrue.lvl {b:Bw} {gl:List Int} {air:Int} {p:List Nt} {g:List Int} (hb:BwTrue b gl air) (h4:gl.length≤4) (h3:b.ts.length≤3) (hp:NtGood p) (hw:WayOk p g):lvlE b p g=0 :=
 hb.known h4 h3 fun e he=>by
  rcases Zx7.1 he with rfl | he
  ·exact pieceE_of hp
  ·rw [List.mem_singleton.1 he];exact hw.err
theorem sums_pos {b:Bw} {el:List Int} (h:knownE b el=0):sums0 b≠[]:=by
 unfold knownE at h
 split at h
 ·rename_i h1;exact absurd h h1
 ·split at h
  ·rename_i h2;exact absurd h h2
  ·split at h
   ·cases h
   ·rename_i h3
    intro h4
    have h5:0 < (truthsL b).length:=by unfold truthsL;rw [List.length_map];omega
    obtain ⟨x,hx⟩:=List.exists_mem_of_length_pos h5
    have h6:totL x.l (cornL b.cs.length [])∈sums0 b:=sumsB_mem.2 ⟨x,hx,rfl⟩
    rw [h4] at h6
    cases h6
theorem levF_len {f:Int→List (Int×Int)} {n:Nat} (hf:∀ s,(f s).length=n):∀ {ss:List Int},ss≠[]→(levF f ss).length=n
 | [],h=>absurd rfl h
 | s::r,_=>by
  unfold levF
  have key:∀ (r:List Int) (acc:List (Int×Int)),acc.length=n→(r.foldl (fun acc t=>List.zipWith mm2 acc (f t)) acc).length=n:=fun r=>by
   induction r with
   | nil=>intro acc h;exact h
   | cons t r ih =>
    intro acc h
    rw [List.foldl_cons]
    exact ih _ (by rw [List.length_zipWith,h,hf,Nat.min_self])
  exact key r _ (hf s)
theorem lvlL_of {b:Bw} {p:List Nt} {g:List Int} (h:lvlE b p g=0):lvlL b p g=levF (fun s=>levs s (b.a0,b.a1) p g) (sums0 b):=by
 unfold lvlL
 rw [if_neg (by omega)]
theorem lvlL_len {b:Bw} {p:List Nt} {g:List Int} (h:lvlE b p g=0) (hw:g.length=p.length):(lvlL b p g).length=p.length:=by
 rw [lvlL_of h]
 exact levF_len (fun s=>levs_len2 _ _ _ _ hw) (sums_pos h)
theorem plaV_of {b:Bw} {p:List Nt} {g:List Int} (h:lvlE b p g=0):plaV b p g=if alwB b p (sums0 b) g then 1 else if hopB b p (sums0 b) g then 3 else 2:=by
 unfold plaV
 rw [if_neg (by omega)]
section
open Go.RowKit Go.Proofs.Ytoheddpnnjldgaa.Bq
end
theorem spnI_le:∀ (l:List Int) (x0:Int×Int),(spnI x0 l).1≤x0.1∧x0.2≤(spnI x0 l).2∧∀ v∈l,(spnI x0 l).1≤v∧v≤(spnI x0 l).2
 | [],x0=>⟨Int.le_refl _,Int.le_refl _,fun v h=>by cases h⟩
 | y::l,x0=>by
  have ih:=spnI_le l (min x0.1 y,max x0.2 y)
  have e:spnI x0 (y::l)=spnI (min x0.1 y,max x0.2 y) l:=rfl
  rw [e]
  obtain ⟨h1,h2,h3⟩:=ih
  dsimp only at h1 h2
  refine ⟨by omega,by omega,fun v hv=>?_⟩
  rcases Zx7.1 hv with rfl | hv
  ·omega
  ·exact h3 v hv
theorem spn_mem {l:List Int} {v:Int} (h:v∈l):(spn l).1≤v∧v≤(spn l).2:=by
 unfold spn
 exact (spnI_le l _).2.2 v h
theorem spnI_ends:∀ (l:List Int) (x0:Int×Int),((spnI x0 l).1=x0.1∨(spnI x0 l).1∈l)∧((spnI x0 l).2=x0.2∨(spnI x0 l).2∈l)
 | [],x0=>⟨.inl rfl,.inl rfl⟩
 | y::l,x0=>by
  have ih:=spnI_ends l (min x0.1 y,max x0.2 y)
  have e:spnI x0 (y::l)=spnI (min x0.1 y,max x0.2 y) l:=rfl
  rw [e]
  obtain ⟨h1,h2⟩:=ih
  dsimp only at h1 h2
  refine ⟨?_,?_⟩
  ·rcases h1 with h1 | h1
   ·rcases (by omega:min x0.1 y=x0.1∨min x0.1 y=y) with h | h
    ·exact .inl (h1.trans h)
    ·exact .inr (by rw [h1,h];exact Zz2)
   ·exact .inr (Zz1 h1)
  ·rcases h2 with h2 | h2
   ·rcases (by omega:max x0.2 y=x0.2∨max x0.2 y=y) with h | h
    ·exact .inl (h2.trans h)
    ·exact .inr (by rw [h2,h];exact Zz2)
   ·exact .inr (Zz1 h2)
theorem spn_ends {l:List Int} (h:l≠[]):(spn l).1∈l∧(spn l).2∈l:=by
 have h0:l.getD 0 0∈l:=by
  cases l with
  | nil=>exact absurd rfl h
  | cons x r=>exact Zz2
 obtain ⟨h1,h2⟩:=spnI_ends l (l.getD 0 0,l.getD 0 0)
 unfold spn
 exact ⟨h1.elim (fun e=>by rw [e];exact h0) id,h2.elim (fun e=>by rw [e];exact h0) id⟩
theorem BwTrue.good {b:Bw} {g:List Int} {air:Int} (h:BwTrue b g air) (h4:g.length≤4) (h3:b.ts.length≤3):BwGood b:=chkB_good (h.chk h4 h3)
theorem sums0_bd {b:Bw} (h:BwGood b):∀ s∈sums0 b,0≤s∧s≤20:=sums_bd (truthsL_ok h) h.n4
theorem hold_mem {b:Bw} {air way v:Int}:v∈holdT b air way (cornL b.cs.length []) (truthsL b)↔∃ s∈sums0 b,∃ j,j < airN b∧holdJ b air way s j=v:=by
 unfold holdT
 rw [List.mem_flatMap]
 constructor
 ·rintro ⟨x,hx,h⟩
  unfold holdR at h
  obtain ⟨j,hj,h⟩:=List.mem_map.1 h
  exact ⟨_,sumsB_mem.2 ⟨x,hx,Z⟩,j,List.mem_range.1 hj,h⟩
 ·rintro ⟨s,hs,j,hj,h⟩
  obtain ⟨x,hx,rfl⟩:=sumsB_mem.1 hs
  exact ⟨x,hx,by unfold holdR;exact List.mem_map.2 ⟨j,List.mem_range.2 hj,h⟩⟩
theorem holdJ_le {b:Bw} {air way s d:Int} {j:Nat} (hg:BwGood b) (hj:j < airN b) (ha:0≤air) (hs:0≤s) (hd:0≤d) (h6:d≤600):d≤holdJ b air way s j↔d * (air+s)≤roomW way (b.a0+(j:Int)) b.full:=by
 have hr:0≤roomW way (b.a0+(j:Int)) b.full:=by
  have:=hg.air
  unfold airN at hj
  unfold roomW
  split <;> omega
 unfold holdJ
 split
 ·rename_i h
  rw [Int.tdiv_eq_ediv_of_nonneg hr]
  have:=Int.le_ediv_iff_mul_le (a:=d) (b:=roomW way (b.a0+(j:Int)) b.full) h
  omega
 ·rename_i h
  have h0:air+s=0:=by omega
  rw [h0,Int.mul_zero]
  exact ⟨fun _=>hr,fun _=>h6⟩
theorem holdJ_bd {b:Bw} {air way s:Int} {j:Nat} (hg:BwGood b) (hj:j < airN b) (ha:0≤air) (hs:0≤s):0≤holdJ b air way s j∧holdJ b air way s j≤600:=by
 refine ⟨(holdJ_le hg hj ha hs (Int.le_refl 0) (by omega)).2 ?_,?_⟩
 ·rw [Int.zero_mul]
  have:=hg.air
  unfold airN at hj
  unfold roomW
  split <;> omega
 ·unfold holdJ
  split <;> omega
def oneN (d air:Int):Nt:=⟨d,air,air,false⟩
theorem oneN_good {d air:Int} (hd:1≤d∧d≤20) (ha:0≤air∧air≤9):NtGood [oneN d air]:=⟨by simp,fun q hq=>by
 rw [List.mem_singleton.1 hq]
 exact ⟨hd,ha.1,Int.le_refl _,ha.2⟩⟩
theorem oneW_ok (q:Nt) {way:Int} (hw:way=1∨way=2):WayOk [q] [way]:=⟨rfl,hw,by unfold stepW;simp,trivial⟩
theorem must_one {b:Bw} {d air way s:Int} (hg:BwGood b) (hw:way=1∨way=2) (hd:0≤d * (air+s)):mustB b [oneN d air] [way] s=true↔d * (air+s)≤roomW way (if way=1 then b.a0 else b.a1) b.full:=by
 have:=hg.air
 unfold mustB levs levs lv1 aft roomW oneN
 simp only [List.all_cons,List.all_nil,Bool.and_true,Bool.and_eq_true,decide_eq_true_eq]
 rcases hw with rfl | rfl
 · simp only [if_true];omega
 · simp only [show ((2:Int)=1)=False from by simp,if_false];omega
theorem can_one {b:Bw} {d air way s:Int} (hg:BwGood b) (hw:way=1∨way=2) (hd:0≤d * (air+s)):canB b [oneN d air] [way] s=true↔d * (air+s)≤roomW way (if way=1 then b.a1 else b.a0) b.full:=by
 have:=hg.air
 unfold canB canF
 rw [canF_nil,Bool.and_true,List.any_eq_true]
 unfold nxB
 simp only [Bool.and_eq_true,decide_eq_true_eq,List.any_eq_true,upI_mem]
 constructor
 ·rintro ⟨y,hy,-,a,ha,hab,e,he,h⟩
  have e1:e=air:=by unfold oneN at he;dsimp only at he;omega
  subst e1
  have h1:(oneN d e).sec=d:=rfl
  rw [h1] at h
  unfold aft at h
  unfold roomW
  rcases hw with rfl | rfl
  ·simp only [if_true] at h ⊢;omega
  ·simp only [show ((2:Int)=1)=False from by simp,if_false] at h ⊢;omega
 ·intro h
  unfold roomW at h
  rcases hw with rfl | rfl
  ·simp only [if_true] at h
   refine ⟨b.a1 - d * (air+s),by omega,by omega,b.a1,by omega,by omega,air,⟨Int.le_refl _,Int.le_refl _⟩,?_⟩
   unfold aft oneN
   simp
  ·simp only [show ((2:Int)=1)=False from by simp,if_false] at h
   refine ⟨b.a0+d * (air+s),by omega,by omega,b.a0,by omega,by omega,air,⟨Int.le_refl _,Int.le_refl _⟩,?_⟩
   unfold aft oneN
   simp
theorem held_law {b:Bw} {g:List Int} {air0 air way:Int} (hb:BwTrue b g air0) (h4:g.length≤4) (h3:b.ts.length≤3) (ha:0≤air∧air≤9) (hw:way=1∨way=2) :
  holE b air way=0∧(0≤(holR b air way).1∧(holR b air way).1≤(holR b air way).2∧(holR b air way).2≤600)∧∀ d,1≤d→d≤20→lvlE b [oneN d air] [way]=0∧(d≤(holR b air way).1→plaV b [oneN d air] [way]=1)∧(d=(holR b air way).1+1→plaV b [oneN d air] [way]≠1)∧(d≤(holR b air way).2→plaV b [oneN d air] [way]≠2)∧(d=(holR b air way).2+1→plaV b [oneN d air] [way]=2):=by
 have hg:=hb.good h4 h3
 have hga:=hg.air
 have hwr:wrE air way=0:=by
  unfold wrE
  rw [withinB_iff.2 ha,withinB_iff.2 (by omega)]
  rfl
 have hE:holE b air way=0:=by
  unfold holE
  exact hb.known h4 h3 fun e he=>by rw [List.mem_singleton.1 he,hwr]
 have hR:holR b air way=spn (holdT b air way (cornL b.cs.length []) (truthsL b)):=by unfold holR;rw [if_neg (by omega)]
 have hss:=sums0_bd hg
 have hne:sums0 b≠[]:=sums_pos hE
 obtain ⟨s0,hs0⟩:=List.exists_mem_of_ne_nil _ hne
 have hn0:0 < airN b:=by unfold airN;omega
 have hmem:holdT b air way (cornL b.cs.length []) (truthsL b)≠[]:=fun h=>by
  have:=(hold_mem (b:=b) (air:=air) (way:=way)).2 ⟨s0,hs0,0,hn0,rfl⟩
  rw [h] at this
  cases this
 obtain ⟨k1,k2⟩:=spn_ends hmem
 rw [← hR] at k1 k2
 have hle:∀ s∈sums0 b,∀ j,j < airN b→(holR b air way).1≤holdJ b air way s j∧holdJ b air way s j≤(holR b air way).2:=fun s hs j hj=>by
  rw [hR]
  exact spn_mem (hold_mem.2 ⟨s,hs,j,hj,Z⟩)
 obtain ⟨s1,hs1,j1,hj1,e1⟩:=hold_mem.1 k1
 obtain ⟨s2,hs2,j2,hj2,e2⟩:=hold_mem.1 k2
 have b1:=holdJ_bd (way:=way) hg hj1 ha.1 (hss s1 hs1).1
 have b2:=holdJ_bd (way:=way) hg hj2 ha.1 (hss s2 hs2).1
 have h12:=hle s1 hs1 j1 hj1
 refine ⟨hE,by omega,fun d hd0 hd1=>?_⟩
 have hl:lvlE b [oneN d air] [way]=0:=hb.lvl h4 h3 (oneN_good ⟨hd0,hd1⟩ ha) (oneW_ok _ hw)
 have hnn:∀ s∈sums0 b,0≤d * (air+s):=fun s hs=>Int.mul_nonneg (by omega) (by have:=hss s hs;omega)
 -- the best and the worst start
 have hjA:(b.a1 - b.a0).toNat < airN b:=by unfold airN;omega
 have hroom:∀ j,j < airN b→roomW way (if way=1 then b.a0 else b.a1) b.full≤roomW way (b.a0+(j:Int)) b.full∧roomW way (b.a0+(j:Int)) b.full≤roomW way (if way=1 then b.a1 else b.a0) b.full:=fun j hj=>by
  unfold airN at hj
  unfold roomW
  rcases hw with rfl | rfl
  ·simp only [if_true];omega
  ·simp only [show ((2:Int)=1)=False from by simp,if_false];omega
 have hworst:∃ j,j < airN b∧roomW way (b.a0+(j:Int)) b.full=roomW way (if way=1 then b.a0 else b.a1) b.full:=by
  rcases hw with rfl | rfl
  ·exact ⟨0,hn0,by simp⟩
  ·refine ⟨_,hjA,?_⟩
   simp only [show ((2:Int)=1)=False from by simp,if_false]
   congr 1
   omega
 have hbest:∃ j,j < airN b∧roomW way (b.a0+(j:Int)) b.full=roomW way (if way=1 then b.a1 else b.a0) b.full:=by
  rcases hw with rfl | rfl
  ·refine ⟨_,hjA,?_⟩
   simp only [if_true]
   congr 1
   omega
  ·exact ⟨0,hn0,by simp⟩
 have hmust:alwB b [oneN d air] (sums0 b) [way]=true↔d≤(holR b air way).1:=by
  unfold alwB
  rw [List.all_eq_true]
  constructor
  ·intro h
   rw [← e1,holdJ_le hg hj1 ha.1 (hss s1 hs1).1 (by omega) (by omega)]
   have:=(must_one hg hw (hnn s1 hs1)).1 (h s1 hs1)
   have:=hroom j1 hj1
   omega
  ·intro h s hs
   rw [must_one hg hw (hnn s hs)]
   obtain ⟨j,hj,hjr⟩:=hworst
   rw [← hjr,← holdJ_le hg hj ha.1 (hss s hs).1 (by omega) (by omega)]
   have:=hle s hs j hj
   omega
 have hcan:hopB b [oneN d air] (sums0 b) [way]=true↔d≤(holR b air way).2:=by
  unfold hopB
  rw [List.any_eq_true]
  constructor
  ·rintro ⟨s,hs,h⟩
   obtain ⟨j,hj,hjr⟩:=hbest
   have h5:=(can_one hg hw (hnn s hs)).1 h
   rw [← hjr,← holdJ_le hg hj ha.1 (hss s hs).1 (by omega) (by omega)] at h5
   have:=hle s hs j hj
   omega
  ·intro h
   refine ⟨s2,hs2,(can_one hg hw (hnn s2 hs2)).2 ?_⟩
   rw [← e2,holdJ_le hg hj2 ha.1 (hss s2 hs2).1 (by omega) (by omega)] at h
   have:=hroom j2 hj2
   omega
 rw [plaV_of hl]
 refine ⟨hl,fun h=>?_,fun h=>?_,fun h=>?_,fun h=>?_⟩
 ·rw [if_pos (hmust.2 h)]
 ·rw [if_neg (fun h9=>by have:=hmust.1 h9;omega)]
  split <;> omega
 ·split
  ·omega
  ·rw [if_pos (hcan.2 h)];omega
 ·rw [if_neg (fun h9=>by have:=hmust.1 h9;omega),if_neg (fun h9=>by have:=hcan.1 h9;omega)]
theorem Sm.spV {e size n c:Nat} {A:Option Addr} {xs:List Value} {I:List (Nat×BA)} (h:Sm e size A n c xs I) (hl:xs.length=n * size):∃ b o,∀ (w:World) (ex:Nat→Prop),Sp w ex I A n size b o xs:=by
 rcases h with ⟨rfl,rfl,_,g,rfl,rfl⟩ | ⟨g,rfl,rfl⟩
 · exact ⟨0,0,fun w ex=>⟨fun h=>absurd h (by omega),by simp,fun _ _ _ _ h=>absurd h (by omega),fun _ _ _ _ j u hu=>by simp at hu⟩⟩
 · exact ⟨g,0,fun w ex=>Sp.row hl⟩
def LkEq (t u:Lk):Prop:=u.op=t.op∧u.sec=t.sec∧u.lo=t.lo∧u.hi=t.hi
def LkSame:List Lk→List Lk→Prop
 | [],[]=>True
 | t::r,u::s=>LkEq t u∧LkSame r s
 | _,_=>False
theorem LkSame.snoc:∀ {r s:List Lk} {t u:Lk},LkSame r s→LkEq t u→LkSame (r++[t]) (s++[u])
 | [],[],_,_,_,h=>⟨h,trivial⟩
 | _::_,_::_,_,_,h,k=>⟨h.1,LkSame.snoc h.2 k⟩
 | [],_::_,_,_,h,_=>h.elim
 | _::_,[],_,_,h,_=>h.elim
theorem LkSame.len:∀ {r s:List Lk},LkSame r s→s.length=r.length
 | [],[],_=>rfl
 | _::_,_::_,h=>by simp [LkSame.len h.2]
 | [],_::_,h=>h.elim
 | _::_,[],h=>h.elim
theorem LkSame.mem:∀ {r s:List Lk},LkSame r s→∀ u∈s,∃ t∈r,LkEq t u
 | [],[],_,_,h=>by cases h
 | t::_,v::_,h,u,hu=>by
  rcases Zx7.1 hu with rfl | hu
  ·exact ⟨t,Zz2,h.1⟩
  ·obtain ⟨x,hx,h2⟩:=LkSame.mem h.2 u hu
   exact ⟨x,Zz1 hx,h2⟩
 | [],_::_,h,_,_=>h.elim
 | _::_,[],h,_,_=>h.elim
theorem LkSame.take {r s:List Lk} {k:Nat} {t u:Lk} (h:LkSame (r.take k) s) (ht:r[k]? = some t) (h2:LkEq t u):LkSame (r.take (k+1)) (s++[u]):=by
 rw [List.take_add_one,ht]
 exact h.snoc h2
def CbPost (b:Bw) (w:World) (e:Ending) (w':World):Prop:=∃ (ts:List Lk) (A:Option Addr) (c:Nat) (D:Option Addr) (d:Nat) (I:List (Nat×BA)),
 e=.returned (.agg #[Zi b.full,Zi b.a0,Zi b.a1,.slice A b.cs.length c,.slice D ts.length d])∧LkSame b.ts ts∧BwIn ⟨b.full,b.a0,b.a1,b.cs,ts⟩ A c D d I∧Mem w noEx w' I
set_option maxHeartbeats 4000000 in
theorem copyBellow_any (b:Bw) (A:Option Addr) (c:Nat) (D:Option Addr) (d:Nat)  (w:World) (hA:Rd w w.heap.size 2 A b.cs.length (rc b.cs)) (hD:Rd w w.heap.size 4 D b.ts.length (lkc b.ts)) (hop:∀ t∈b.ts,Rd w w.heap.size 1 t.A t.op.length (ic t.op)) (nA:b.cs.length≤1000) (nD:b.ts.length≤1000) (nop:∀ t∈b.ts,t.op.length≤1000)  :
   Calls Try.prog 21 #[.agg #[Zi b.full,Zi b.a0,Zi b.a1,.slice A b.cs.length c,.slice D b.ts.length d]] w (CbPost b w):=by
 obtain ⟨bA,oA,SA⟩:=Sp.old hA
 obtain ⟨bD,oD,SD⟩:=Sp.old hD
 refine Zpx noEx Try.func21 Z 34 Z [.agg #[Zi b.full,Zi b.a0,Zi b.a1,.slice A b.cs.length c,.slice D b.ts.length d]] Z Z (Mem.init w _) ?_
 intro ac wc T M
 refine Zsr ?_
 refine Zl2 ?_
 refine Zob M T Z Z Z Z (T.e 0 Z) Z ?_;clear M T;intro g1 wc ac M T
 refine Zl2 ?_
 refine Zoa M T Z Z Z Z ?_;clear M T;intro g2 wc ac M T
 replace T:=T.pick [0,1] rfl
 refine Zln ?_
 refine Zsr ?_
 refine Zg2 (v1:=(.pointer (some ⟨g1,3,none⟩))) T (Zq (Zrg 3 Z (T.e 1 Z))) Z (Zo M 1 0 Z Z Z Z) Z ?_;intro ac T
 refine Zl2 ?_
 refine Zod T Z Z Z Z evf (.cons (T.e 0 Z) .nil) Try.func75 Z Z ?_
 refine Calls.mono (ranges_own _ _ b.cs _ (SA.rd M (Zz9 _)) (by omega)) ?_
 clear T;rintro e wc ⟨Au1,cu1,Iu1,rfl,hsmu1,N⟩ ac T
 replace M:=(M.join N).swapI
 replace M:=M.mask [true,true] rfl
 clear N
 refine lq (v:=(.pointer (some ⟨g1,3,none⟩))) T (Zrg 3 Z (T.e 4 Z)) ?_;intro ac T
 refine Zl2 ?_
 refine Zot M T Z Z (T.e 0 Z) (T.e 1 Z) Z (.tail .head) Z Z ?_;clear M T;intro wc ac M T
 replace T:=T.pick [4,5] rfl
 refine Zln ?_
 refine Zsr ?_
 refine Zg3 (v1:=(.pointer (some ⟨g1,4,none⟩))) T (Zq (Zrg 4 Z (T.e 1 Z))) Z (Zo M 1 0 Z Z Z Z) Z (Za 0 Z Z) Z ?_;intro ac T
 replace T:=T.pick [0,3,4] rfl
 refine Zln ?_
 refine Zsr ?_
 refine lq (v:=(.pointer (some ⟨g1,4,none⟩))) T (Zrg 4 Z (T.e 2 Z)) ?_;intro ac T
 refine Zl2 ?_
 refine Zot M T Z Z (T.e 0 Z) evc Z (.tail .head) Z Z ?_;clear M T;intro wc ac M T
 replace T:=T.pick [1,2,3] rfl
 refine Zln ?_
 refine wp_seq ?_
 refine Zsr ?_
 refine lq T (Zra Z evc) ?_;intro ac T
 refine Zln ?_
 refine wp_block ?_
 obtain ⟨bC,oC,hSC⟩:=hsmu1.spV (rc_length _)
 obtain ⟨IT,hIT⟩:∃ q,q=Iu1:=⟨_,rfl⟩
 rw [← hIT] at M hSC
 refine wp_loop_n (fun mz ac wc=>∃ (k:Nat) (tl:List Lk) (A5:Option Addr) (c5:Nat) (IT2 It:List (Nat×BA)),mz=b.ts.length - k∧(k≤b.ts.length)∧(tl.length=k)∧(LkSame (b.ts.take k) tl)∧(∀ t∈tl,∃ b o,∀ (w:World) (ex:Nat→Prop),Sp w ex IT2 t.A t.op.length 1 b o (ic t.op))∧(∀ (w:World) (ex:Nat→Prop),Sp w ex IT2 Au1 b.cs.length 2 bC oC (rc b.cs))∧(Sl 75 4 (.slice A5 tl.length c5) tl.length (lkc tl) It)∧Tm ac 34 [(1,Zj g1),(2,Zj g2),(3,.slice D b.ts.length d),(4,Zi (k:Int))]∧Mem w noEx wc ((g2,.cells [Zi 0,Zi 0,Zi 0,.slice none 0 0,.slice none 0 0])::(g1,.cells [Zi b.full,Zi b.a0,Zi b.a1,.slice Au1 b.cs.length cu1,.slice A5 tl.length c5])::(IT2++It))) ?_ ?_
 ·exact ⟨_,0,[],none,0,IT,[],Z,(Nat.zero_le _),Z,trivial,(fun t h=>by cases h),hSC,(Sl.nil _ _),T.pick [3,2,1,0] Z,(by simp only [Zx4];exact M)⟩
 clear T M
 rintro mz ac wc ⟨k,tl,A5,c5,IT2,It,hmm1,hk,htl,hTk,hop9,hSCx,hst,T,M⟩
 refine wp_seq ?_
 refine Zsr ?_
 refine Zg4 T (Zq (Zrm Z (T.e 3 Z))) Z (Zm 3 Z Z) Z (Zl Try.underlying25 0 Z Z) Z (fun _ T=>Zq (rn_lss Z (T.e 2 Z) (T.e 0 Z))) Z ?_;intro ac T
 replace T:=T.pick [0,4,5,6,7] rfl
 refine Zln ?_
 refine wp_if (T.e 0 Z) ?_ ?_
 ·intro h1
  obtain ⟨p,hkp,-⟩:=lkc_next (l:=b.ts) (k:=k) (by omega)
  have hmp:=List.mem_of_getElem? hkp
  refine Zsk ?_
  refine wp_seq ?_
  refine wp_block ?_
  refine Zsr ?_
  refine Zg4 (v4:=(.agg #[.slice p.A p.op.length p.c,Zi p.sec,Zi p.lo,Zi p.hi])) T (Zq (Zrm Z (T.e 3 Z))) Z (Zm 5 Z Z) Z (fun _ T=>Zq (Zri (size:=4) k Z (T.e 1 Z) (T.e 0 Z) ⟨_,Try.underlying25,by kernel_rfl⟩ Z (by omega) (SD.at0 (by omega)))) Z (fun _ T=>Zq (rn_rowat (Sp.lkcR SD M (Zz9 _) hkp) Z (T.e 0 Z) Z)) Z ?_;intro ac T
  refine Zl2 ?_
  refine Zoa M T Z Z Z Z ?_;clear M T;intro g3 wc ac M T
  refine Zl2 ?_
  refine Zot M T Z Z (T.e 0 Z) (T.e 1 Z) Z .head Z Z ?_;clear M T;intro wc ac M T
  replace T:=T.pick [0,6,7,8,9] rfl
  refine Zln ?_
  refine Zsr ?_
  refine Zg2 (v1:=(Zj g3)) T (Zq (Zrg 0 Z (T.e 0 Z))) Z (Zo M 0 0 Z Z Z Z) Z ?_;intro ac T
  refine Zl2 ?_
  refine Zod T Z Z Z Z evf (.cons (T.e 0 Z) .nil) Try.func33 Z Z ?_
  refine Calls.mono (ints_own _ _ p.op _ (M.rd (hop p hmp) (Nat.le_refl _)) (nop p hmp)) ?_
  clear T;rintro e wc ⟨Au2,cu2,Iu2,rfl,hsmu2,N⟩ ac T
  replace M:=(M.join N).swapI
  replace M:=M.mask [true,true,true] rfl
  clear N
  refine lq (v:=(Zj g3)) T (Zrg 0 Z (T.e 3 Z)) ?_;intro ac T
  refine Zl2 ?_
  refine Zot M T Z Z (T.e 0 Z) (T.e 1 Z) Z .head Z Z ?_;clear M T;intro wc ac M T
  replace T:=T.pick [4,5,6,7,8] rfl
  refine Zln ?_
  refine wp_region_lit ?_
  refine Zg3 (v1:=(.pointer (some ⟨g1,4,none⟩))) T (Zq (Zrg 4 Z (T.e 1 Z))) Z (Zo M 2 0 Z Z Z Z) Z (Zr M 0 2 Z Z Z Z) Z ?_;intro ac T
  refine Zl2 ?_
  refine ow_bs (e:=75) [.slice Au2 p.op.length cu2,Zi p.sec,Zi p.lo,Zi p.hi] M T Z Z Z Z (.cons (T.e 0 Z) .nil) (fun _=>by kernel_rfl) ?_;clear M T;intro g4 wc ac M T
  refine Zl2 ?_
  replace M:Mem w noEx wc ((g4,.cells [.slice Au2 p.op.length cu2,Zi p.sec,Zi p.lo,Zi p.hi])::(g3,.cells [.slice Au2 p.op.length cu2,Zi p.sec,Zi p.lo,Zi p.hi])::(g2,.cells [Zi 0,Zi 0,Zi 0,.slice none 0 0,.slice none 0 0])::(g1,.cells [Zi b.full,Zi b.a0,Zi b.a1,.slice Au1 b.cs.length cu1,.slice A5 tl.length c5])::(IT2++Iu2++It)):=M.tail3 (K:=[(g4,.cells [.slice Au2 p.op.length cu2,Zi p.sec,Zi p.lo,Zi p.hi]),(g3,.cells [.slice Au2 p.op.length cu2,Zi p.sec,Zi p.lo,Zi p.hi]),(g2,.cells [Zi 0,Zi 0,Zi 0,.slice none 0 0,.slice none 0 0]),(g1,.cells [Zi b.full,Zi b.a0,Zi b.a1,.slice Au1 b.cs.length cu1,.slice A5 tl.length c5])]) (A:=IT2)
  refine ow_app (((g4,.cells [.slice Au2 p.op.length cu2,Zi p.sec,Zi p.lo,Zi p.hi])::(g3,.cells [.slice Au2 p.op.length cu2,Zi p.sec,Zi p.lo,Zi p.hi])::(g2,.cells [Zi 0,Zi 0,Zi 0,.slice none 0 0,.slice none 0 0])::(g1,.cells [Zi b.full,Zi b.a0,Zi b.a1,.slice Au1 b.cs.length cu1,.slice A5 tl.length c5])::(IT2++Iu2))) Try.info75 hst M (by first | rfl | simp) T Z Z Z Z Try.underlying25 Z Z Z (by omega) (T.e 2 Z) (T.e 0 Z) (Zne (i:=0) Z) Z Z ?_;clear M T;intro ga1 cga1 wc ac M T
  refine lq (v:=(.pointer (some ⟨g1,4,none⟩))) T (Zrg 4 Z (T.e 6 Z)) ?_;intro ac T
  refine Zl2 ?_
  refine Zos M T Z Z (T.e 0 Z) (T.e 1 Z) Z (.tail (.tail (.tail (.tail .head)))) Z (by simp) Z (by kernel_rfl) ?_;clear M T;intro wc ac M T
  refine wpList_nil ?_
  replace T:=T.pick [7,8,9,10] rfl
  replace M:=M.mask [true,false,false,true,true] rfl
  refine Znb ?_
  refine nm_then ?_
  refine wp_region_lit ?_
  refine Zg2 T (Zq (Zrm Z (T.e 3 Z))) Z (fun _ T=>Zq (rn_add Z (T.e 0 Z) evc (by omega))) Z ?_;intro ac T
  refine l_q (v:=(Zi ((k:Int)+1))) (T.pick [0,1,2,3,4] Z) Z Z Z Z (Zra Z (T.e 0 Z)) ?_;intro ac T
  replace T:=T.pick [0,3,4,5] rfl
  refine Zln ?_
  have e9:tl.length+1=(tl++[(Lk.mk Au2 cu2 p.op p.sec p.lo p.hi)]).length:=by simp
  have e8:((lkc tl)++[.slice Au2 p.op.length cu2,Zi p.sec,Zi p.lo,Zi p.hi])=lkc (tl++[(Lk.mk Au2 cu2 p.op p.sec p.lo p.hi)]):=by rw [← lkc_snoc]
  rw [e9,e8] at M
  clear e9 e8
  obtain ⟨IT3,hI3⟩:∃ q,q=IT2++Iu2:=⟨_,rfl⟩
  rw [← hI3] at M
  obtain ⟨bq,oq,hSq⟩:=hsmu2.spV (by simp [ic_length])
  exact ⟨_,by omega,k+1,(tl++[(Lk.mk Au2 cu2 p.op p.sec p.lo p.hi)]),_,_,IT3,[(ga1,.row 75 4 (tl++[(Lk.mk Au2 cu2 p.op p.sec p.lo p.hi)]).length (lkc (tl++[(Lk.mk Au2 cu2 p.op p.sec p.lo p.hi)])) cga1)],rfl,(by omega),(by simp [htl]),(hTk.take hkp ⟨rfl,rfl,rfl,rfl⟩),(fun t h=>by rcases List.mem_append.1 h with h | h;obtain ⟨b9,o9,h9⟩:=hop9 t h;exact ⟨b9,o9,fun w ex=>(h9 w ex).mono (by rw [hI3];exact Zsl _ _)⟩;rw [List.mem_singleton.1 h];exact ⟨_,_,fun w ex=>(hSq w ex).mono (by rw [hI3];exact Zsq _ _)⟩),(fun w ex=>(hSCx w ex).mono (by rw [hI3];exact Zsl _ _)),(Sl.row _ _ _ _ _ _),T.pick [1,2,3,0] rfl,(Mem.swapI (I:=[(ga1,.row 75 4 (tl++[(Lk.mk Au2 cu2 p.op p.sec p.lo p.hi)]).length (lkc (tl++[(Lk.mk Au2 cu2 p.op p.sec p.lo p.hi)])) cga1)]) (L:=((g2,.cells [Zi 0,Zi 0,Zi 0,.slice none 0 0,.slice none 0 0])::(g1,.cells [Zi b.full,Zi b.a0,Zi b.a1,.slice Au1 b.cs.length cu1,.slice (some ⟨ga1,0,none⟩) ((tl++[(Lk.mk Au2 cu2 p.op p.sec p.lo p.hi)]).length) cga1])::IT3)) (M.permT [0,1,2] 3 rfl rfl rfl rfl))⟩
 intro h1
 rw [List.take_of_length_le (by omega)] at hTk
 refine wp_exit ?_
 refine Zet ?_
 refine Zet ?_
 refine ex_hit ?_
 refine nm_then ?_
 refine Zsr ?_
 refine lq T (Zrr (Mem.nth M 1 Z) Z (T.e 1 Z) Z) ?_;intro ac T
 refine Zl2 ?_
 refine Zot M T Z Z (T.e 3 Z) (T.e 0 Z) Z .head Z Z ?_;clear M T;intro wc ac M T
 refine wpList_nil ?_
 replace T:=T.pick [3] rfl
 replace M:=M.mask [true,false] rfl
 refine Znr ?_
 refine rt_c M T Z (T.e 0 Z) (Zne (i:=0) Z) Z ?_
 obtain ⟨b7,o7,h7⟩:=hst.spV (lkc_length _)
 refine ⟨tl,_,_,A5,c5,IT2++It,Z,hTk,⟨⟨_,_,fun w ex=>(hSCx w ex).mono (Zsl _ _)⟩,⟨_,_,fun w ex=>(h7 w ex).mono (Zsq _ _)⟩,fun t ht=>?_,by dsimp only;omega,by dsimp only;omega,fun t ht=>?_⟩,M.mask [false] Z⟩
 · obtain ⟨b9,o9,h9⟩:=hop9 t ht
   exact ⟨b9,o9,fun w ex=>(h9 w ex).mono (Zsl _ _)⟩
 · obtain ⟨u9,hu9,hq9⟩:=hTk.mem t ht
   rw [hq9.1]
   exact nop u9 hu9
theorem LkTrue.eq {g:List Int} {t u:Lk} (h:LkTrue g t) (e:LkEq t u):LkTrue g u:=by
 rcases u with ⟨A,c,op,sec,lo,hi⟩
 obtain ⟨e1,e2,e3,e4⟩:=e
 dsimp only at e1 e2 e3 e4
 subst e1 e2 e3 e4
 exact ⟨h.ne,h.asc,h.sec,h.lost⟩
theorem LkSame.okAll:∀ {r s:List Lk},LkSame r s→∀ l,s.all (okT l)=r.all (okT l)
 | [],[],_,_=>rfl
 | t::r,u::s,h,l=>by
  rw [List.all_cons,List.all_cons,LkSame.okAll h.2 l]
  congr 1
  unfold okT
  rw [h.1.1,h.1.2.1,h.1.2.2.1,h.1.2.2.2]
 | [],_::_,h,_=>h.elim
 | _::_,[],h,_=>h.elim
theorem LkSame.trs {r s:List Lk} (h:LkSame r s):∀ (cs:List (Int×Int)) (k:Nat) (l:List Int),trs s cs k l=trs r cs k l
 | [],k,l=>by unfold Go.Proofs.Ytoheddpnnjldgaa.trs;rw [h.okAll]
 | x::cs,k,l=>by
  unfold Go.Proofs.Ytoheddpnnjldgaa.trs
  congr 1
  funext n
  exact LkSame.trs h cs (k+1) (l.set k n)
structure Mir (b x:Bw):Prop where
 full:x.full=b.full
 a0:x.a0=b.full - b.a1
 a1:x.a1=b.full - b.a0
 cs:x.cs=b.cs
 ts:LkSame b.ts x.ts
theorem Mir.sums {b x:Bw} (h:Mir b x):sums0 x=sums0 b:=by
 unfold sums0 truthsL truthsB
 rw [h.cs,h.ts.trs]
theorem Mir.tru {b x:Bw} {g:List Int} {air:Int} (h:Mir b x) (hb:BwTrue b g air):BwTrue x g (b.full - air):=by
 have h1:=h.full
 have h2:=h.a0
 have h3:=h.a1
 have h4:=hb.full
 have h5:=hb.air
 refine ⟨by omega,by omega,by rw [h.cs];exact hb.len,by rw [h.cs];exact hb.cs,fun u hu=>?_⟩
 obtain ⟨t,ht,he⟩:=h.ts.mem u hu
 exact (hb.ts t ht).eq he
def mirW (g:List Int):List Int:=g.map fun w=>3 - w
theorem mirW_len (g:List Int):(mirW g).length=g.length:=by unfold mirW;rw [List.length_map]
theorem mirW_mir (g:List Int):mirW (mirW g)=g:=by
 unfold mirW
 rw [List.map_map]
 conv=>rhs;rw [← List.map_id g]
 congr 1
 funext w
 show 3 - (3 - w)=w
 omega
theorem mirW_get {g:List Int} {k:Nat} (hk:k < g.length):(mirW g).getD k 0=3 - g.getD k 0:=by
 unfold mirW
 rw [List.getD_eq_getElem?_getD,List.getD_eq_getElem?_getD,List.getElem?_map,List.getElem?_eq_getElem hk]
 rfl
theorem steps_mir {p:List Nt}:∀ (r b:List Int),stepsOk p b r→stepsOk p (mirW b) (mirW r)
 | [],_,_=>trivial
 | w::r,b,h=>by
  have ih:=steps_mir r (b++[w]) h.2.2
  have e:mirW (b++[w])=mirW b++[3 - w]:=by simp [mirW]
  rw [e] at ih
  refine ⟨by have:=h.1;show 3 - w=1∨3 - w=2;omega,?_,ih⟩
  have h2:=h.2.1
  unfold stepW at h2 ⊢
  rw [mirW_len]
  rcases Nat.eq_zero_or_pos b.length with h0 | h0
  ·rw [h0];rfl
  ·rw [mirW_get (by omega)]
   simp only [Bool.or_eq_true,decide_eq_true_eq] at h2 ⊢
   rcases h2 with h2 | h2
   ·exact .inl h2
   ·right;omega
theorem turnW_mir:∀ (g:List Int),turnW (mirW g)=turnW g
 | []=>rfl
 | [_]=>rfl
 | x::y::r=>by
  have:=turnW_mir (y::r)
  unfold mirW at this ⊢
  simp only [List.map_cons] at this ⊢
  unfold turnW
  rw [this]
  congr 1
  split <;> split <;> omega
theorem WayOk.mir {p:List Nt} {g:List Int} (h:WayOk p g):WayOk p (mirW g):=⟨by rw [mirW_len,h.len],steps_mir g [] h.ok⟩
def two12 (g:List Int):Prop:=∀ w∈g,w=1∨w=2
theorem WayOk.two {p:List Nt} {g:List Int} (h:WayOk p g):two12 g:=fun w hw=>stepsOk_mem g [] h.ok w hw
theorem aft_mir {w:Int} (hw:w=1∨w=2) (full y d:Int):aft (3 - w) (full - y) d=full - aft w y d:=by
 unfold aft
 rcases hw with rfl | rfl
 · simp only [show ((3:Int) - 1=1)=False from by simp,if_false,if_true];omega
 · simp only [show ((2:Int)=1)=False from by simp,if_false,show ((3:Int) - 2=1)=True from by simp,if_true];omega
def mirR (full:Int) (y:Int×Int):Int×Int:=(full - y.2,full - y.1)
theorem lv1_mir {w:Int} (hw:w=1∨w=2) (full:Int) (r:Int×Int) (q:Nt) (s:Int):lv1 (3 - w) (mirR full r) q s=mirR full (lv1 w r q s):=by
 unfold lv1 mirR
 dsimp only
 rw [aft_mir hw,aft_mir hw,aft_mir hw,aft_mir hw]
 congr 1 <;> omega
theorem levs_mir (full s:Int):∀ (p:List Nt) (r:Int×Int) (g:List Int),two12 g→levs s (mirR full r) p (mirW g)=(levs s r p g).map (mirR full)
 | [],r,g,_=>by rw [levs_nil,levs_nil];rfl
 | q::p,r,[],_=>by unfold mirW levs;rfl
 | q::p,r,w::g,h=>by
  have ih:=levs_mir full s p (lv1 w r q s) g fun v hv=>h v (Zz1 hv)
  have e:=lv1_mir (h w Zz2) full r q s
  unfold mirW at ih ⊢
  rw [List.map_cons]
  unfold levs
  rw [e,List.map_cons,ih]
theorem must_mir {b x:Bw} (hm:Mir b x) {p:List Nt} {g:List Int} (hg:two12 g) (s:Int):mustB x p (mirW g) s=mustB b p g s:=by
 have e:(x.a0,x.a1)=mirR b.full (b.a0,b.a1):=by unfold mirR;rw [hm.a0,hm.a1]
 unfold mustB
 rw [e,levs_mir _ _ _ _ _ hg,List.all_map,hm.full]
 congr 1
 funext y
 show (decide (0≤b.full - y.2) && decide (b.full - y.1≤b.full))=_
 rw [Bool.and_comm]
 congr 1 <;> exact decide_eq_decide.2 (by omega)
theorem alw_mir {b x:Bw} (hm:Mir b x) {p:List Nt} {g:List Int} (hg:two12 g) (ss:List Int):alwB x p ss (mirW g)=alwB b p ss g:=by
 unfold alwB
 congr 1
 funext s
 exact must_mir hm hg s
theorem anyI_mir {full:Int} {f f':Int→Bool} (h:∀ y,f' y=f (full - y)):(upI 0 full).any f'=(upI 0 full).any f:=by
 rw [Bool.eq_iff_iff,List.any_eq_true,List.any_eq_true]
 constructor
 ·rintro ⟨y,hy,h1⟩
  rw [upI_mem] at hy
  exact ⟨full - y,upI_mem.2 (by omega),by rw [← h];exact h1⟩
 ·rintro ⟨y,hy,h1⟩
  rw [upI_mem] at hy
  exact ⟨full - y,upI_mem.2 (by omega),by rw [h,show full - (full - y)=y by omega];exact h1⟩
theorem nx_mir {full w s:Int} (hw:w=1∨w=2) {q:Nt} {S S':Int→Bool} (h:∀ y,S' y=S (full - y)) (y:Int):nxB full (3 - w) s q S' y=nxB full w s q S (full - y):=by
 unfold nxB
 congr 1
 ·rw [Bool.and_comm]
  congr 1 <;> exact decide_eq_decide.2 (by omega)
 ·refine anyI_mir fun a=>?_
  rw [h]
  congr 1
  congr 1
  funext d
  have:=aft_mir hw full (full - a) (q.sec * (d+s))
  rw [show full - (full - a)=a by omega] at this
  rw [this]
  exact decide_eq_decide.2 (by omega)
theorem canF_mir {full s:Int}:∀ (p:List Nt) (g:List Int) (S S':Int→Bool),two12 g→(∀ y,S' y=S (full - y))→canF full s S' p (mirW g)=canF full s S p g
 | [],_,_,_,_,_=>by rw [canF_nil,canF_nil]
 | _::_,[],_,_,_,_=>by unfold mirW canF;rfl
 | q::p,w::g,S,S',hg,h=>by
  have hw:=hg w Zz2
  have ih:=canF_mir (full:=full) (s:=s) p g (nxB full w s q S) (nxB full (3 - w) s q S') (fun v hv=>hg v (Zz1 hv)) (nx_mir hw h)
  unfold mirW at ih ⊢
  rw [List.map_cons]
  unfold canF
  rw [ih,anyI_mir (nx_mir hw h)]
theorem can_mir {b x:Bw} (hm:Mir b x) {p:List Nt} {g:List Int} (hg:two12 g) (s:Int):canB x p (mirW g) s=canB b p g s:=by
 unfold canB
 rw [hm.full]
 refine canF_mir p g _ _ hg fun y=>?_
 rw [hm.a0,hm.a1,Bool.and_comm]
 congr 1 <;> exact decide_eq_decide.2 (by omega)
theorem hop_mir {b x:Bw} (hm:Mir b x) {p:List Nt} {g:List Int} (hg:two12 g) (ss:List Int):hopB x p ss (mirW g)=hopB b p ss g:=by
 unfold hopB
 congr 1
 funext s
 exact can_mir hm hg s
theorem zip_mir (full:Int):∀ (l m:List (Int×Int)),List.zipWith mm2 (l.map (mirR full)) (m.map (mirR full))=(List.zipWith mm2 l m).map (mirR full)
 | [],_=>rfl
 | _::_,[]=>rfl
 | x::l,y::m=>by
  simp only [List.map_cons,List.zipWith_cons_cons]
  rw [zip_mir full l m]
  congr 1
  unfold mm2 mirR
  dsimp only
  congr 1 <;> omega
theorem fold_mir (full:Int) (f:Int→List (Int×Int)):∀ (r:List Int) (a:List (Int×Int)),r.foldl (fun acc t=>List.zipWith mm2 acc ((f t).map (mirR full))) (a.map (mirR full))=(r.foldl (fun acc t=>List.zipWith mm2 acc (f t)) a).map (mirR full)
 | [],_=>rfl
 | s::r,a=>by
  rw [List.foldl_cons,List.foldl_cons,zip_mir]
  exact fold_mir full f r _
theorem levF_mir (full:Int) (f:Int→List (Int×Int)):∀ (ss:List Int),levF (fun s=>(f s).map (mirR full)) ss=(levF f ss).map (mirR full)
 | []=>rfl
 | s::r=>fold_mir full f r (f s)
theorem bysT_sorted (p:List Nt):(bysT p).Pairwise fun a c=>turnW a≤turnW c:=by
 unfold bysT bysN
 rw [List.pairwise_flatMap]
 refine ⟨fun m _=>?_,?_⟩
 ·refine List.Pairwise.imp_of_mem (R:=fun _ _=>True) (fun {a c} ha hc _=>?_) (List.pairwise_of_forall (fun _ _=>trivial))
  obtain ⟨r,-,-,-,h1⟩:=(wayK_mem _ _).1 ha
  obtain ⟨r',-,-,-,h2⟩:=(wayK_mem _ _).1 hc
  omega
 ·refine List.Pairwise.imp (fun {m n} h a ha c hc=>?_) List.pairwise_lt_range
  obtain ⟨r,-,-,-,h1⟩:=(wayK_mem _ _).1 ha
  obtain ⟨r',-,-,-,h2⟩:=(wayK_mem _ _).1 hc
  omega
theorem find_least {α:Type} {f:α→Int} {pr:α→Bool}:∀ {l:List α} {a:α},l.Pairwise (fun a c=>f a≤f c)→l.find? pr=some a→∀ c∈l,pr c=true→f a≤f c
 | [],_,_,h,_,_,_=>by cases h
 | x::l,a,hp,h,c,hc,hpc=>by
  rw [List.find?_cons] at h
  rw [List.pairwise_cons] at hp
  split at h
  ·injection h with h
   subst h
   rcases Zx7.1 hc with rfl | hc
   ·exact Int.le_refl _
   ·exact hp.1 c hc
  ·rename_i h1
   rcases Zx7.1 hc with rfl | hc
   ·rw [hpc] at h1;cases h1
   ·exact find_least hp.2 h c hc hpc
theorem tur_mir {b x:Bw} {g:List Int} {air:Int} {p:List Nt} (hb:BwTrue b g air) (h4:g.length≤4) (h3:b.ts.length≤3) (hm:Mir b x) (hp:NtGood p):turE x p=turE b p∧turnW (turL x p)=turnW (turL b p):=by
 have hk:knownE b [pieceE p]=0:=hb.known h4 h3 fun e he=>by rw [List.mem_singleton.1 he,pieceE_of hp]
 have hkx:knownE x [pieceE p]=0:=(hm.tru hb).known h4 (by rw [hm.ts.len];exact h3) fun e he=>by rw [List.mem_singleton.1 he,pieceE_of hp]
 have n1 : ¬ (knownE b [pieceE p]≠0):=by omega
 have n2 : ¬ (knownE x [pieceE p]≠0):=by omega
 unfold turE turL
 rw [if_neg n1,if_neg n1,if_neg n2,if_neg n2,hm.sums]
 have ok:∀ g,g∈bysT p→mirW g∈bysT p∧two12 g:=fun g hg=>by
  obtain ⟨h1,h2⟩:=bysT_mem.1 hg
  have hw:WayOk p g:=⟨h1,h2⟩
  exact ⟨bysT_mem.2 ⟨hw.mir.len,hw.mir.ok⟩,hw.two⟩
 cases e1:(bysT p).find? (alwB b p (sums0 b)) with
 | none =>
  cases e2:(bysT p).find? (alwB x p (sums0 b)) with
  | none=>exact ⟨rfl,rfl⟩
  | some g2 =>
   have m2:=List.mem_of_find?_eq_some e2
   have p2:=List.find?_some e2
   obtain ⟨k1,k2⟩:=ok g2 m2
   have:=List.find?_eq_none.1 e1 _ k1
   rw [← alw_mir hm (ok _ k1).2,mirW_mir] at this
   exact absurd p2 this
 | some g1 =>
  have m1:=List.mem_of_find?_eq_some e1
  have p1:=List.find?_some e1
  obtain ⟨k1,k2⟩:=ok g1 m1
  have q1:alwB x p (sums0 b) (mirW g1)=true:=by rw [alw_mir hm k2];exact p1
  cases e2:(bysT p).find? (alwB x p (sums0 b)) with
  | none=>exact absurd q1 (List.find?_eq_none.1 e2 _ k1)
  | some g2 =>
   have m2:=List.mem_of_find?_eq_some e2
   have p2:=List.find?_some e2
   obtain ⟨l1,l2⟩:=ok g2 m2
   have q2:alwB b p (sums0 b) (mirW g2)=true:=by rw [← alw_mir hm (ok _ l1).2,mirW_mir];exact p2
   have o1:=find_least (bysT_sorted p) e2 _ k1 q1
   have o2:=find_least (bysT_sorted p) e1 _ l1 q2
   rw [turnW_mir] at o1 o2
   refine ⟨rfl,?_⟩
   show turnW g2=turnW g1
   omega
theorem spn_ext {l l':List Int} (h:∀ v,v∈l↔v∈l') (hn:l≠[]):spn l=spn l':=by
 have hn':l'≠[]:=by
  obtain ⟨v,hv⟩:=List.exists_mem_of_ne_nil _ hn
  exact List.ne_nil_of_mem ((h v).1 hv)
 obtain ⟨a1,a2⟩:=spn_ends hn
 obtain ⟨b1,b2⟩:=spn_ends hn'
 have c1:=spn_mem ((h _).1 a1)
 have c2:=spn_mem ((h _).1 a2)
 have d1:=spn_mem ((h _).2 b1)
 have d2:=spn_mem ((h _).2 b2)
 refine Prod.ext ?_ ?_ <;> omega
theorem holdJ_mir {b x:Bw} (hm:Mir b x) {air s:Int} {j i:Nat} (h:(j:Int)+(i:Int)=b.a1 - b.a0):holdJ x air 2 s i=holdJ b air 1 s j:=by
 have e:roomW 2 (x.a0+(i:Int)) x.full=roomW 1 (b.a0+(j:Int)) b.full:=by
  unfold roomW
  rw [if_neg (by omega),if_pos rfl,hm.full,hm.a0]
  omega
 unfold holdJ
 rw [e]
theorem hol_mir {b x:Bw} {g:List Int} {air0:Int} (hb:BwTrue b g air0) (h4:g.length≤4) (h3:b.ts.length≤3) (hm:Mir b x) {air:Int} (ha:0≤air∧air≤9):holE b air 1=0∧holE x air 2=0∧holR x air 2=holR b air 1:=by
 have hx:=hm.tru hb
 have h3x:x.ts.length≤3:=by rw [hm.ts.len];exact h3
 have e1:=(held_law (air:=air) (way:=1) hb h4 h3 ha (.inl rfl)).1
 have e2:=(held_law (air:=air) (way:=2) hx h4 h3x ha (.inr rfl)).1
 refine ⟨e1,e2,?_⟩
 have R1:holR b air 1=spn (holdT b air 1 (cornL b.cs.length []) (truthsL b)):=by unfold holR;rw [if_neg (by omega)]
 have R2:holR x air 2=spn (holdT x air 2 (cornL x.cs.length []) (truthsL x)):=by unfold holR;rw [if_neg (by omega)]
 rw [R1,R2]
 have hga:=(hb.good h4 h3).air
 have hA:airN x=airN b:=by unfold airN;rw [hm.a0,hm.a1];omega
 have hn0:0 < airN b:=by unfold airN;omega
 obtain ⟨s0,hs0⟩:=List.exists_mem_of_ne_nil _ (sums_pos e1)
 refine spn_ext (fun v=>?_) (List.ne_nil_of_mem (hold_mem.2 ⟨s0,by rw [hm.sums];exact hs0,0,by omega,Z⟩))
 rw [hold_mem,hold_mem,hm.sums,hA]
 constructor
 ·rintro ⟨s,hs,i,hi,rfl⟩
  refine ⟨s,hs,airN b - 1 - i,by omega,(holdJ_mir hm ?_).symm⟩
  unfold airN at hi ⊢
  omega
 ·rintro ⟨s,hs,j,hj,rfl⟩
  refine ⟨s,hs,airN b - 1 - j,by omega,holdJ_mir hm ?_⟩
  unfold airN at hj ⊢
  omega
def inC (C:Int) (y:Int×Int):Prop:=(-C≤y.1∧y.1≤C)∧-C≤y.2∧y.2≤C
theorem inC.mono {C D:Int} {y:Int×Int} (h:inC C y) (hd:C≤D):inC D y:=by
 unfold inC at h ⊢
 omega
theorem lv1_bd {w s C:Int} {r:Int×Int} {q:Nt} (hq:(1≤q.sec∧q.sec≤20)∧0≤q.lo∧q.lo≤q.hi∧q.hi≤9) (hs:0≤s∧s≤20) (h:inC C r):inC (C+580) (lv1 w r q s):=by
 have h1:=secM (s:=q.sec) (q:=q.lo+s) hq.1 (by omega)
 have h2:=secM (s:=q.sec) (q:=q.hi+s) hq.1 (by omega)
 unfold inC at h ⊢
 unfold lv1 aft
 dsimp only
 split <;> omega
theorem levs_bd {s:Int} (hs:0≤s∧s≤20):∀ (p:List Nt) (r:Int×Int) (g:List Int) (C:Int),(∀ q∈p,(1≤q.sec∧q.sec≤20)∧0≤q.lo∧q.lo≤q.hi∧q.hi≤9)→inC C r→∀ y∈levs s r p g,inC (C+580 * p.length) y
 | [],r,g,C,_,_,y,hy=>by rw [levs_nil] at hy;cases hy
 | q::p,r,[],C,_,_,y,hy=>by unfold levs at hy;cases hy
 | q::p,r,w::g,C,hq,h,y,hy=>by
  have h1:=lv1_bd (w:=w) (hq q Zz2) hs h
  unfold levs at hy
  simp only [Zx1]
  rcases Zx7.1 hy with rfl | hy
  ·exact h1.mono (by push_cast;omega)
  ·exact (levs_bd hs p _ g (C+580) (fun z hz=>hq z (Zz1 hz)) h1 y hy).mono (by push_cast;omega)
theorem zip_bd {C:Int}:∀ {l m:List (Int×Int)},(∀ y∈l,inC C y)→(∀ y∈m,inC C y)→∀ y∈List.zipWith mm2 l m,inC C y
 | [],_,_,_,y,hy=>by cases hy
 | _::_,[],_,_,y,hy=>by cases hy
 | a::l,c::m,h1,h2,y,hy=>by
  rw [List.zipWith_cons_cons] at hy
  rcases Zx7.1 hy with rfl | hy
  ·have k1:=h1 a Zz2
   have k2:=h2 c Zz2
   unfold inC at k1 k2 ⊢
   unfold mm2
   dsimp only
   omega
  ·exact zip_bd (fun z hz=>h1 z (Zz1 hz)) (fun z hz=>h2 z (Zz1 hz)) y hy
theorem fold_bd {C:Int} {f:Int→List (Int×Int)}:∀ (r:List Int) (a:List (Int×Int)),(∀ s∈r,∀ y∈f s,inC C y)→(∀ y∈a,inC C y)→∀ y∈r.foldl (fun acc t=>List.zipWith mm2 acc (f t)) a,inC C y
 | [],_,_,ha,y,hy=>ha y hy
 | s::r,a,h,ha,y,hy=>fold_bd r _ (fun t ht=>h t (Zz1 ht)) (zip_bd ha (h s Zz2)) y hy
theorem levF_bd {C:Int} {f:Int→List (Int×Int)}:∀ {ss:List Int},(∀ s∈ss,∀ y∈f s,inC C y)→∀ y∈levF f ss,inC C y
 | [],_,y,hy=>by cases hy
 | s::r,h,y,hy=>fold_bd r _ (fun t ht=>h t (Zz1 ht)) (h s Zz2) y hy
theorem lvl_bd {b:Bw} {p:List Nt} {g:List Int} (hg:BwGood b) (hp:NtGood p):∀ y∈lvlL b p g,inC 4000 y:=by
 unfold lvlL
 split
 ·intro y hy;cases hy
 ·refine levF_bd fun s hs y hy=>?_
  have h1:=levs_bd (sums0_bd hg s hs) p (b.a0,b.a1) g 200 hp.ok (by have:=hg.air;have:=hg.full;unfold inC;dsimp only;omega) y hy
  exact h1.mono (by have:=hp.n6;omega)
theorem mirror_law {b x:Bw} {gl:List Int} {air:Int} {p:List Nt} {g:List Int} (hb:BwTrue b gl air) (h4:gl.length≤4) (h3:b.ts.length≤3) (hm:Mir b x) (hp:NtGood p) (hw:WayOk p g) :
  lvlE b p g=0∧lvlE x p (mirW g)=0∧plaV x p (mirW g)=plaV b p g∧turE x p=turE b p∧turnW (turL x p)=turnW (turL b p)∧holE b 2 1=0∧holE x 2 2=0∧holR x 2 2=holR b 2 1∧(lvlL b p g).length=p.length∧(lvlL x p (mirW g)).length=p.length ∧
  ∀ (i:Nat) (y z:Int×Int),(lvlL b p g)[i]? = some y→(lvlL x p (mirW g))[i]? = some z→(z.1=b.full - y.2∧z.2=b.full - y.1)∧inC 4000 y:=by
 have hx:=hm.tru hb
 have h3x:x.ts.length≤3:=by rw [hm.ts.len];exact h3
 have e1:=hb.lvl h4 h3 hp hw
 have e2:=hx.lvl h4 h3x hp hw.mir
 obtain ⟨t1,t2⟩:=tur_mir hb h4 h3 hm hp
 obtain ⟨k1,k2,k3⟩:=hol_mir hb h4 h3 hm (air:=2) (by omega)
 refine ⟨e1,e2,?_,t1,t2,k1,k2,k3,lvlL_len e1 hw.len,lvlL_len e2 hw.mir.len,fun i y z hy hz=>?_⟩
 ·rw [plaV_of e1,plaV_of e2,hm.sums,alw_mir hm hw.two,hop_mir hm hw.two]
 ·have e:lvlL x p (mirW g)=(lvlL b p g).map (mirR b.full):=by
   rw [lvlL_of e1,lvlL_of e2,hm.sums,← levF_mir]
   congr 1
   funext s
   rw [← levs_mir _ _ _ _ _ hw.two]
   congr 1
   unfold mirR
   rw [hm.a0,hm.a1]
  rw [e,List.getElem?_map,hy] at hz
  injection hz with hz
  subst hz
  exact ⟨⟨rfl,Z⟩,lvl_bd (hb.good h4 h3) hp y (List.mem_of_getElem? hy)⟩
section
open Go.RowKit Go.Proofs.Ytoheddpnnjldgaa.Bq
theorem copyMir_any (b:Bw) (A:Option Addr) (c:Nat) (D:Option Addr) (d:Nat) (w:World) (hA:Rd w w.heap.size 2 A b.cs.length (rc b.cs)) (hD:Rd w w.heap.size 4 D b.ts.length (lkc b.ts)) (hop:∀ t∈b.ts,Rd w w.heap.size 1 t.A t.op.length (ic t.op)) (nA:b.cs.length≤1000) (nD:b.ts.length≤1000) (nop:∀ t∈b.ts,t.op.length≤1000) :
  Calls Try.prog 21 #[.agg #[Zi b.full,Zi b.a0,Zi b.a1,.slice A b.cs.length c,.slice D b.ts.length d]] w fun e w'=>∃ (x:Bw) (A:Option Addr) (c:Nat) (D:Option Addr) (d:Nat) (I:List (Nat×BA)),
   e=.returned (.agg #[Zi x.full,Zi b.a0,Zi b.a1,.slice A x.cs.length c,.slice D x.ts.length d])∧Mir b x∧BwIn x A c D d I∧Mem w noEx w' I :=
 (copyBellow_any b A c D d w hA hD hop nA nD nop).mono fun e w' h=>by
  obtain ⟨ts,A2,c2,D2,d2,I,he,hs,hI,M⟩:=h
  exact ⟨⟨b.full,b.full - b.a1,b.full - b.a0,b.cs,ts⟩,A2,c2,D2,d2,I,he,⟨rfl,Z,Z,Z,hs⟩,⟨hI.cs,hI.ts,hI.op,hI.few⟩,M⟩
theorem toE {x y a c:Int} (h1:x=a) (h2:y=c) (w:World):Calls Try.prog 48 #[Zi x,Zi y] w fun e w'=>e=.returned (.agg #[Zi a,Zi c])∧Below w.heap.size w w':=by
 subst h1 h2
 exact to_any x y w
set_option maxHeartbeats 4000000 in
theorem BellowMirrored_any {J:Nat→Option Obj} (hP:FuncsOk Try.prog) (D:Option Addr) (n d:Nat) (l:List Int) (w:World) (hl:Rd w w.heap.size 1 D n (ic l)) (hm:n≤9223372036854775807) :
   TopB Try.prog J 9 Try.f9 #[.slice D n d] w fun e w'=>e=.returned (.bool true)∧Below w.heap.size w w':=by
 have hll:=hl.len1
 obtain ⟨bI,oI,SI⟩:=Sp.old hl
 refine px_enterT hP noEx Try.func9 Z 215 Z [.slice D n d] Z Z (Mem.init w _) ?_ (fun _ _ h=>⟨_,h.1⟩)
 intro ac wc T M
 refine wpB_seq hP ?_
 refine b_lone hP w fun T9=>?_
 replace M:=M.tp T9 0 0
 replace SI:=SI.tp T9 0
 refine wp_region_lit ?_
 refine lq T (Zra Z evc) ?_;intro ac T
 refine wpList_nil ?_
 refine nqR_n M ?_;clear M;intro wc M
 replace SI:=SI.pt
 replace T:=T.pick [1] rfl
 refine nm_then ?_
 refine wpB_seq hP ?_
 refine b_lone hP w fun T9=>?_
 replace M:=M.tp T9 0 0
 replace SI:=SI.tp T9 0
 refine wp_region_lit ?_
 refine lq T (Zrm Z (T.e 0 Z)) ?_;intro ac T
 refine Zl2 ?_
 refine Zod T Z Z Z Z evf (.cons (T.e 0 Z) .nil) Try.func17 Z Z ?_
 refine Calls.mono (newPot_any _ _ _ l _ (SI.rd M (Zz9 _)) (by omega)) ?_
 clear T;rintro e wc ⟨bpu1,su1,hsu1,rfl,N⟩ ac T
 replace M:=M.join N;clear N
 replace M:=M.mask [true] rfl
 refine lq T (Zra Z (T.e 0 Z)) ?_;intro ac T
 refine wpList_nil ?_
 refine nqR_n M ?_;clear M;intro wc M
 replace SI:=SI.pt
 replace T:=T.pick [0] rfl
 refine nm_then ?_
 refine wpB_seq hP ?_
 refine b_lone hP w fun T9=>?_
 replace M:=M.tp T9 0 0
 replace SI:=SI.tp T9 0
 refine wp_region_lit ?_
 refine lq T (Zrm Z (T.e 0 Z)) ?_;intro ac T
 refine Zl2 ?_
 refine Zod T Z Z Z Z evf (.cons (T.e 0 Z) (.cons evc (.cons evc .nil))) Try.func18 Z Z ?_
 refine Calls.mono (bellowOf_any _ bpu1 3 2 _ (by omega) (by omega) (M.nth 0 Z) hsu1) ?_
 clear T;rintro e wc ⟨bu2,gu2,airu2,Abu2,cbu2,Dbu2,dbu2,Gbu2,nbu2,su2,Ibu2,rfl,hBtu2,hBgu2,hBnu2,hsu2,hBiu2,⟨bGu2,oGu2,hGsu2⟩,N⟩ ac T
 replace M:=(M.joinW2 .head N).swapI
 clear N
 replace M:Mem (Bq.tp w T9 0) noEx wc ((bpu1,.cells [.int .u64 su2])::Ibu2):=M
 have SGu2:=hGsu2 (Bq.tp w T9 0) noEx
 have hB4u2:gu2.length≤4:=by omega
 have hB3u2:bu2.ts.length≤3:=by omega
 refine Zg4 T (Zq (Zrm Z (T.e 0 Z))) Z (Ze 0 Z Z Z) Z (Ze 1 Z Z Z) Z (Ze 2 Z Z Z) Z ?_;intro ac T
 refine Zl2 ?_
 refine Zoa M T Z Z Z Z ?_;clear M T;intro g1 wc ac M T
 refine Zl2 ?_
 refine Zot M T Z Z (T.e 0 Z) (T.e 3 Z) Z .head Z Z ?_;clear M T;intro wc ac M T
 refine Zg2 T (Zq (Zra Z (T.e 2 Z))) Z (Za 2 Z Z) Z ?_;intro ac T
 refine wpList_nil ?_
 refine nqR_n M ?_;clear M;intro wc M
 replace SGu2:=SGu2.pt
 replace SI:=SI.pt
 replace T:=T.pick [2,9] rfl
 refine nm_then ?_
 refine wpB_seq hP ?_
 refine b_lone hP w fun T9=>?_
 replace M:=M.tp T9 0 0
 replace SGu2:=SGu2.tp T9 0
 replace SI:=SI.tp T9 0
 refine wp_region_lit ?_
 refine lq T (Zrm Z (T.e 1 Z)) ?_;intro ac T
 refine Zl2 ?_
 refine Zod T Z Z Z Z evf (.cons (T.e 0 Z) (.cons evc .nil)) Try.func25 Z Z ?_
 refine Calls.mono (pieceOf_any _ bpu1 5 _ (by omega) (M.nth 1 Z) hsu2) ?_
 clear T;rintro e wc ⟨pu3,aau3,Apu3,cpu3,Bpu3,dpu3,su3,Ipu3,rfl,hPtu3,hPlu3,hPmu3,hPcu3,hsu3,⟨bqu3,oqu3,hSpu3⟩,⟨bru3,oru3,hSau3⟩,N⟩ ac T
 replace M:=(M.joinW2 (.tail .head) N).swapI
 clear N
 replace M:Mem (Bq.tp w T9 0) noEx wc ((g1,.cells [Zi bu2.full,Zi bu2.a0,Zi bu2.a1,.slice Abu2 bu2.cs.length cbu2,.slice Dbu2 bu2.ts.length dbu2])::(bpu1,.cells [.int .u64 su3])::(Ibu2++Ipu3)):=M
 have SPu3:=hSpu3 (Bq.tp w T9 0) noEx
 have SAu3:=hSau3 (Bq.tp w T9 0) noEx
 have hpgu3:NtGood pu3:=⟨by omega,hPtu3.good⟩
 have hp6u3:=hpgu3.n6
 refine Zg5 T (Zq (Zrm Z (T.e 0 Z))) Z (Ze 0 Z Z Z) Z (Ze 1 Z Z Z) Z (Za 1 Z Z) Z (Za 1 Z Z) Z ?_;intro ac T
 refine wpList_nil ?_
 refine nqR_n M ?_;clear M;intro wc M
 replace SAu3:=SAu3.pt
 replace SGu2:=SGu2.pt
 replace SI:=SI.pt
 replace SPu3:=SPu3.pt
 replace T:=T.pick [1,7,8] rfl
 refine nm_then ?_
 refine wpB_seq hP ?_
 refine b_lone hP w fun T9=>?_
 replace M:=M.tp T9 0 0
 replace SAu3:=SAu3.tp T9 0
 replace SGu2:=SGu2.tp T9 0
 replace SI:=SI.tp T9 0
 replace SPu3:=SPu3.tp T9 0
 refine wp_region_lit ?_
 refine Zg2 T (Zq (Zrm Z (T.e 2 Z))) Z (Zm 1 Z Z) Z ?_;intro ac T
 refine Zl2 ?_
 refine Zod T Z Z Z Z evf (.cons (T.e 1 Z) (.cons (T.e 0 Z) .nil)) Try.func32 Z Z ?_
 refine Calls.mono (waysOf_any _ bpu1 pu3 Apu3 cpu3 _ (SPu3.rd M (.cons _ (.cons _ (Zsq _ _)))) (by omega) (M.nth 1 Z) hsu3) ?_
 clear T;rintro e wc ⟨gu4,Au4,cu4,su4,Iu4,rfl,hWu4,hsu4,hgcu4,⟨bu4,ou4,hSgu4⟩,N⟩ ac T
 replace M:=(M.joinW2 (.tail .head) N).swapI
 clear N
 replace M:Mem (Bq.tp w T9 0) noEx wc ((g1,.cells [Zi bu2.full,Zi bu2.a0,Zi bu2.a1,.slice Abu2 bu2.cs.length cbu2,.slice Dbu2 bu2.ts.length dbu2])::(bpu1,.cells [.int .u64 su4])::(Ibu2++Ipu3++Iu4)):=M
 have SWu4:=hSgu4 (Bq.tp w T9 0) noEx
 have hglu4:=hWu4.len
 refine lq T (Zra Z (T.e 0 Z)) ?_;intro ac T
 refine wpList_nil ?_
 refine nqR_n M ?_;clear M;intro wc M
 replace SAu3:=SAu3.pt
 replace SGu2:=SGu2.pt
 replace SI:=SI.pt
 replace SPu3:=SPu3.pt
 replace SWu4:=SWu4.pt
 replace T:=T.pick [0,4,5] rfl
 replace M:=M.mask [true,false] rfl
 replace M:Mem w noEx wc ((g1,.cells [Zi bu2.full,Zi bu2.a0,Zi bu2.a1,.slice Abu2 bu2.cs.length cbu2,.slice Dbu2 bu2.ts.length dbu2])::(Ibu2++Ipu3++Iu4)):=M
 refine nm_then ?_
 refine wpB_seq hP ?_
 refine b_lone hP w fun T9=>?_
 replace M:=M.tp T9 0 0
 replace SAu3:=SAu3.tp T9 0
 replace SGu2:=SGu2.tp T9 0
 replace SI:=SI.tp T9 0
 replace SPu3:=SPu3.tp T9 0
 replace SWu4:=SWu4.tp T9 0
 refine wp_region_lit ?_
 refine lq T (Zrr (Mem.nth M 0 Z) Z (T.e 2 Z) Z) ?_;intro ac T
 refine Zl2 ?_
 obtain ⟨hA9,hD9,hop9⟩:=hBiu2.rd M (.cons _ (subL (subL (List.Sublist.refl _))))
 obtain ⟨nA9,nD9,nop9⟩:=hBiu2.few
 refine Zod T Z Z Z Z evf (.cons (T.e 0 Z) .nil) Try.func21 Z Z ?_
 refine Calls.mono (copyMir_any bu2 Abu2 cbu2 Dbu2 dbu2 _ hA9 hD9 hop9 nA9 nD9 nop9) ?_
 clear T;rintro e wc ⟨xu5,Axu5,cxu5,Dxu5,dxu5,Ixu5,rfl,hmu5,hIxu5,N⟩ ac T
 replace M:=(M.join N).swapI
 clear N
 replace M:Mem (Bq.tp w T9 0) noEx wc ((g1,.cells [Zi bu2.full,Zi bu2.a0,Zi bu2.a1,.slice Abu2 bu2.cs.length cbu2,.slice Dbu2 bu2.ts.length dbu2])::(Ibu2++Ipu3++Iu4++Ixu5)):=M
 have hBa:=hBtu2.air
 have hBf:=hBtu2.full
 refine Zl2 ?_
 refine Zoa M T Z Z Z Z ?_;clear M T;intro g2 wc ac M T
 refine Zl2 ?_
 refine Zot M T Z Z (T.e 0 Z) (T.e 1 Z) Z .head Z Z ?_;clear M T;intro wc ac M T
 refine wpList_nil ?_
 refine nqR_n M ?_;clear M;intro wc M
 replace SAu3:=SAu3.pt
 replace SGu2:=SGu2.pt
 replace SI:=SI.pt
 replace SPu3:=SPu3.pt
 replace SWu4:=SWu4.pt
 replace T:=T.pick [0,3,4,5] rfl
 refine nm_then ?_
 refine wpB_seq hP ?_
 refine b_lone hP w fun T9=>?_
 replace M:=M.tp T9 0 0
 replace SAu3:=SAu3.tp T9 0
 replace SGu2:=SGu2.tp T9 0
 replace SI:=SI.tp T9 0
 replace SPu3:=SPu3.tp T9 0
 replace SWu4:=SWu4.tp T9 0
 refine wp_region_lit ?_
 refine Zg8 (v1:=(Zj g1)) (v3:=(.pointer (some ⟨g1,1,none⟩))) (v4:=(.pointer (some ⟨g1,2,none⟩))) (v7:=(Zj g1)) T (Zq (Zrg 0 Z (T.e 3 Z))) Z (Zo M 1 0 Z Z Z Z) Z (Zf 1 5 Z Z) Z (Zf 1 0 Z Z) Z (Zo M 1 0 Z Z Z Z) Z (fun _ T=>Zq (rn_sub Z (T.e 3 Z) (T.e 0 Z) (by omega))) Z (Zf 0 9 Z Z) Z (Zo M 1 0 Z Z Z Z) Z ?_;intro ac T
 refine Zg4 (v1:=(.pointer (some ⟨g1,1,none⟩))) (v2:=(.pointer (some ⟨g1,1,none⟩))) T (Zq (Zrg 1 Z (T.e 11 Z))) Z (Zf 0 0 Z Z) Z (Zo M 1 0 Z Z Z Z) Z (fun _ T=>Zq (rn_sub Z (T.e 3 Z) (T.e 0 Z) (by omega))) Z ?_;intro ac T
 refine Zl2 ?_
 refine Zod T Z Z Z Z evf (.cons (T.e 6 Z) (.cons (T.e 0 Z) .nil)) Try.func48 Z Z ?_
 refine Calls.mono (toE (x:=(bu2.full - bu2.a1)) (y:=(bu2.full - bu2.a0)) hmu5.a0.symm hmu5.a1.symm _) ?_
 clear T;rintro e wc ⟨rfl,hb⟩ ac T
 replace M:=M.call hb;clear hb
 refine lq (v:=(.pointer (some ⟨g2,1,none⟩))) T (Zrg 1 Z (T.e 13 Z)) ?_;intro ac T
 refine Zl2 ?_
 refine Zot M T Z Z (T.e 0 Z) (T.e 1 Z) Z .head Z Z ?_;clear M T;intro wc ac M T
 refine wpList_nil ?_
 refine nqR_n M ?_;clear M;intro wc M
 replace SAu3:=SAu3.pt
 replace SGu2:=SGu2.pt
 replace SI:=SI.pt
 replace SPu3:=SPu3.pt
 replace SWu4:=SWu4.pt
 replace T:=T.pick [14,15,16,17] rfl
 refine nm_then ?_
 refine wpB_seq hP ?_
 refine b_lone hP w fun T9=>?_
 replace M:=M.tp T9 0 0
 replace SAu3:=SAu3.tp T9 0
 replace SGu2:=SGu2.tp T9 0
 replace SI:=SI.tp T9 0
 replace SPu3:=SPu3.tp T9 0
 replace SWu4:=SWu4.tp T9 0
 refine wp_region_lit ?_
 refine lq T (Zra Z evc) ?_;intro ac T
 refine wpList_nil ?_
 refine nqR_n M ?_;clear M;intro wc M
 replace SAu3:=SAu3.pt
 replace SGu2:=SGu2.pt
 replace SI:=SI.pt
 replace SPu3:=SPu3.pt
 replace SWu4:=SWu4.pt
 refine nm_then ?_
 refine wpB_seq hP ?_
 refine wpB_seq hP ?_
 refine b_lone hP w fun T9=>?_
 replace M:=M.tp T9 0 0
 replace SAu3:=SAu3.tp T9 0
 replace SGu2:=SGu2.tp T9 0
 replace SI:=SI.tp T9 0
 replace SPu3:=SPu3.tp T9 0
 replace SWu4:=SWu4.tp T9 0
 refine wp_region_lit ?_
 refine lq T (Zra Z evc) ?_;intro ac T
 refine wpList_nil ?_
 refine nqR_n M ?_;clear M;intro wc M
 replace SAu3:=SAu3.pt
 replace SGu2:=SGu2.pt
 replace SI:=SI.pt
 replace SPu3:=SPu3.pt
 replace SWu4:=SWu4.pt
 refine nm_then ?_
 refine wpB_block hP ?_
 refine wpB_loop_n hP (fun mz ac wc=>∃ (i:Nat) (ol:List Int) (A3:Option Addr) (c3:Nat) (Io:List (Nat×BA)),mz=gu4.length - i∧(i≤gu4.length)∧(ol.length=i)∧(ol=mirW (gu4.take i))∧(Sl 3 1 (.slice A3 ol.length c3) ol.length (ic ol) Io)∧Tm ac 215 [(4,Zj g1),(7,.slice Apu3 pu3.length cpu3),(9,.slice Au4 gu4.length cu4),(10,Zj g2),(11,.slice A3 ol.length c3),(12,Zi (i:Int))]∧Mem w noEx wc ((g2,.cells [Zi xu5.full,Zi xu5.a0,Zi xu5.a1,.slice Axu5 xu5.cs.length cxu5,.slice Dxu5 xu5.ts.length dxu5])::(g1,.cells [Zi bu2.full,Zi bu2.a0,Zi bu2.a1,.slice Abu2 bu2.cs.length cbu2,.slice Dbu2 bu2.ts.length dbu2])::(Ibu2++Ipu3++Iu4++Ixu5++Io))) ?_ ?_
 ·exact ⟨_,0,[],none,0,[],Z,(Nat.zero_le _),Z,Z,(Sl.nil _ _),T.pick [5,4,3,2,1,0] Z,(by simp only [Zx4];exact M)⟩
 clear T M
 rintro mz ac wc ⟨i,ol,A3,c3,Io,hmm1,hi,hol,hO,hsl,T,M⟩
 obtain ⟨bO,oO,hSO⟩:=hsl.spV (by simp [ic_length])
 have SO:=hSO w noEx
 refine wpB_seq hP ?_
 refine wpB_seq hP ?_
 refine b_lone hP w fun T9=>?_
 replace M:=M.tp T9 0 0
 replace SAu3:=SAu3.tp T9 0
 replace SGu2:=SGu2.tp T9 0
 replace SI:=SI.tp T9 0
 replace SO:=SO.tp T9 0
 replace SPu3:=SPu3.tp T9 0
 replace SWu4:=SWu4.tp T9 0
 refine wp_region_lit ?_
 refine Zg4 T (Zq (Zrm Z (T.e 5 Z))) Z (Zm 3 Z Z) Z (Zl Try.underlying28 0 Z Z) Z (fun _ T=>Zq (rn_lss Z (T.e 2 Z) (T.e 0 Z))) Z ?_;intro ac T
 refine wpList_nil ?_
 refine nqR_n M ?_;clear M;intro wc M
 replace SAu3:=SAu3.pt
 replace SGu2:=SGu2.pt
 replace SI:=SI.pt
 replace SO:=SO.pt
 replace SPu3:=SPu3.pt
 replace SWu4:=SWu4.pt
 replace T:=T.pick [0,4,5,6,7,8,9] rfl
 refine nm_then ?_
 refine wB_if hP (T.e 0 Z) ?_ ?_
 ·intro h1
  obtain ⟨wy,hkw,-⟩:=ic_next (l:=gu4) (k:=i) (by omega)
  have hw9:=hWu4.two wy (List.mem_of_getElem? hkw)
  refine wpB_skip hP ?_
  refine nm_then ?_
  refine wpB_seq hP ?_
  refine wpB_block hP ?_
  refine b_lone hP w fun T9=>?_
  replace M:=M.tp T9 0 0
  replace SAu3:=SAu3.tp T9 0
  replace SGu2:=SGu2.tp T9 0
  replace SI:=SI.tp T9 0
  replace SO:=SO.tp T9 0
  replace SPu3:=SPu3.tp T9 0
  replace SWu4:=SWu4.tp T9 0
  refine wp_region_lit ?_
  refine Zg6 T (Zq (Zrm Z (T.e 5 Z))) Z (Zm 4 Z Z) Z (Zm 8 Z Z) Z (fun _ T=>Zq (Zri (size:=1) i Z (T.e 1 Z) (T.e 0 Z) ⟨_,Try.underlying28,by kernel_rfl⟩ Z (by omega) (SWu4.at0 (by omega)))) Z (fun _ T=>Zq (rn_cell (Sp.ic0 SWu4 M (.cons _ (.cons _ (subL (subL (Zsq _ _))))) hkw) Z (T.e 0 Z))) Z (fun _ T=>Zq (rn_sub Z evc (T.e 0 Z) (by omega))) Z ?_;intro ac T
  refine Zl2 ?_
  refine ow_bs (e:=3) [Zi (3 - wy)] M T Z Z Z Z (.cons (T.e 0 Z) .nil) (fun _=>by kernel_rfl) ?_;clear M T;intro g3 wc ac M T
  refine Zl2 ?_
  refine ow_app (((g3,.cells [Zi (3 - wy)])::(g2,.cells [Zi xu5.full,Zi xu5.a0,Zi xu5.a1,.slice Axu5 xu5.cs.length cxu5,.slice Dxu5 xu5.ts.length dxu5])::(g1,.cells [Zi bu2.full,Zi bu2.a0,Zi bu2.a1,.slice Abu2 bu2.cs.length cbu2,.slice Dbu2 bu2.ts.length dbu2])::(Ibu2++Ipu3++Iu4++Ixu5))) Try.info3 hsl M (by first | rfl | simp) T Z Z Z Z Try.underlying28 Z Z Z (by omega) (T.e 6 Z) (T.e 0 Z) (Zne (i:=0) Z) Z Z ?_;clear M T;intro ga1 cga1 wc ac M T
  refine l_q (v:=(.slice (some ⟨ga1,0,none⟩) (ol.length+1) cga1)) (T.pick [0,1,2,3,4,5,6,7,8,9,10,11,12,14] Z) Z Z Z Z (Zra Z (T.e 0 Z)) ?_;intro ac T
  refine wpList_nil ?_
  refine nqR_n M ?_;clear M;intro wc M
  replace SAu3:=SAu3.pt
  replace SGu2:=SGu2.pt
  replace SI:=SI.pt
  replace SO:=SO.pt
  replace SPu3:=SPu3.pt
  replace SWu4:=SWu4.pt
  replace T:=T.pick [0,10,11,12,13,14] rfl
  replace M:=M.mask [true,false,true,true] rfl
  replace M:Mem w noEx wc ((ga1,.row 3 1 (ol.length+1) ((ic ol)++[Zi (3 - wy)]) cga1)::(g2,.cells [Zi xu5.full,Zi xu5.a0,Zi xu5.a1,.slice Axu5 xu5.cs.length cxu5,.slice Dxu5 xu5.ts.length dxu5])::(g1,.cells [Zi bu2.full,Zi bu2.a0,Zi bu2.a1,.slice Abu2 bu2.cs.length cbu2,.slice Dbu2 bu2.ts.length dbu2])::(Ibu2++Ipu3++Iu4++Ixu5)):=M
  refine Znb ?_
  refine nm_then ?_
  refine b_lone hP w fun T9=>?_
  replace M:=M.tp T9 0 0
  replace SAu3:=SAu3.tp T9 0
  replace SGu2:=SGu2.tp T9 0
  replace SI:=SI.tp T9 0
  replace SO:=SO.tp T9 0
  replace SPu3:=SPu3.tp T9 0
  replace SWu4:=SWu4.tp T9 0
  refine wp_region_lit ?_
  refine Zg2 T (Zq (Zrm Z (T.e 5 Z))) Z (fun _ T=>Zq (rn_add Z (T.e 0 Z) evc (by omega))) Z ?_;intro ac T
  refine l_q (v:=(Zi ((i:Int)+1))) (T.pick [0,1,2,3,4,5,6] Z) Z Z Z Z (Zra Z (T.e 0 Z)) ?_;intro ac T
  refine wpList_nil ?_
  refine nqR_n M ?_;clear M;intro wc M
  replace SAu3:=SAu3.pt
  replace SGu2:=SGu2.pt
  replace SI:=SI.pt
  replace SO:=SO.pt
  replace SPu3:=SPu3.pt
  replace SWu4:=SWu4.pt
  replace T:=T.pick [0,3,4,5,6,7] rfl
  refine nm_then ?_
  have e9:ol.length+1=(ol++[(3 - wy)]).length:=by simp
  have e8:((ic ol)++[Zi (3 - wy)])=ic (ol++[(3 - wy)]):=by rw [← ic_snoc]
  rw [e9,e8] at M
  rw [e9] at T
  clear e9 e8
  exact ⟨_,by omega,i+1,(ol++[(3 - wy)]),_,_,[(ga1,.row 3 1 (ol++[(3 - wy)]).length (ic (ol++[(3 - wy)])) cga1)],Z,(by omega),(by simp [hol]),(by rw [hO,List.take_add_one,hkw];simp [mirW]),(Sl.row _ _ _ _ _ _),T.pick [2,3,4,5,1,0] Z,(Mem.swapI (I:=[(ga1,.row 3 1 (ol++[(3 - wy)]).length (ic (ol++[(3 - wy)])) cga1)]) (L:=((g2,.cells [Zi xu5.full,Zi xu5.a0,Zi xu5.a1,.slice Axu5 xu5.cs.length cxu5,.slice Dxu5 xu5.ts.length dxu5])::(g1,.cells [Zi bu2.full,Zi bu2.a0,Zi bu2.a1,.slice Abu2 bu2.cs.length cbu2,.slice Dbu2 bu2.ts.length dbu2])::(Ibu2++Ipu3++Iu4++Ixu5))) (M.permT [0,1,2] 3 Z Z Z Z))⟩
 intro h1
 rw [List.take_of_length_le (by omega)] at hO
 refine wpB_exit hP ?_
 refine Zet ?_
 refine Zet ?_
 refine ex_hit ?_
 refine nm_then ?_
 refine wpB_seq hP ?_
 refine rB_preN hP w 3 (by decide) fun T9=>?_
 replace M:=M.tp T9 0 0
 replace SAu3:=SAu3.tp T9 0
 replace SGu2:=SGu2.tp T9 0
 replace SI:=SI.tp T9 0
 replace SO:=SO.tp T9 0
 replace SPu3:=SPu3.tp T9 0
 replace SWu4:=SWu4.tp T9 0
 refine Zg3 T (Zq (Zrr (Mem.nth M 1 Z) Z (T.e 1 Z) Z)) Z (Zm 3 Z Z) Z (Zm 5 Z Z) Z ?_;intro ac T
 refine wpList_nil ?_
 refine pqR_n M ?_;clear M;intro wc M
 replace SAu3:=SAu3.pt
 replace SGu2:=SGu2.pt
 replace SI:=SI.pt
 replace SO:=SO.pt
 replace SPu3:=SPu3.pt
 replace SWu4:=SWu4.pt
 obtain ⟨hA9,hD9,hop9⟩:=hBiu2.rd M (.cons _ (.cons _ (subL (subL (subL (subL (List.Sublist.refl _)))))))
 obtain ⟨nA9,nD9,nop9⟩:=hBiu2.few
 refine rB_call hP (m:=5) (first:=[]) (cap:=[]) T Z Z Z Z Z evf (.cons (T.e 2 Z) (.cons (T.e 1 Z) (.cons (T.e 0 Z) .nil))) Try.func36 Z Z (Levels_any hP bu2 Abu2 cbu2 Dbu2 dbu2 pu3 Apu3 cpu3 Au4 cu4 gu4 _ hA9 hD9 hop9 nA9 nD9 nop9 (SPu3.rd M (.cons _ (.cons _ (subL (subL (subL (Zsq _ _))))))) (by omega) (SWu4.rd M (.cons _ (.cons _ (subL (subL (Zsq _ _)))))) (by omega)) ?_
 clear T
 rintro e wc ⟨Aru7,cru7,Iru7,rfl,hrcu7,⟨bru7,oru7,hSru7⟩,N⟩
 refine ⟨_,Z,?_⟩
 intro ac T
 obtain ⟨z1,z2,z3,z4,z5,z6,z7,z8,z9,z10,z11⟩:=mirror_law hBtu2 hB4u2 hB3u2 hmu5 hpgu3 hWu4
 rw [← hO] at z2 z3 z10 z11
 rw [z1] at T
 obtain ⟨qL,hqL⟩:∃ q,q=lvlL bu2 pu3 gu4:=⟨_,rfl⟩
 rw [← hqL] at T z9 z11 hrcu7 hSru7
 replace M:=(M.join N).swapI
 clear N
 replace M:Mem w noEx wc ((g2,.cells [Zi xu5.full,Zi xu5.a0,Zi xu5.a1,.slice Axu5 xu5.cs.length cxu5,.slice Dxu5 xu5.ts.length dxu5])::(g1,.cells [Zi bu2.full,Zi bu2.a0,Zi bu2.a1,.slice Abu2 bu2.cs.length cbu2,.slice Dbu2 bu2.ts.length dbu2])::(Ibu2++Ipu3++Iu4++Ixu5++Io++Iru7)):=M
 have Sru7:=hSru7 w noEx
 refine rB_moreN hP w 5 0 Z (by decide) fun T9=>?_
 replace M:=M.tp T9 0 0
 replace SAu3:=SAu3.tp T9 0
 replace SGu2:=SGu2.tp T9 0
 replace SI:=SI.tp T9 0
 replace SO:=SO.tp T9 0
 replace SPu3:=SPu3.tp T9 0
 replace SWu4:=SWu4.tp T9 0
 replace Sru7:=Sru7.tp T9 0
 refine Zg5 T (Zq (Zrm Z (T.e 0 Z))) Z (Ze 0 Z Z Z) Z (Ze 1 Z Z Z) Z (Za 1 Z Z) Z (Za 1 Z Z) Z ?_;intro ac T
 refine wpList_nil ?_
 refine pqR_n M ?_;clear M;intro wc M
 replace SAu3:=SAu3.pt
 replace SGu2:=SGu2.pt
 replace SI:=SI.pt
 replace SO:=SO.pt
 replace SPu3:=SPu3.pt
 replace SWu4:=SWu4.pt
 replace Sru7:=Sru7.pt
 refine rB_nil hP ?_
 replace T:=T.pick [0,1,10,11,12,13,14] rfl
 refine nm_then ?_
 refine wpB_seq hP ?_
 refine rB_preN hP w 3 (by decide) fun T9=>?_
 replace M:=M.tp T9 0 0
 replace SAu3:=SAu3.tp T9 0
 replace SGu2:=SGu2.tp T9 0
 replace SI:=SI.tp T9 0
 replace SO:=SO.tp T9 0
 replace SPu3:=SPu3.tp T9 0
 replace SWu4:=SWu4.tp T9 0
 replace Sru7:=Sru7.tp T9 0
 refine Zg3 T (Zq (Zrr (Mem.nth M 0 Z) Z (T.e 5 Z) Z)) Z (Zm 4 Z Z) Z (Zm 8 Z Z) Z ?_;intro ac T
 refine wpList_nil ?_
 refine pqR_n M ?_;clear M;intro wc M
 replace SAu3:=SAu3.pt
 replace SGu2:=SGu2.pt
 replace SI:=SI.pt
 replace SO:=SO.pt
 replace SPu3:=SPu3.pt
 replace SWu4:=SWu4.pt
 replace Sru7:=Sru7.pt
 obtain ⟨hA9,hD9,hop9⟩:=hIxu5.rd M (.cons _ (.cons _ (subL (subL (Zsq _ _)))))
 obtain ⟨nA9,nD9,nop9⟩:=hIxu5.few
 refine rB_call hP (m:=5) (first:=[]) (cap:=[]) T Z Z Z Z Z evf (.cons (T.e 2 Z) (.cons (T.e 1 Z) (.cons (T.e 0 Z) .nil))) Try.func36 Z Z (Levels_any hP xu5 Axu5 cxu5 Dxu5 dxu5 pu3 Apu3 cpu3 A3 c3 ol _ hA9 hD9 hop9 nA9 nD9 nop9 (SPu3.rd M (.cons _ (.cons _ (subL (subL (subL (subL (Zsq _ _)))))))) (by omega) (SO.rd M (.cons _ (.cons _ (subL (Zsq _ _))))) (by omega)) ?_
 clear T
 rintro e wc ⟨Aru8,cru8,Iru8,rfl,hrcu8,⟨bru8,oru8,hSru8⟩,N⟩
 refine ⟨_,Z,?_⟩
 intro ac T
 rw [z2] at T
 obtain ⟨rL,hrL⟩:∃ q,q=lvlL xu5 pu3 ol:=⟨_,rfl⟩
 rw [← hrL] at T z10 z11 hrcu8 hSru8
 replace M:=(M.join N).swapI
 clear N
 replace M:Mem w noEx wc ((g2,.cells [Zi xu5.full,Zi xu5.a0,Zi xu5.a1,.slice Axu5 xu5.cs.length cxu5,.slice Dxu5 xu5.ts.length dxu5])::(g1,.cells [Zi bu2.full,Zi bu2.a0,Zi bu2.a1,.slice Abu2 bu2.cs.length cbu2,.slice Dbu2 bu2.ts.length dbu2])::(Ibu2++Ipu3++Iu4++Ixu5++Io++Iru7++Iru8)):=M
 have Sru8:=hSru8 w noEx
 refine rB_moreN hP w 5 0 Z (by decide) fun T9=>?_
 replace M:=M.tp T9 0 0
 replace SAu3:=SAu3.tp T9 0
 replace SGu2:=SGu2.tp T9 0
 replace SI:=SI.tp T9 0
 replace SO:=SO.tp T9 0
 replace SPu3:=SPu3.tp T9 0
 replace SWu4:=SWu4.tp T9 0
 replace Sru7:=Sru7.tp T9 0
 replace Sru8:=Sru8.tp T9 0
 refine Zg5 T (Zq (Zrm Z (T.e 0 Z))) Z (Ze 0 Z Z Z) Z (Ze 1 Z Z Z) Z (Za 1 Z Z) Z (Za 1 Z Z) Z ?_;intro ac T
 refine wpList_nil ?_
 refine pqR_n M ?_;clear M;intro wc M
 replace SAu3:=SAu3.pt
 replace SGu2:=SGu2.pt
 replace SI:=SI.pt
 replace SO:=SO.pt
 replace SPu3:=SPu3.pt
 replace SWu4:=SWu4.pt
 replace Sru7:=Sru7.pt
 replace Sru8:=Sru8.pt
 refine rB_nil hP ?_
 replace T:=T.pick [0,1,9,10,11,12,13,14,15] rfl
 refine nm_then ?_
 refine wpB_seq hP ?_
 refine rB_preN hP w 3 (by decide) fun T9=>?_
 replace M:=M.tp T9 0 0
 replace SAu3:=SAu3.tp T9 0
 replace SGu2:=SGu2.tp T9 0
 replace SI:=SI.tp T9 0
 replace SO:=SO.tp T9 0
 replace SPu3:=SPu3.tp T9 0
 replace SWu4:=SWu4.tp T9 0
 replace Sru7:=Sru7.tp T9 0
 replace Sru8:=Sru8.tp T9 0
 refine Zg3 T (Zq (Zrr (Mem.nth M 1 Z) Z (T.e 4 Z) Z)) Z (Zm 6 Z Z) Z (Zm 8 Z Z) Z ?_;intro ac T
 refine wpList_nil ?_
 refine pqR_n M ?_;clear M;intro wc M
 replace SAu3:=SAu3.pt
 replace SGu2:=SGu2.pt
 replace SI:=SI.pt
 replace SO:=SO.pt
 replace SPu3:=SPu3.pt
 replace SWu4:=SWu4.pt
 replace Sru7:=Sru7.pt
 replace Sru8:=Sru8.pt
 obtain ⟨hA9,hD9,hop9⟩:=hBiu2.rd M (.cons _ (.cons _ (subL (subL (subL (subL (subL (subL (List.Sublist.refl _)))))))))
 obtain ⟨nA9,nD9,nop9⟩:=hBiu2.few
 refine rB_call hP (m:=5) (first:=[]) (cap:=[]) T Z Z Z Z Z evf (.cons (T.e 2 Z) (.cons (T.e 1 Z) (.cons (T.e 0 Z) .nil))) Try.func38 Z Z (Plays_any hP bu2 Abu2 cbu2 Dbu2 dbu2 pu3 Apu3 cpu3 Au4 cu4 gu4 _ hA9 hD9 hop9 nA9 nD9 nop9 (SPu3.rd M (.cons _ (.cons _ (subL (subL (subL (subL (subL (Zsq _ _))))))))) (by omega) (SWu4.rd M (.cons _ (.cons _ (subL (subL (subL (subL (Zsq _ _)))))))) (by omega)) ?_
 clear T
 rintro e wc ⟨rfl,hb⟩
 refine ⟨_,Z,?_⟩
 intro ac T
 replace M:=M.call hb;clear hb
 rw [z1] at T
 obtain ⟨pv,hpv⟩:∃ q,q=plaV bu2 pu3 gu4:=⟨_,rfl⟩
 rw [← hpv] at T z3
 refine rB_moreN hP w 5 0 Z (by decide) fun T9=>?_
 replace M:=M.tp T9 0 0
 replace SAu3:=SAu3.tp T9 0
 replace SGu2:=SGu2.tp T9 0
 replace SI:=SI.tp T9 0
 replace SO:=SO.tp T9 0
 replace SPu3:=SPu3.tp T9 0
 replace SWu4:=SWu4.tp T9 0
 replace Sru7:=Sru7.tp T9 0
 replace Sru8:=Sru8.tp T9 0
 refine Zg5 T (Zq (Zrm Z (T.e 0 Z))) Z (Ze 0 Z Z Z) Z (Ze 1 Z Z Z) Z (Za 1 Z Z) Z (Za 1 Z Z) Z ?_;intro ac T
 refine wpList_nil ?_
 refine pqR_n M ?_;clear M;intro wc M
 replace SAu3:=SAu3.pt
 replace SGu2:=SGu2.pt
 replace SI:=SI.pt
 replace SO:=SO.pt
 replace SPu3:=SPu3.pt
 replace SWu4:=SWu4.pt
 replace Sru7:=Sru7.pt
 replace Sru8:=Sru8.pt
 refine rB_nil hP ?_
 replace T:=T.pick [0,1,9,10,11,12,13,14,16,17] rfl
 refine nm_then ?_
 refine wpB_seq hP ?_
 refine rB_preN hP w 3 (by decide) fun T9=>?_
 replace M:=M.tp T9 0 0
 replace SAu3:=SAu3.tp T9 0
 replace SGu2:=SGu2.tp T9 0
 replace SI:=SI.tp T9 0
 replace SO:=SO.tp T9 0
 replace SPu3:=SPu3.tp T9 0
 replace SWu4:=SWu4.tp T9 0
 replace Sru7:=Sru7.tp T9 0
 replace Sru8:=Sru8.tp T9 0
 refine Zg3 T (Zq (Zrr (Mem.nth M 0 Z) Z (T.e 8 Z) Z)) Z (Zm 8 Z Z) Z (Zm 11 Z Z) Z ?_;intro ac T
 refine wpList_nil ?_
 refine pqR_n M ?_;clear M;intro wc M
 replace SAu3:=SAu3.pt
 replace SGu2:=SGu2.pt
 replace SI:=SI.pt
 replace SO:=SO.pt
 replace SPu3:=SPu3.pt
 replace SWu4:=SWu4.pt
 replace Sru7:=Sru7.pt
 replace Sru8:=Sru8.pt
 obtain ⟨hA9,hD9,hop9⟩:=hIxu5.rd M (.cons _ (.cons _ (subL (subL (subL (Zsq _ _))))))
 obtain ⟨nA9,nD9,nop9⟩:=hIxu5.few
 refine rB_call hP (m:=5) (first:=[]) (cap:=[]) T Z Z Z Z Z evf (.cons (T.e 2 Z) (.cons (T.e 1 Z) (.cons (T.e 0 Z) .nil))) Try.func38 Z Z (Plays_any hP xu5 Axu5 cxu5 Dxu5 dxu5 pu3 Apu3 cpu3 A3 c3 ol _ hA9 hD9 hop9 nA9 nD9 nop9 (SPu3.rd M (.cons _ (.cons _ (subL (subL (subL (subL (subL (Zsq _ _))))))))) (by omega) (SO.rd M (.cons _ (.cons _ (subL (subL (Zsq _ _)))))) (by omega)) ?_
 clear T
 rintro e wc ⟨rfl,hb⟩
 refine ⟨_,Z,?_⟩
 intro ac T
 replace M:=M.call hb;clear hb
 rw [z2,z3] at T
 refine rB_moreN hP w 5 0 Z (by decide) fun T9=>?_
 replace M:=M.tp T9 0 0
 replace SAu3:=SAu3.tp T9 0
 replace SGu2:=SGu2.tp T9 0
 replace SI:=SI.tp T9 0
 replace SO:=SO.tp T9 0
 replace SPu3:=SPu3.tp T9 0
 replace SWu4:=SWu4.tp T9 0
 replace Sru7:=Sru7.tp T9 0
 replace Sru8:=Sru8.tp T9 0
 refine Zg5 T (Zq (Zrm Z (T.e 0 Z))) Z (Ze 0 Z Z Z) Z (Ze 1 Z Z Z) Z (Za 1 Z Z) Z (Za 1 Z Z) Z ?_;intro ac T
 refine wpList_nil ?_
 refine pqR_n M ?_;clear M;intro wc M
 replace SAu3:=SAu3.pt
 replace SGu2:=SGu2.pt
 replace SI:=SI.pt
 replace SO:=SO.pt
 replace SPu3:=SPu3.pt
 replace SWu4:=SWu4.pt
 replace Sru7:=Sru7.pt
 replace Sru8:=Sru8.pt
 refine rB_nil hP ?_
 replace T:=T.pick [0,1,9,10,11,12,13,14,15,16,17] rfl
 refine nm_then ?_
 refine wpB_seq hP ?_
 refine rB_preN hP w 2 (by decide) fun T9=>?_
 replace M:=M.tp T9 0 0
 replace SAu3:=SAu3.tp T9 0
 replace SGu2:=SGu2.tp T9 0
 replace SI:=SI.tp T9 0
 replace SO:=SO.tp T9 0
 replace SPu3:=SPu3.tp T9 0
 replace SWu4:=SWu4.tp T9 0
 replace Sru7:=Sru7.tp T9 0
 replace Sru8:=Sru8.tp T9 0
 refine Zg2 T (Zq (Zrr (Mem.nth M 1 Z) Z (T.e 8 Z) Z)) Z (Zm 10 Z Z) Z ?_;intro ac T
 refine wpList_nil ?_
 refine pqR_n M ?_;clear M;intro wc M
 replace SAu3:=SAu3.pt
 replace SGu2:=SGu2.pt
 replace SI:=SI.pt
 replace SO:=SO.pt
 replace SPu3:=SPu3.pt
 replace SWu4:=SWu4.pt
 replace Sru7:=Sru7.pt
 replace Sru8:=Sru8.pt
 obtain ⟨hA9,hD9,hop9⟩:=hBiu2.rd M (.cons _ (.cons _ (subL (subL (subL (subL (subL (subL (List.Sublist.refl _)))))))))
 obtain ⟨nA9,nD9,nop9⟩:=hBiu2.few
 refine rB_call hP (m:=7) (first:=[]) (cap:=[]) T Z Z Z Z Z evf (.cons (T.e 1 Z) (.cons (T.e 0 Z) .nil)) Try.func27 Z Z (Turns_any hP bu2 Abu2 cbu2 Dbu2 dbu2 pu3 Apu3 cpu3 _ hA9 hD9 hop9 nA9 nD9 nop9 (SPu3.rd M (.cons _ (.cons _ (subL (subL (subL (subL (subL (Zsq _ _))))))))) (by omega)) ?_
 clear T
 rintro e wc ⟨Atu11,ctu11,Itu11,rfl,htcu11,⟨btu11,otu11,hStu11⟩,N⟩
 refine ⟨_,Z,?_⟩
 intro ac T
 obtain ⟨tN,htN⟩:∃ q,q=turnW (turL bu2 pu3):=⟨_,rfl⟩
 obtain ⟨tE,htE⟩:∃ q,q=turE bu2 pu3:=⟨_,rfl⟩
 rw [← htE,← htN] at T
 replace M:=(M.join N).swapI
 clear N
 replace M:Mem w noEx wc ((g2,.cells [Zi xu5.full,Zi xu5.a0,Zi xu5.a1,.slice Axu5 xu5.cs.length cxu5,.slice Dxu5 xu5.ts.length dxu5])::(g1,.cells [Zi bu2.full,Zi bu2.a0,Zi bu2.a1,.slice Abu2 bu2.cs.length cbu2,.slice Dbu2 bu2.ts.length dbu2])::(Ibu2++Ipu3++Iu4++Ixu5++Io++Iru7++Iru8++Itu11)):=M
 refine rB_moreN hP w 7 0 Z (by decide) fun T9=>?_
 replace M:=M.tp T9 0 0
 replace SAu3:=SAu3.tp T9 0
 replace SGu2:=SGu2.tp T9 0
 replace SI:=SI.tp T9 0
 replace SO:=SO.tp T9 0
 replace SPu3:=SPu3.tp T9 0
 replace SWu4:=SWu4.tp T9 0
 replace Sru7:=Sru7.tp T9 0
 replace Sru8:=Sru8.tp T9 0
 refine Zg7 T (Zq (Zrm Z (T.e 0 Z))) Z (Ze 0 Z Z Z) Z (Ze 1 Z Z Z) Z (Ze 2 Z Z Z) Z (Za 2 Z Z) Z (Za 2 Z Z) Z (Za 2 Z Z) Z ?_;intro ac T
 refine wpList_nil ?_
 refine pqR_n M ?_;clear M;intro wc M
 replace SAu3:=SAu3.pt
 replace SGu2:=SGu2.pt
 replace SI:=SI.pt
 replace SO:=SO.pt
 replace SPu3:=SPu3.pt
 replace SWu4:=SWu4.pt
 replace Sru7:=Sru7.pt
 replace Sru8:=Sru8.pt
 refine rB_nil hP ?_
 replace T:=T.pick [0,1,10,11,12,13,14,15,16,17,18,19,20] rfl
 refine nm_then ?_
 refine wpB_seq hP ?_
 refine rB_preN hP w 2 (by decide) fun T9=>?_
 replace M:=M.tp T9 0 0
 replace SAu3:=SAu3.tp T9 0
 replace SGu2:=SGu2.tp T9 0
 replace SI:=SI.tp T9 0
 replace SO:=SO.tp T9 0
 replace SPu3:=SPu3.tp T9 0
 replace SWu4:=SWu4.tp T9 0
 replace Sru7:=Sru7.tp T9 0
 replace Sru8:=Sru8.tp T9 0
 refine Zg2 T (Zq (Zrr (Mem.nth M 0 Z) Z (T.e 12 Z) Z)) Z (Zm 12 Z Z) Z ?_;intro ac T
 refine wpList_nil ?_
 refine pqR_n M ?_;clear M;intro wc M
 replace SAu3:=SAu3.pt
 replace SGu2:=SGu2.pt
 replace SI:=SI.pt
 replace SO:=SO.pt
 replace SPu3:=SPu3.pt
 replace SWu4:=SWu4.pt
 replace Sru7:=Sru7.pt
 replace Sru8:=Sru8.pt
 obtain ⟨hA9,hD9,hop9⟩:=hIxu5.rd M (.cons _ (.cons _ (subL (subL (subL (subL (Zsq _ _)))))))
 obtain ⟨nA9,nD9,nop9⟩:=hIxu5.few
 refine rB_call hP (m:=7) (first:=[]) (cap:=[]) T Z Z Z Z Z evf (.cons (T.e 1 Z) (.cons (T.e 0 Z) .nil)) Try.func27 Z Z (Turns_any hP xu5 Axu5 cxu5 Dxu5 dxu5 pu3 Apu3 cpu3 _ hA9 hD9 hop9 nA9 nD9 nop9 (SPu3.rd M (.cons _ (.cons _ (subL (subL (subL (subL (subL (subL (Zsq _ _)))))))))) (by omega)) ?_
 clear T
 rintro e wc ⟨Atu12,ctu12,Itu12,rfl,htcu12,⟨btu12,otu12,hStu12⟩,N⟩
 refine ⟨_,Z,?_⟩
 intro ac T
 rw [z4,z5,← htE,← htN] at T
 replace M:=(M.join N).swapI
 clear N
 replace M:Mem w noEx wc ((g2,.cells [Zi xu5.full,Zi xu5.a0,Zi xu5.a1,.slice Axu5 xu5.cs.length cxu5,.slice Dxu5 xu5.ts.length dxu5])::(g1,.cells [Zi bu2.full,Zi bu2.a0,Zi bu2.a1,.slice Abu2 bu2.cs.length cbu2,.slice Dbu2 bu2.ts.length dbu2])::(Ibu2++Ipu3++Iu4++Ixu5++Io++Iru7++Iru8++Itu11++Itu12)):=M
 refine rB_moreN hP w 7 0 Z (by decide) fun T9=>?_
 replace M:=M.tp T9 0 0
 replace SAu3:=SAu3.tp T9 0
 replace SGu2:=SGu2.tp T9 0
 replace SI:=SI.tp T9 0
 replace SO:=SO.tp T9 0
 replace SPu3:=SPu3.tp T9 0
 replace SWu4:=SWu4.tp T9 0
 replace Sru7:=Sru7.tp T9 0
 replace Sru8:=Sru8.tp T9 0
 refine Zg7 T (Zq (Zrm Z (T.e 0 Z))) Z (Ze 0 Z Z Z) Z (Ze 1 Z Z Z) Z (Ze 2 Z Z Z) Z (Za 2 Z Z) Z (Za 2 Z Z) Z (Za 2 Z Z) Z ?_;intro ac T
 refine wpList_nil ?_
 refine pqR_n M ?_;clear M;intro wc M
 replace SAu3:=SAu3.pt
 replace SGu2:=SGu2.pt
 replace SI:=SI.pt
 replace SO:=SO.pt
 replace SPu3:=SPu3.pt
 replace SWu4:=SWu4.pt
 replace Sru7:=Sru7.pt
 replace Sru8:=Sru8.pt
 refine rB_nil hP ?_
 replace T:=T.pick [0,1,10,11,12,13,14,15,16,17,18,19,20,21,22] rfl
 refine nm_then ?_
 refine wpB_seq hP ?_
 refine rB_preN hP w 1 (by decide) fun T9=>?_
 replace M:=M.tp T9 0 0
 replace SAu3:=SAu3.tp T9 0
 replace SGu2:=SGu2.tp T9 0
 replace SI:=SI.tp T9 0
 replace SO:=SO.tp T9 0
 replace SPu3:=SPu3.tp T9 0
 replace SWu4:=SWu4.tp T9 0
 replace Sru7:=Sru7.tp T9 0
 replace Sru8:=Sru8.tp T9 0
 refine lq T (Zrr (Mem.nth M 1 Z) Z (T.e 12 Z) Z) ?_;intro ac T
 refine wpList_nil ?_
 refine pqR_n M ?_;clear M;intro wc M
 replace SAu3:=SAu3.pt
 replace SGu2:=SGu2.pt
 replace SI:=SI.pt
 replace SO:=SO.pt
 replace SPu3:=SPu3.pt
 replace SWu4:=SWu4.pt
 replace Sru7:=Sru7.pt
 replace Sru8:=Sru8.pt
 obtain ⟨hA9,hD9,hop9⟩:=hBiu2.rd M (.cons _ (.cons _ (subL (subL (subL (subL (subL (subL (subL (subL (List.Sublist.refl _)))))))))))
 obtain ⟨nA9,nD9,nop9⟩:=hBiu2.few
 refine rB_call hP (m:=6) (first:=[]) (cap:=[]) T Z Z Z Z Z evf (.cons (T.e 0 Z) (.cons evc (.cons evc .nil))) Try.func22 Z Z (Holds_any hP bu2 Abu2 cbu2 Dbu2 dbu2 2 1 _ hA9 hD9 hop9 nA9 nD9 nop9 ) ?_
 clear T
 rintro e wc ⟨rfl,hb⟩
 refine ⟨_,Z,?_⟩
 intro ac T
 replace M:=M.call hb;clear hb
 rw [z6] at T
 obtain ⟨x0,hx0⟩:∃ q,q=(holR bu2 2 1).1:=⟨_,rfl⟩
 obtain ⟨x1,hx1⟩:∃ q,q=(holR bu2 2 1).2:=⟨_,rfl⟩
 rw [← hx0,← hx1] at T
 refine rB_moreN hP w 6 0 Z (by decide) fun T9=>?_
 replace M:=M.tp T9 0 0
 replace SAu3:=SAu3.tp T9 0
 replace SGu2:=SGu2.tp T9 0
 replace SI:=SI.tp T9 0
 replace SO:=SO.tp T9 0
 replace SPu3:=SPu3.tp T9 0
 replace SWu4:=SWu4.tp T9 0
 replace Sru7:=Sru7.tp T9 0
 replace Sru8:=Sru8.tp T9 0
 refine Zg3 T (Zq (Zrm Z (T.e 0 Z))) Z (Ze 0 Z Z Z) Z (Ze 1 Z Z Z) Z ?_;intro ac T
 refine Zl2 ?_
 refine Zoa M T Z Z Z Z ?_;clear M T;intro g4 wc ac M T
 refine Zl2 ?_
 refine Zot M T Z Z (T.e 0 Z) (T.e 2 Z) Z .head Z Z ?_;clear M T;intro wc ac M T
 refine lq T (Zra Z (T.e 1 Z)) ?_;intro ac T
 refine wpList_nil ?_
 refine pqR_n M ?_;clear M;intro wc M
 replace SAu3:=SAu3.pt
 replace SGu2:=SGu2.pt
 replace SI:=SI.pt
 replace SO:=SO.pt
 replace SPu3:=SPu3.pt
 replace SWu4:=SWu4.pt
 replace Sru7:=Sru7.pt
 replace Sru8:=Sru8.pt
 refine rB_nil hP ?_
 replace T:=T.pick [0,1,7,8,9,10,11,12,13,14,15,16,17,18,19,20,21] rfl
 refine nm_then ?_
 refine wpB_seq hP ?_
 refine rB_preN hP w 1 (by decide) fun T9=>?_
 replace M:=M.tp T9 0 0
 replace SAu3:=SAu3.tp T9 0
 replace SGu2:=SGu2.tp T9 0
 replace SI:=SI.tp T9 0
 replace SO:=SO.tp T9 0
 replace SPu3:=SPu3.tp T9 0
 replace SWu4:=SWu4.tp T9 0
 replace Sru7:=Sru7.tp T9 0
 replace Sru8:=Sru8.tp T9 0
 refine lq T (Zrr (Mem.nth M 1 Z) Z (T.e 16 Z) Z) ?_;intro ac T
 refine wpList_nil ?_
 refine pqR_n M ?_;clear M;intro wc M
 replace SAu3:=SAu3.pt
 replace SGu2:=SGu2.pt
 replace SI:=SI.pt
 replace SO:=SO.pt
 replace SPu3:=SPu3.pt
 replace SWu4:=SWu4.pt
 replace Sru7:=Sru7.pt
 replace Sru8:=Sru8.pt
 obtain ⟨hA9,hD9,hop9⟩:=hIxu5.rd M (.cons _ (.cons _ (.cons _ (subL (subL (subL (subL (subL (Zsq _ _)))))))))
 obtain ⟨nA9,nD9,nop9⟩:=hIxu5.few
 refine rB_call hP (m:=6) (first:=[]) (cap:=[]) T Z Z Z Z Z evf (.cons (T.e 0 Z) (.cons evc (.cons evc .nil))) Try.func22 Z Z (Holds_any hP xu5 Axu5 cxu5 Dxu5 dxu5 2 2 _ hA9 hD9 hop9 nA9 nD9 nop9 ) ?_
 clear T
 rintro e wc ⟨rfl,hb⟩
 refine ⟨_,Z,?_⟩
 intro ac T
 replace M:=M.call hb;clear hb
 rw [z7,z8,← hx0,← hx1] at T
 refine rB_moreN hP w 6 0 Z (by decide) fun T9=>?_
 replace M:=M.tp T9 0 0
 replace SAu3:=SAu3.tp T9 0
 replace SGu2:=SGu2.tp T9 0
 replace SI:=SI.tp T9 0
 replace SO:=SO.tp T9 0
 replace SPu3:=SPu3.tp T9 0
 replace SWu4:=SWu4.tp T9 0
 replace Sru7:=Sru7.tp T9 0
 replace Sru8:=Sru8.tp T9 0
 refine Zg3 T (Zq (Zrm Z (T.e 0 Z))) Z (Ze 0 Z Z Z) Z (Ze 1 Z Z Z) Z ?_;intro ac T
 refine Zl2 ?_
 refine Zoa M T Z Z Z Z ?_;clear M T;intro g5 wc ac M T
 refine Zl2 ?_
 refine Zot M T Z Z (T.e 0 Z) (T.e 2 Z) Z .head Z Z ?_;clear M T;intro wc ac M T
 refine lq T (Zra Z (T.e 1 Z)) ?_;intro ac T
 refine wpList_nil ?_
 refine pqR_n M ?_;clear M;intro wc M
 replace SAu3:=SAu3.pt
 replace SGu2:=SGu2.pt
 replace SI:=SI.pt
 replace SO:=SO.pt
 replace SPu3:=SPu3.pt
 replace SWu4:=SWu4.pt
 replace Sru7:=Sru7.pt
 replace Sru8:=Sru8.pt
 refine rB_nil hP ?_
 replace T:=T.pick [0,1,7,8,9,10,11,12,13,14,15,16,17,18,19,20,21,22] rfl
 replace M:=M.mask [true,true,false,true] rfl
 replace M:Mem w noEx wc ((g5,.cells [Zi x0,Zi x1])::(g4,.cells [Zi x0,Zi x1])::(g1,.cells [Zi bu2.full,Zi bu2.a0,Zi bu2.a1,.slice Abu2 bu2.cs.length cbu2,.slice Dbu2 bu2.ts.length dbu2])::(Ibu2++Ipu3++Iu4++Ixu5++Io++Iru7++Iru8++Itu11++Itu12)):=M
 refine nm_then ?_
 refine wpB_seq hP ?_
 refine wpB_seq hP ?_
 refine b_lone hP w fun T9=>?_
 replace M:=M.tp T9 0 0
 replace SAu3:=SAu3.tp T9 0
 replace SGu2:=SGu2.tp T9 0
 replace SI:=SI.tp T9 0
 replace SO:=SO.tp T9 0
 replace SPu3:=SPu3.tp T9 0
 replace SWu4:=SWu4.tp T9 0
 replace Sru7:=Sru7.tp T9 0
 replace Sru8:=Sru8.tp T9 0
 refine wp_region_lit ?_
 refine Zg8 (v2:=(.bool false)) (v5:=(.bool false)) T (Zq (Zrm Z (T.e 14 Z))) Z (fun _ T=>Zq (Zrq (rn_neq Z (T.e 0 Z) evc) (by simp))) Z (Zm 0 Z Z) Z (fun _ T=>Zw (Zwy Z Z (T.e 0 Z) Z) (Zrm Z (T.e 15 Z))) Z (fun _ T=>Zw (Zwy Z Z (T.e 1 Z) Z) (Zrq (rn_neq Z (T.e 0 Z) evc) (by simp))) Z (fun _ T=>Zq (Zr0 Z (T.e 2 Z) Z (T.e 0 Z))) Z (Zm 0 Z Z) Z (fun _ T=>Zw (Zwy Z Z (T.e 0 Z) Z) (Zrm Z (T.e 17 Z))) Z ?_;intro ac T
 refine Zg8 (v1:=(.bool false)) (v5:=(.bool false)) T (Zw (Zwy Z Z (T.e 1 Z) Z) (Zrq (rn_neq Z (T.e 0 Z) evc) (by simp))) Z (fun _ T=>Zq (Zr0 Z (T.e 2 Z) Z (T.e 0 Z))) Z (Zm 0 Z Z) Z (fun _ T=>Zw (Zwy Z Z (T.e 0 Z) Z) (Zrm Z (T.e 19 Z))) Z (fun _ T=>Zw (Zwy Z Z (T.e 1 Z) Z) (Zrq (rn_neq Z (T.e 0 Z) evc) (by simp))) Z (fun _ T=>Zq (Zr0 Z (T.e 2 Z) Z (T.e 0 Z))) Z (Zm 0 Z Z) Z (fun _ T=>Zw (Zwy Z Z (T.e 0 Z) Z) (Zrm Z (T.e 21 Z))) Z ?_;intro ac T
 refine Zg8 (v2:=(.bool false)) (v7:=(.bool false)) T (Zw (Zwy Z Z (T.e 1 Z) Z) (Zrm Z (T.e 20 Z))) Z (fun _ T=>Zw (Zwy Z Z (T.e 2 Z) Z) (Zrq (rn_neq Z (T.e 1 Z) (T.e 0 Z)) (by simp))) Z (fun _ T=>Zq (Zr0 Z (T.e 3 Z) Z (T.e 0 Z))) Z (Zm 0 Z Z) Z (fun _ T=>Zw (Zwy Z Z (T.e 0 Z) Z) (Zrm Z (T.e 27 Z))) Z (fun _ T=>Zw (Zwy Z Z (T.e 1 Z) Z) (Zrm Z (T.e 26 Z))) Z (fun _ T=>Zw (Zwy Z Z (T.e 2 Z) Z) (Zrq (rn_neq Z (T.e 1 Z) (T.e 0 Z)) (by simp))) Z (fun _ T=>Zq (Zr0 Z (T.e 3 Z) Z (T.e 0 Z))) Z ?_;intro ac T
 refine Zg8 (v3:=(.bool false)) (v7:=(.bool false)) T (Zq (Zrm Z (T.e 0 Z))) Z (fun _ T=>Zw (Zwy Z Z (T.e 0 Z) Z) (Zrm Z (T.e 27 Z))) Z (fun _ T=>Zw (Zwy Z Z (T.e 1 Z) Z) (Zrq (rn_neq Z (T.e 0 Z) evc) (by simp))) Z (fun _ T=>Zq (Zr0 Z (T.e 2 Z) Z (T.e 0 Z))) Z (Zm 0 Z Z) Z (fun _ T=>Zw (Zwy Z Z (T.e 0 Z) Z) (Zrm Z (T.e 29 Z))) Z (fun _ T=>Zw (Zwy Z Z (T.e 1 Z) Z) (Zrq (rn_neq Z (T.e 0 Z) evc) (by simp))) Z (fun _ T=>Zq (Zr0 Z (T.e 2 Z) Z (T.e 0 Z))) Z ?_;intro ac T
 refine Zg8 (v4:=(.bool false)) T (Zq (Zrm Z (T.e 0 Z))) Z (fun _ T=>Zw (Zwy Z Z (T.e 0 Z) Z) (Zrr (Mem.nth M 1 Z) Z (T.e 36 Z) Z)) Z (fun _ T=>Zw (Zwy Z Z (T.e 1 Z) Z) (Zrr (Mem.nth M 0 Z) Z (T.e 35 Z) Z)) Z (fun _ T=>Zw (Zwy Z Z (T.e 2 Z) Z) (Zrq (rn_bin Z (T.e 1 Z) (T.e 0 Z) neT23) (by simp))) Z (fun _ T=>Zq (Zr0 Z (T.e 3 Z) Z (T.e 0 Z))) Z (Zm 0 Z Z) Z (fun _ T=>Zw (Zwy Z Z (T.e 0 Z) Z) (Zrm Z (T.e 49 Z))) Z (fun _ T=>Zw (Zwy Z Z (T.e 1 Z) Z) (Zrm Z (T.e 48 Z))) Z ?_;intro ac T
 refine Zg8 (v1:=(.bool false)) T (Zw (Zwy Z Z (T.e 2 Z) Z) (Zrq (rn_neq Z (T.e 1 Z) (T.e 0 Z)) (by simp))) Z (fun _ T=>Zq (Zr0 Z (T.e 3 Z) Z (T.e 0 Z))) Z (Zm 0 Z Z) Z (fun _ T=>Zw (Zwy Z Z (T.e 0 Z) Z) (Zrm Z (T.e 58 Z))) Z (fun _ T=>Zw (Zwy Z Z (T.e 1 Z) Z) (Zrl Z Try.underlying24 (T.e 0 Z))) Z (fun _ T=>Zw (Zwy Z Z (T.e 2 Z) Z) (Zrm Z (T.e 62 Z))) Z (fun _ T=>Zw (Zwy Z Z (T.e 3 Z) Z) (Zrl Z Try.underlying44 (T.e 0 Z))) Z (fun _ T=>Zw (Zwy Z Z (T.e 4 Z) Z) (rn_neq Z (T.e 2 Z) (T.e 0 Z))) Z ?_;intro ac T
 refine Zg8 T (Zq (Zr0 Z (T.e 5 Z) Z (T.e 0 Z))) Z (Zm 0 Z Z) Z (fun _ T=>Zw (Zwy Z Z (T.e 0 Z) (by rw [show (decide (((qL.length:Nat):Int)=((pu3.length:Nat):Int)))=true from (Zdt (by omega))];try rfl)) (Zrm Z (T.e 63 Z))) Z (fun _ T=>Zw (Zwy Z Z (T.e 1 Z) (by rw [show (decide (((qL.length:Nat):Int)=((pu3.length:Nat):Int)))=true from (Zdt (by omega))];try rfl)) (Zrl Z Try.underlying24 (T.e 0 Z))) Z (fun _ T=>Zw (Zwy Z Z (T.e 2 Z) (by rw [show (decide (((qL.length:Nat):Int)=((pu3.length:Nat):Int)))=true from (Zdt (by omega))];try rfl)) (Zrm Z (T.e 69 Z))) Z (fun _ T=>Zw (Zwy Z Z (T.e 3 Z) (by rw [show (decide (((qL.length:Nat):Int)=((pu3.length:Nat):Int)))=true from (Zdt (by omega))];try rfl)) (Zrl Z Try.underlying44 (T.e 0 Z))) Z (fun _ T=>Zw (Zwy Z Z (T.e 4 Z) (by rw [show (decide (((qL.length:Nat):Int)=((pu3.length:Nat):Int)))=true from (Zdt (by omega))];try rfl)) (rn_neq Z (T.e 2 Z) (T.e 0 Z))) Z (fun _ T=>Zq (Zr0 Z (T.e 5 Z) (by rw [show (decide (((qL.length:Nat):Int)=((pu3.length:Nat):Int)))=true from (Zdt (by omega))];try rfl) (T.e 0 Z))) Z ?_;intro ac T
 refine wpList_nil ?_
 refine nqR_n M ?_;clear M;intro wc M
 replace SAu3:=SAu3.pt
 replace SGu2:=SGu2.pt
 replace SI:=SI.pt
 replace SO:=SO.pt
 replace SPu3:=SPu3.pt
 replace SWu4:=SWu4.pt
 replace Sru7:=Sru7.pt
 replace Sru8:=Sru8.pt
 replace T:=T.pick [0,69,71,72] rfl
 replace M:=M.mask [false,false,true] rfl
 replace M:Mem w noEx wc ((g1,.cells [Zi bu2.full,Zi bu2.a0,Zi bu2.a1,.slice Abu2 bu2.cs.length cbu2,.slice Dbu2 bu2.ts.length dbu2])::(Ibu2++Ipu3++Iu4++Ixu5++Io++Iru7++Iru8++Itu11++Itu12)):=M
 refine nm_then ?_
 refine wB_cond_false hP ((T.e 0 Z).trans (congrArg Value.bool (by rw [show (decide (((rL.length:Nat):Int)=((pu3.length:Nat):Int)))=true from (Zdt (by omega))];try rfl))) ?_
 refine wpB_skip hP ?_
 refine nm_then ?_
 refine wpB_seq hP ?_
 refine wpB_seq hP ?_
 refine b_lone hP w fun T9=>?_
 replace M:=M.tp T9 0 0
 replace SAu3:=SAu3.tp T9 0
 replace SGu2:=SGu2.tp T9 0
 replace SI:=SI.tp T9 0
 replace SO:=SO.tp T9 0
 replace SPu3:=SPu3.tp T9 0
 replace SWu4:=SWu4.tp T9 0
 replace Sru7:=Sru7.tp T9 0
 replace Sru8:=Sru8.tp T9 0
 refine wp_region_lit ?_
 refine lq T (Zra Z evc) ?_;intro ac T
 refine wpList_nil ?_
 refine nqR_n M ?_;clear M;intro wc M
 replace SAu3:=SAu3.pt
 replace SGu2:=SGu2.pt
 replace SI:=SI.pt
 replace SO:=SO.pt
 replace SPu3:=SPu3.pt
 replace SWu4:=SWu4.pt
 replace Sru7:=Sru7.pt
 replace Sru8:=Sru8.pt
 replace T:=T.pick [0,2,3,4] rfl
 refine nm_then ?_
 refine wpB_block hP ?_
 refine wpB_loop_n hP (fun mz ac wc=>∃ (k:Nat),mz=qL.length - k∧(k≤qL.length)∧Tm ac 215 [(4,Zj g1),(13,.slice Aru7 qL.length cru7),(15,.slice Aru8 rL.length cru8),(31,Zi (k:Int))]∧Mem w noEx wc ((g1,.cells [Zi bu2.full,Zi bu2.a0,Zi bu2.a1,.slice Abu2 bu2.cs.length cbu2,.slice Dbu2 bu2.ts.length dbu2])::(Ibu2++Ipu3++Iu4++Ixu5++Io++Iru7++Iru8++Itu11++Itu12))) ?_ ?_
 ·exact ⟨_,0,Z,(by omega),T.pick [3,2,1,0] Z,M.mask [true] Z⟩
 clear T M
 rintro mz ac wc ⟨k,hmm2,hk,T,M⟩
 refine wpB_seq hP ?_
 refine wpB_seq hP ?_
 refine b_lone hP w fun T9=>?_
 replace M:=M.tp T9 0 0
 replace SAu3:=SAu3.tp T9 0
 replace SGu2:=SGu2.tp T9 0
 replace SI:=SI.tp T9 0
 replace SO:=SO.tp T9 0
 replace SPu3:=SPu3.tp T9 0
 replace SWu4:=SWu4.tp T9 0
 replace Sru7:=Sru7.tp T9 0
 replace Sru8:=Sru8.tp T9 0
 refine wp_region_lit ?_
 refine Zg4 T (Zq (Zrm Z (T.e 3 Z))) Z (Zm 2 Z Z) Z (Zl Try.underlying24 0 Z Z) Z (fun _ T=>Zq (rn_lss Z (T.e 2 Z) (T.e 0 Z))) Z ?_;intro ac T
 refine wpList_nil ?_
 refine nqR_n M ?_;clear M;intro wc M
 replace SAu3:=SAu3.pt
 replace SGu2:=SGu2.pt
 replace SI:=SI.pt
 replace SO:=SO.pt
 replace SPu3:=SPu3.pt
 replace SWu4:=SWu4.pt
 replace Sru7:=Sru7.pt
 replace Sru8:=Sru8.pt
 replace T:=T.pick [0,4,5,6,7] rfl
 refine nm_then ?_
 refine wB_if hP (T.e 0 Z) ?_ ?_
 ·intro h2
  obtain ⟨y0,y1,hky,-⟩:=rc_next (l:=qL) (k:=k) (by omega)
  obtain ⟨z0,z1,hkz,-⟩:=rc_next (l:=rL) (k:=k) (by omega)
  obtain ⟨⟨hz0,hz1⟩,⟨hy0,hy1⟩,hy2,hy3⟩:=z11 k (y0,y1) (z0,z1) hky hkz
  dsimp only at hz0 hz1 hy0 hy1 hy2 hy3
  refine wpB_skip hP ?_
  refine nm_then ?_
  refine wpB_seq hP ?_
  refine wpB_block hP ?_
  refine wpB_seq hP ?_
  refine b_lone hP w fun T9=>?_
  replace M:=M.tp T9 0 0
  replace SAu3:=SAu3.tp T9 0
  replace SGu2:=SGu2.tp T9 0
  replace SI:=SI.tp T9 0
  replace SO:=SO.tp T9 0
  replace SPu3:=SPu3.tp T9 0
  replace SWu4:=SWu4.tp T9 0
  replace Sru7:=Sru7.tp T9 0
  replace Sru8:=Sru8.tp T9 0
  refine Zgs M (M.mask [true] Z) 22 (by kernel_rfl) Z (by kernel_rfl) ?_
  clear M;intro wc M
  refine Zgq T 0 1 Z (fun _=>(Zrm Z (T.e 3 Z))) ?_;intro ac T
  refine Zgq T 1 3 Z (fun _=>(Zrm Z (T.e 5 Z))) ?_;intro ac T
  refine Zgq T 2 7 Z (fun _=>(Zri (size:=2) k Z (T.e 1 Z) (T.e 0 Z) ⟨_,Try.underlying24,by kernel_rfl⟩ Z (by omega) (Sru8.at0 (by omega)))) ?_;intro ac T
  refine gq (v:=(.agg #[Zi z0,Zi z1])) T 3 15 Z (fun B w' hD hl hS=>(rn_rowat (Sp.rcR Sru8 (show Mem (Bq.tp w T9 0) noEx w' _ from hS) (.cons _ (subL (subL (Zsq _ _)))) hkz) Z (T.e 0 Z) Z)) ?_;intro ac T
  refine Zgq (v:=(Zj g1)) T 4 31 Z (fun _=>(Zrg 0 Z (T.e 5 Z))) ?_;intro ac T
  refine gq T 5 63 Z (fun B w' hD hl hS=>(Zro (Mem.nth (show Mem (Bq.tp w T9 0) noEx w' _ from hS) 0 Z) Z (T.e 0 Z) Z)) ?_;intro ac T
  refine Zgq T 6 127 Z (fun _=>(Zrm Z (T.e 8 Z))) ?_;intro ac T
  refine Zgq T 7 255 Z (fun _=>(Zrm Z (T.e 11 Z))) ?_;intro ac T
  refine Zgq T 8 511 Z (fun _=>(Zri (size:=2) k Z (T.e 1 Z) (T.e 0 Z) ⟨_,Try.underlying24,by kernel_rfl⟩ Z (by omega) (Sru7.at0 (by omega)))) ?_;intro ac T
  refine Zgq T 9 1023 Z (fun _=>(Zrg 1 Z (T.e 0 Z))) ?_;intro ac T
  refine gq T 10 2047 Z (fun B w' hD hl hS=>(rn_cell (Sp.rc1 Sru7 (show Mem (Bq.tp w T9 0) noEx w' _ from hS) (.cons _ (subL (subL (subL (Zsq _ _))))) hky) Z (T.e 0 Z))) ?_;intro ac T
  refine Zgq T 11 4095 Z (fun _=>(rn_sub Z (T.e 5 Z) (T.e 0 Z) (by omega))) ?_;intro ac T
  refine Zgq (v:=(Zj g1)) T 12 8191 Z (fun _=>(Zrg 0 Z (T.e 13 Z))) ?_;intro ac T
  refine gq T 13 16383 Z (fun B w' hD hl hS=>(Zro (Mem.nth (show Mem (Bq.tp w T9 0) noEx w' _ from hS) 0 Z) Z (T.e 0 Z) Z)) ?_;intro ac T
  refine Zgq T 14 32767 Z (fun _=>(Zrm Z (T.e 16 Z))) ?_;intro ac T
  refine Zgq T 15 65535 Z (fun _=>(Zrm Z (T.e 19 Z))) ?_;intro ac T
  refine Zgq T 16 131071 Z (fun _=>(Zri (size:=2) k Z (T.e 1 Z) (T.e 0 Z) ⟨_,Try.underlying24,by kernel_rfl⟩ Z (by omega) (Sru7.at0 (by omega)))) ?_;intro ac T
  refine Zgq T 17 262143 Z (fun _=>(Zrg 0 Z (T.e 0 Z))) ?_;intro ac T
  refine gq T 18 524287 Z (fun B w' hD hl hS=>(rn_cell (Sp.rc0 Sru7 (show Mem (Bq.tp w T9 0) noEx w' _ from hS) (.cons _ (subL (subL (subL (Zsq _ _))))) hky) Z (T.e 0 Z))) ?_;intro ac T
  refine Zgq T 19 1048575 Z (fun _=>(rn_sub Z (T.e 5 Z) (T.e 0 Z) (by omega))) ?_;intro ac T
  refine gw 20 2097151 ?_;intro K hK
  refine Zod T Z Z Z Z evf (.cons (T.e 8 Z) (.cons (T.e 0 Z) .nil)) Try.func48 Z Z ?_
  refine Calls.mono (toE (x:=(bu2.full - y1)) (y:=(bu2.full - y0)) (a:=z0) (c:=z1) (by omega) (by omega) _) ?_
  clear T;rintro e wc ⟨rfl,hb⟩ ac T
  replace M:=M.call hb;clear hb
  refine Zso hK _ _ (M.mask [true] Z) ?_;clear hK K
  refine Zgq (v:=(.bool false)) T 21 4194303 Z (fun _=>(Zrq (rn_bin Z (T.e 17 Z) (T.e 0 Z) neT23) (by simp))) ?_;intro ac T
  refine Zgd (by kernel_rfl) ?_
  refine nqR_n M ?_;clear M;intro wc M
  replace SAu3:=SAu3.pt
  replace SGu2:=SGu2.pt
  replace SI:=SI.pt
  replace SO:=SO.pt
  replace SPu3:=SPu3.pt
  replace SWu4:=SWu4.pt
  replace Sru7:=Sru7.pt
  replace Sru8:=Sru8.pt
  replace T:=T.pick [0,23,24,25,26] rfl
  refine nm_then ?_
  refine wB_cond_false hP (T.e 0 Z) ?_
  refine wpB_skip hP ?_
  refine Znb ?_
  refine nm_then ?_
  refine b_lone hP w fun T9=>?_
  replace M:=M.tp T9 0 0
  replace SAu3:=SAu3.tp T9 0
  replace SGu2:=SGu2.tp T9 0
  replace SI:=SI.tp T9 0
  replace SO:=SO.tp T9 0
  replace SPu3:=SPu3.tp T9 0
  replace SWu4:=SWu4.tp T9 0
  replace Sru7:=Sru7.tp T9 0
  replace Sru8:=Sru8.tp T9 0
  refine wp_region_lit ?_
  refine Zg2 T (Zq (Zrm Z (T.e 4 Z))) Z (fun _ T=>Zq (rn_add Z (T.e 0 Z) evc (by omega))) Z ?_;intro ac T
  refine l_q (v:=(Zi ((k:Int)+1))) (T.pick [0,1,2,3,4,5] Z) Z Z Z Z (Zra Z (T.e 0 Z)) ?_;intro ac T
  refine wpList_nil ?_
  refine nqR_n M ?_;clear M;intro wc M
  replace SAu3:=SAu3.pt
  replace SGu2:=SGu2.pt
  replace SI:=SI.pt
  replace SO:=SO.pt
  replace SPu3:=SPu3.pt
  replace SWu4:=SWu4.pt
  replace Sru7:=Sru7.pt
  replace Sru8:=Sru8.pt
  replace T:=T.pick [0,4,5,6] rfl
  refine nm_then ?_
  exact ⟨_,by omega,k+1,Z,(by omega),T.pick [1,2,3,0] Z,M.mask [true] Z⟩
 intro h2
 refine wpB_exit hP ?_
 refine Zet ?_
 refine Zet ?_
 refine ex_hit ?_
 refine nm_then ?_
 refine wpB_seq hP ?_
 refine rB_preN hP w 0 (by decide) fun T9=>?_
 replace M:=M.tp T9 0 0
 replace SAu3:=SAu3.tp T9 0
 replace SGu2:=SGu2.tp T9 0
 replace SI:=SI.tp T9 0
 replace SO:=SO.tp T9 0
 replace SPu3:=SPu3.tp T9 0
 replace SWu4:=SWu4.tp T9 0
 replace Sru7:=Sru7.tp T9 0
 replace Sru8:=Sru8.tp T9 0
 refine wpList_nil ?_
 refine pqR_n M ?_;clear M;intro wc M
 replace SAu3:=SAu3.pt
 replace SGu2:=SGu2.pt
 replace SI:=SI.pt
 replace SO:=SO.pt
 replace SPu3:=SPu3.pt
 replace SWu4:=SWu4.pt
 replace Sru7:=Sru7.pt
 replace Sru8:=Sru8.pt
 refine rB_call hP (m:=1) (first:=[]) (cap:=[]) T Z Z Z Z Z evf .nil Try.func16 Z Z (airy_any hP _) ?_
 clear T
 rintro e wc ⟨rfl,hb⟩
 refine ⟨_,Z,?_⟩
 intro ac T
 replace M:=M.call hb;clear hb
 refine rB_moreN hP w 1 0 Z (by decide) fun T9=>?_
 replace M:=M.tp T9 0 0
 replace SAu3:=SAu3.tp T9 0
 replace SGu2:=SGu2.tp T9 0
 replace SI:=SI.tp T9 0
 replace SO:=SO.tp T9 0
 replace SPu3:=SPu3.tp T9 0
 replace SWu4:=SWu4.tp T9 0
 replace Sru7:=Sru7.tp T9 0
 replace Sru8:=Sru8.tp T9 0
 refine lq T (Zra Z (T.e 0 Z)) ?_;intro ac T
 refine wpList_nil ?_
 refine pqR_n M ?_;clear M;intro wc M
 replace SAu3:=SAu3.pt
 replace SGu2:=SGu2.pt
 replace SI:=SI.pt
 replace SO:=SO.pt
 replace SPu3:=SPu3.pt
 replace SWu4:=SWu4.pt
 replace Sru7:=Sru7.pt
 replace Sru8:=Sru8.pt
 refine rB_nil hP ?_
 replace T:=T.pick [0] rfl
 replace M:=M.mask [false] rfl
 replace M:Mem w noEx wc ((Ibu2++Ipu3++Iu4++Ixu5++Io++Iru7++Iru8++Itu11++Itu12)):=M
 refine nm_then ?_
 refine wpB_ret hP ?_
 refine rt_1 T Z (T.e 0 Z) ?_
 exact ⟨rfl,M.below⟩
end
end Go.Proofs.Ytoheddpnnjldgaa


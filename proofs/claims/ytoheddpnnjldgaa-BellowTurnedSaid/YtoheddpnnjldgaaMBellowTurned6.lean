/-
  Walks of functions,and plain laws (texts put together). No condition.
-/
import Derived.Test.YtoheddpnnjldgaaMBellowTurned1
import Derived.Test.YtoheddpnnjldgaaMBellowTurned2
import Derived.Test.YtoheddpnnjldgaaMBellowTurned3
import Derived.Test.YtoheddpnnjldgaaMBellowTurned4
import Derived.Test.YtoheddpnnjldgaaMBellowTurned5
set_option maxRecDepth 100000
set_option maxHeartbeats 1000000
set_option linter.unusedSimpArgs false
set_option linter.unusedVariables false
set_option linter.unusedSectionVars false
namespace Go.Proofs.Ytoheddpnnjldgaa
open Go.RowKit
def plyL (leak:Int):Int→List Nt→List Int→List Int→List Int
 | air,q::p,w::g,a::aa=>aft w air (q.sec * (a+leak))::plyL leak (aft w air (q.sec * (a+leak))) p g aa
 | _,_,_,_=>[]
def plyF (full leak air:Int) (p:List Nt) (g aa:List Int):Bool:=(plyL leak air p g aa).all fun x=>decide (0≤x) && decide (x≤full)
def TakeOk:List Nt→List Int→Prop
 | [],[]=>True
 | q::p,a::aa=>(1≤q.sec∧q.lo≤a∧a≤q.hi)∧TakeOk p aa
 | _,_=>False
theorem lv1_in {w s air a:Int} {r:Int×Int} {q:Nt} (hs:1≤q.sec) (h:r.1≤air∧air≤r.2) (ha:q.lo≤a∧a≤q.hi):(lv1 w r q s).1≤aft w air (q.sec * (a+s))∧aft w air (q.sec * (a+s))≤(lv1 w r q s).2:=by
 have h1:q.sec * (q.lo+s)≤q.sec * (a+s):=Int.mul_le_mul_of_nonneg_left (by omega) (by omega)
 have h2:q.sec * (a+s)≤q.sec * (q.hi+s):=Int.mul_le_mul_of_nonneg_left (by omega) (by omega)
 unfold lv1 aft
 split <;> omega
theorem levs_in {s:Int}:∀ (p:List Nt) (r:Int×Int) (air:Int) (g aa:List Int),g.length=p.length→TakeOk p aa→(r.1≤air∧air≤r.2)→(plyL s air p g aa).length=p.length∧∀ (i:Nat) (x:Int),(plyL s air p g aa)[i]? = some x→∃ y,(levs s r p g)[i]? = some y∧y.1≤x∧x≤y.2
 | [],r,air,g,aa,_,_,_=>⟨by cases aa <;> rfl,fun i x h=>by unfold plyL at h;simp at h⟩
 | q::p,r,air,[],aa,hl,_,_=>by simp at hl
 | q::p,r,air,w::g,[],_,ht,_=>ht.elim
 | q::p,r,air,w::g,a::aa,hl,ht,h=>by
  have h1:=lv1_in (w:=w) (s:=s) ht.1.1 h ht.1.2
  obtain ⟨ih1,ih2⟩:=levs_in (s:=s) p (lv1 w r q s) (aft w air (q.sec * (a+s))) g aa (by simpa using hl) ht.2 h1
  unfold plyL levs
  refine ⟨by simp [ih1],fun i x hx=>?_⟩
  cases i with
  | zero =>
   rw [List.getElem?_cons_zero,Option.some.injEq] at hx
   subst hx
   exact ⟨_,Z,h1⟩
  | succ i=>exact ih2 i x hx
theorem must_fine {b:Bw} {p:List Nt} {g aa:List Int} {s air:Int} (hg:g.length=p.length) (ht:TakeOk p aa) (ha:b.a0≤air∧air≤b.a1) (h:mustB b p g s=true):plyF b.full s air p g aa=true:=by
 obtain ⟨-,h2⟩:=levs_in (s:=s) p (b.a0,b.a1) air g aa hg ht ha
 unfold mustB at h
 unfold plyF
 rw [List.all_eq_true] at h ⊢
 intro x hx
 obtain ⟨i,hi⟩:=List.getElem?_of_mem hx
 obtain ⟨y,hy,hb⟩:=h2 i x hi
 have:=h y (List.mem_of_getElem? hy)
 simp only [Bool.and_eq_true,decide_eq_true_eq] at this ⊢
 omega
theorem fine_canF {full s:Int}:∀ (p:List Nt) (S:Int→Bool) (air:Int) (g aa:List Int),g.length=p.length→TakeOk p aa→S air=true→(0≤air∧air≤full)→plyF full s air p g aa=true→canF full s S p g=true
 | [],S,air,g,aa,_,_,_,_,_=>canF_nil _ _ _ _
 | q::p,S,air,[],aa,hl,_,_,_,_=>by simp at hl
 | q::p,S,air,w::g,[],_,ht,_,_,_=>ht.elim
 | q::p,S,air,w::g,a::aa,hl,ht,hS,hr,h=>by
  unfold plyF plyL at h
  rw [List.all_cons,Bool.and_eq_true,Bool.and_eq_true,decide_eq_true_eq,decide_eq_true_eq] at h
  have hn:nxB full w s q S (aft w air (q.sec * (a+s)))=true:=by
   unfold nxB
   simp only [Bool.and_eq_true,decide_eq_true_eq,List.any_eq_true,upI_mem]
   exact ⟨h.1,air,hr,hS,a,ht.1.2,Z⟩
  unfold canF
  rw [Bool.and_eq_true]
  exact ⟨List.any_eq_true.2 ⟨_,upI_mem.2 h.1,hn⟩,fine_canF p _ _ g aa (by simpa using hl) ht.2 hn h.1 h.2⟩
theorem fine_can {b:Bw} {p:List Nt} {g aa:List Int} {s air:Int} (hg:g.length=p.length) (ht:TakeOk p aa) (ha:b.a0≤air∧air≤b.a1) (h0:0≤b.a0∧b.a1≤b.full) (h:plyF b.full s air p g aa=true):canB b p g s=true:=by
 unfold canB
 exact fine_canF p _ air g aa hg ht (by simp;omega) (by omega) h
theorem BwTrue.good {b:Bw} {g:List Int} {air:Int} (h:BwTrue b g air) (h4:g.length≤4) (h3:b.ts.length≤3):BwGood b:=chkB_good (h.chk h4 h3)
open Go.RowKit
open Go.RowKit
section
open Go.RowKit Go.Proofs.Ytoheddpnnjldgaa.Bq
def hopL (b:Bw) (p:List Nt):List Int:=if knownE b [pieceE p]≠0 then [] else ((bysT p).find? (hopB b p (sums0 b))).getD []
def hopE (b:Bw) (p:List Nt):Int:=if knownE b [pieceE p]≠0 then knownE b [pieceE p] else if ((bysT p).find? (hopB b p (sums0 b))).isSome then 0 else 11
theorem ways2_any (b:Bw) (A:Option Addr) (c:Nat) (D:Option Addr) (d:Nat) (p:List Nt) (P:Option Addr) (pc:Nat) (ss:List Int) (B:Option Addr) (lc:Nat) (G:Option Addr) (n:Nat) (g:List Int) (gf gw:Nat)  (w:World) (hP9:Rd w w.heap.size 4 P p.length (ntc p)) (hG:Rd w w.heap.size 1 G g.length (ic g)) (hL:Rd w w.heap.size 7 B ss.length (pdc (ss.map (mkP b A c D d P pc p)))) (nL:ss.length≤1000000) (hgp:NtGood p) (hgb:BwAir b) (hss:∀ s∈ss,0≤s∧s≤20) (hgl:g.length=p.length) (q1:Bk w gf #[.func (.func 96) #[] #[]]) (q2:Bk w gw #[.slice B ss.length lc])  :
  Calls Try.prog 126 #[.slice G g.length n,Zj gf,Zj gw] w fun e w'=>e=.returned (.bool (hopB b p ss g))∧Below w.heap.size w w':=by
 obtain ⟨bP,oP,SP⟩:=Sp.old hP9
 obtain ⟨bG,oG,SG⟩:=Sp.old hG
 obtain ⟨bL,oL,SL⟩:=Sp.old hL
 refine Zpx noEx Try.func126 Z 9 Z [.slice G g.length n,Zj gf,Zj gw] Z Z (Mem.init w _) ?_
 intro ac wc T M
 refine Zsr ?_
 refine lq T (Zra Z evc) ?_;intro ac T
 replace T:=T.pick [1,2,3] rfl
 refine Zln ?_
 refine Zsr ?_
 refine Zg3 T (Zq (Zro (Mem.old M q1 (fun h=>h)) Z (T.e 1 Z) Z)) Z (fun _ T=>Zq (Zro (Mem.old M q2 (fun h=>h)) Z (T.e 3 Z) Z)) Z (Zm 2 Z Z) Z ?_;intro ac T
 refine Zl2 ?_
 refine Zod T Z Z Z Z (T.e 2 Z) (.cons (T.e 1 Z) (.cons (T.e 0 Z) .nil)) Try.func96 Z Z ?_
 refine Calls.mono (maybe_any b A c D d p P pc ss B lc G n g _ (SP.rd M (Zz9 _)) (SG.rd M (Zz9 _)) (SL.rd M (Zz9 _)) (by omega) hgp hgb hss hgl) ?_
 clear T;rintro e wc ⟨rfl,hb⟩ ac T
 replace M:=M.call hb;clear hb
 refine lq T (Zra Z (T.e 0 Z)) ?_;intro ac T
 replace T:=T.pick [0] rfl
 refine Zln ?_
 refine wp_ret ?_
 refine rt_1 T Z (T.e 0 Z) ?_
 exact ⟨rfl,M.below⟩
set_option maxHeartbeats 4000000 in
theorem waysByH_any {J:Nat→Option Obj} (hP:FuncsOk Try.prog) (b:Bw) (A:Option Addr) (c:Nat) (D:Option Addr) (d:Nat) (p:List Nt) (P:Option Addr) (pc:Nat)  (w:World) (hA:Rd w w.heap.size 2 A b.cs.length (rc b.cs)) (hD:Rd w w.heap.size 4 D b.ts.length (lkc b.ts)) (hop:∀ t∈b.ts,Rd w w.heap.size 1 t.A t.op.length (ic t.op)) (nA:b.cs.length≤1000) (nD:b.ts.length≤1000) (nop:∀ t∈b.ts,t.op.length≤1000) (hP9:Rd w w.heap.size 4 P p.length (ntc p)) (nP:p.length≤1000)  :
   CallsB Try.prog J 86 #[.agg #[Zi b.full,Zi b.a0,Zi b.a1,.slice A b.cs.length c,.slice D b.ts.length d],.slice P p.length pc,.func (.func 96) #[] #[]] w (LsMPost (hopL b p) (hopE b p) w):=by
 obtain ⟨bA,oA,SA⟩:=Sp.old hA
 obtain ⟨bD,oD,SD⟩:=Sp.old hD
 obtain ⟨bP,oP,SP⟩:=Sp.old hP9
 refine px_enterB hP noEx Try.func86 Z 41 Z [.agg #[Zi b.full,Zi b.a0,Zi b.a1,.slice A b.cs.length c,.slice D b.ts.length d],.slice P p.length pc,.func (.func 96) #[] #[]] Z Z (Mem.init w _) ?_
 intro ac wc T M
 refine wpB_seq hP ?_
 refine b_lone hP w fun T9=>?_
 replace M:=M.tp T9 0 0
 replace SA:=SA.tp T9 0
 replace SD:=SD.tp T9 0
 replace SP:=SP.tp T9 0
 refine wp_region_lit ?_
 refine Zl2 ?_
 refine Zob M T Z Z Z Z (T.e 0 Z) Z ?_;clear M T;intro g1 wc ac M T
 refine Zl2 ?_
 refine Zob M T Z Z Z Z (T.e 3 Z) Z ?_;clear M T;intro g2 wc ac M T
 refine Zg3 T (Zq (Zra Z evc)) Z (Zc Z) Z (Zc Z) Z ?_;intro ac T
 refine wpList_nil ?_
 refine nqR_n M ?_;clear M;intro wc M
 replace SA:=SA.pt
 replace SD:=SD.pt
 replace SP:=SP.pt
 replace T:=T.pick [3,4,6] rfl
 refine nm_then ?_
 refine wpB_seq hP ?_
 refine gB_start2 hP M (M.mask [true,true] Z) 10 (by kernel_rfl) Z (by kernel_rfl) ?_
 clear M;intro wc M
 refine gB_q (T:=T) (i:=0) Z (by kernel_rfl) (by kernel_rfl:(Zpb 10 0).setIfInBounds 0 true=Zpb 10 1) (fun _=>si_U) Z Z Z Z (fun T9 B w' hD hl hS=>(Zrr (Mem.nth (show Mem (Bq.tp w T9 0) noEx w' _ from hS) 1 Z) Z (T.e 1 Z) Z)) ?_;intro ac T
 refine gB_q (T:=T) (i:=1) Z (by kernel_rfl) (by kernel_rfl:(Zpb 10 1).setIfInBounds 1 true=Zpb 10 3) (fun _=>si_U) Z Z Z Z (fun _ _ _ _ _ _=>(Zrm Z (T.e 3 Z))) ?_;intro ac T
 refine gB_w (i:=2) (by kernel_rfl) Z (by kernel_rfl:(Zpb 10 3).setIfInBounds 2 true=Zpb 10 7) Z ?_;intro T9 K hK
 replace M:=M.tp T9 0 0
 replace SA:=SA.tp T9 0
 replace SD:=SD.tp T9 0
 replace SP:=SP.tp T9 0
 refine Zod T Z Z Z Z evf (.cons (T.e 0 Z) .nil) Try.func40 Z Z ?_
 refine Calls.mono (piece_any p P pc _ (SP.rd M (Zz9 _)) (by omega)) ?_
 clear T;rintro e wc ⟨rfl,hb⟩ ac T
 replace M:=M.call hb;clear hb
 refine gB_out hK M ?_;clear hK K M;intro wc M
 replace SA:=SA.pt
 replace SD:=SD.pt
 replace SP:=SP.pt
 refine ⟨(M.mask [true,true] Z),?_⟩
 refine gB_w (i:=3) (by kernel_rfl) Z (by kernel_rfl:(Zpb 10 7).setIfInBounds 3 true=Zpb 10 15) Z ?_;intro T9 K hK
 replace M:=M.tp T9 0 0
 replace SA:=SA.tp T9 0
 replace SD:=SD.tp T9 0
 replace SP:=SP.tp T9 0
 refine ow_bs (e:=39) [Zi (pieceE p)] M T Z Z Z Z (.cons (T.e 0 Z) .nil) (fun _=>by kernel_rfl) ?_;clear M T;intro g3 wc ac M T
 refine gB_out hK M ?_;clear hK K M;intro wc M
 replace SA:=SA.pt
 replace SD:=SD.pt
 replace SP:=SP.pt
 refine ⟨(M.mask [false,true,true] Z),?_⟩
 refine gB_one (i:=4) (by kernel_rfl) (by kernel_rfl:(Zpb 10 15).setIfInBounds 4 true=Zpb 10 31) (opB_call (first:=[]) (cap:=[]) T Z Z Z Z Z evf (.cons (T.e 3 Z) (.cons (T.e 0 Z) .nil)) Try.func77 Z Z (known_any hP b A c D d (some ⟨g3,0,none⟩) 1 [(pieceE p)] _ (SA.rd M (Zz9 _)) (SD.rd M (Zz9 _)) (fun t ht=>M.rd (hop t ht) (Nat.le_refl _)) nA nD nop (M.rdOwn (Zne (i:=0) Z) Z Z) (by first | omega | simp)) ?_ Z)
 clear T
 rintro e wc ⟨Akur1_4,ckur1_4,Ikur1_4,rfl,hckur1_4,N⟩
 refine ⟨_,Z,?_⟩
 intro ac T
 obtain ⟨lkur1_4,hlkur1_4⟩:∃ q,q=knownL b [(pieceE p)]:=⟨_,rfl⟩
 obtain ⟨ekur1_4,hekur1_4⟩:∃ q,q=knownE b [(pieceE p)]:=⟨_,rfl⟩
 rw [← hlkur1_4] at hckur1_4 T
 rw [← hekur1_4] at T
 obtain ⟨bkur1_4,okur1_4,hSkur1_4⟩:=hckur1_4.spV (l4c_length _)
 have SLkur1_4:=hSkur1_4 w noEx
 clear hSkur1_4
 replace M:=(M.join N).swapI
 clear N
 replace M:Mem w noEx wc ((g3,.cells [Zi (pieceE p)])::(g2,.cells [.func (.func 96) #[] #[]])::(g1,.cells [Zi b.full,Zi b.a0,Zi b.a1,.slice A b.cs.length c,.slice D b.ts.length d])::Ikur1_4):=M
 refine ⟨(M.perm [1,2] Z Z),?_⟩
 refine gB_q (T:=T) (i:=5) Z (by kernel_rfl) (by kernel_rfl:(Zpb 10 31).setIfInBounds 5 true=Zpb 10 63) (fun _=>si_U) Z Z Z Z (fun _ _ _ _ _ _=>(Zrm Z (T.e 0 Z))) ?_;intro ac T
 refine gB_q (T:=T) (i:=6) Z (by kernel_rfl) (by kernel_rfl:(Zpb 10 63).setIfInBounds 6 true=Zpb 10 127) (fun _=>si_U) Z Z Z Z (fun _ _ _ _ _ _=>(Zre Z (T.e 0 Z) Z)) ?_;intro ac T
 refine gB_q (T:=T) (i:=7) Z (by kernel_rfl) (by kernel_rfl:(Zpb 10 127).setIfInBounds 7 true=Zpb 10 255) (fun _=>si_U) Z Z Z Z (fun _ _ _ _ _ _=>(Zre Z (T.e 1 Z) Z)) ?_;intro ac T
 refine gB_q (T:=T) (i:=8) Z (by kernel_rfl) (by kernel_rfl:(Zpb 10 255).setIfInBounds 8 true=Zpb 10 511) (fun _=>si_U) Z Z Z Z (fun _ _ _ _ _ _=>(Zra Z (T.e 1 Z))) ?_;intro ac T
 refine gB_q (T:=T) (i:=9) Z (by kernel_rfl) (by kernel_rfl:(Zpb 10 511).setIfInBounds 9 true=Zpb 10 1023) (fun _=>si_U) Z Z Z Z (fun _ _ _ _ _ _=>(Zra Z (T.e 1 Z))) ?_;intro ac T
 refine gB_done (by kernel_rfl) M ?_;clear M;intro wc M
 replace T:=T.pick [0,1,10,11,12] rfl
 replace M:=M.mask [false,true,true] rfl
 refine nm_then ?_
 refine wpB_seq hP ?_
 refine wpB_seq hP ?_
 refine b_lone hP w fun T9=>?_
 replace M:=M.tp T9 0 0
 replace SA:=SA.tp T9 0
 replace SD:=SD.tp T9 0
 replace SLkur1_4:=SLkur1_4.tp T9 0
 replace SP:=SP.tp T9 0
 refine wp_region_lit ?_
 refine Zg2 T (Zq (Zrm Z (T.e 0 Z))) Z (fun _ T=>Zq (rn_neq Z (T.e 0 Z) evc)) Z ?_;intro ac T
 refine wpList_nil ?_
 refine nqR_n M ?_;clear M;intro wc M
 replace SA:=SA.pt
 replace SD:=SD.pt
 replace SLkur1_4:=SLkur1_4.pt
 replace SP:=SP.pt
 replace T:=T.pick [0,2,3,4,5,6] rfl
 refine nm_then ?_
 refine wB_ifn hP (T.e 0 Z) ?_ ?_
 ·intro h1
  refine wpB_seq hP ?_
  refine b_lone hP w fun T9=>?_
  replace M:=M.tp T9 0 0
  replace SA:=SA.tp T9 0
  replace SD:=SD.tp T9 0
  replace SLkur1_4:=SLkur1_4.tp T9 0
  replace SP:=SP.tp T9 0
  refine wp_region_lit ?_
  refine Zg4 T (Zq (Zrm Z (T.e 1 Z))) Z (Zc Z) Z (Zc Z) Z (Za 2 Z Z) Z ?_;intro ac T
  refine wpList_nil ?_
  refine nqR_n M ?_;clear M;intro wc M
  replace SA:=SA.pt
  replace SD:=SD.pt
  replace SLkur1_4:=SLkur1_4.pt
  replace SP:=SP.pt
  replace T:=T.pick [0,1,2] rfl
  replace M:=M.mask [false,false] rfl
  refine nm_then ?_
  refine wpB_ret hP ?_
  refine Zrt ?_
  refine rt_3 T Z (T.e 2 Z) (T.e 1 Z) (T.e 0 Z) ?_
  have hke:knownE b [pieceE p]≠0:=by rw [← hekur1_4];omega
  have e9:hopL b p=[]∧hopE b p=ekur1_4:=by unfold hopL hopE;rw [if_pos hke,if_pos hke,hekur1_4];exact ⟨rfl,rfl⟩
  rw [e9.1,e9.2]
  exact ⟨none,0,[],Z,Nat.le_refl _,⟨0,0,fun w1 ex=>Sp.nil⟩,M.sub (Zz9 _)⟩
 intro h1
 have hke:knownE b [pieceE p]=0:=by rw [← hekur1_4];omega
 obtain ⟨hgood,hf9,hlt,hl4,hlp,hln⟩:=known_ok nop hke
 rw [← hlkur1_4] at hlt hl4 hlp hln
 have hgp:=pieceE_good (first1 hf9)
 have hgb:=hgood.airs
 have h4:=hgood.n4
 refine wpB_skip hP ?_
 refine nm_then ?_
 refine wpB_seq hP ?_
 refine b_lone hP w fun T9=>?_
 replace M:=M.tp T9 0 0
 replace SA:=SA.tp T9 0
 replace SD:=SD.tp T9 0
 replace SLkur1_4:=SLkur1_4.tp T9 0
 replace SP:=SP.tp T9 0
 refine wp_region_lit ?_
 refine Zg3 T (Zq (Zrr (Mem.nth M 1 Z) Z (T.e 4 Z) Z)) Z (Zm 3 Z Z) Z (Zm 7 Z Z) Z ?_;intro ac T
 refine Zl2 ?_
 refine Zod T Z Z Z Z evf (.cons (T.e 2 Z) (.cons (T.e 1 Z) (.cons (T.e 0 Z) (.cons evc .nil)))) Try.func85 Z Z ?_
 refine Calls.mono (playedBy_any b A c D d lkur1_4 Akur1_4 ckur1_4 p P pc none 0 [] _ (SLkur1_4.rd M (.cons _ (.cons _ (List.Sublist.refl _)))) (by omega) hl4 h4 (⟨by simp [ic],fun h=>absurd h (by simp)⟩) (by first | omega | simp)) ?_
 clear T;rintro e wc ⟨Apu2,cpu2,Ipu2,rfl,hclu2,N⟩ ac T
 obtain ⟨svu2,hsvu2⟩:∃ q,q=sumsB (cornL b.cs.length []) lkur1_4:=⟨_,rfl⟩
 rw [← hsvu2] at hclu2 T
 have hssvu2:∀ s∈svu2,0≤s∧s≤20:=by rw [hsvu2];exact sums_bd hl4 h4
 have hnsvu2:svu2.length≤lkur1_4.length:=by rw [hsvu2];exact sumsB_len _
 obtain ⟨bpu2,opu2,Spu2⟩:=hclu2.spV (by rw [pdc_length,List.length_map])
 replace Spu2:=Spu2 (Bq.tp w T9 0) noEx
 replace M:=(M.join N).swapI
 clear N
 replace M:Mem (Bq.tp w T9 0) noEx wc ((g2,.cells [.func (.func 96) #[] #[]])::(g1,.cells [Zi b.full,Zi b.a0,Zi b.a1,.slice A b.cs.length c,.slice D b.ts.length d])::(Ikur1_4++Ipu2)):=M
 refine Zl2 ?_
 refine Zoa M T Z Z Z Z ?_;clear M T;intro g4 wc ac M T
 refine Zl2 ?_
 refine Zot M T Z Z (T.e 0 Z) (T.e 1 Z) Z .head Z Z ?_;clear M T;intro wc ac M T
 refine wpList_nil ?_
 refine nqR_n M ?_;clear M;intro wc M
 replace SA:=SA.pt
 replace SD:=SD.pt
 replace SLkur1_4:=SLkur1_4.pt
 replace SP:=SP.pt
 replace Spu2:=Spu2.pt
 replace T:=T.pick [0,8,10] rfl
 replace M:=M.mask [true,true,false] rfl
 refine nm_then ?_
 refine wpB_seq hP ?_
 refine b_lone hP w fun T9=>?_
 replace M:=M.tp T9 0 0
 replace SA:=SA.tp T9 0
 replace SD:=SD.tp T9 0
 replace SLkur1_4:=SLkur1_4.tp T9 0
 replace SP:=SP.tp T9 0
 replace Spu2:=Spu2.tp T9 0
 refine wp_region_lit ?_
 refine lq T (Zrm Z (T.e 2 Z)) ?_;intro ac T
 refine Zl2 ?_
 refine Zod T Z Z Z Z evf (.cons (T.e 0 Z) .nil) Try.func124 Z Z ?_
 refine Calls.mono (byTurns_any p P pc _) ?_
 clear T;rintro e wc ⟨gu3,rfl,N⟩ ac T
 replace M:=M.join N;clear N
 replace M:=M.mask [true,true,true] rfl
 refine lq (v:=(.func (.func 126) #[] #[Zj g2,Zj g4])) T (rn_makeFunc Z .nil (.cons (T.e 3 Z) (.cons (T.e 2 Z) .nil))) ?_;intro ac T
 refine Zl2 ?_
 have h6:=hgp.n6
 have hP8:=SP.rd M (Zz9 _)
 have hL8:=Spu2.rd M (.cons _ (.cons _ (.cons _ (Zsq _ _))))
 have q7:=M.nth 2 rfl
 have q8:=M.nth 1 rfl
 refine Zod T Z Z Z Z evf (.cons (T.e 1 Z) (.cons (T.e 0 Z) .nil)) Try.func123 Z Z ?_
 refine Calls.mono (firstW_any p P pc gu3 126 _ [Zj g2,Zj g4] (fun w9=>hopB b p svu2 w9) _ h6 (SP.rd M (Zz9 _)) (M.nth 0 Z) Try.func126 Z Z (fun x W hW hR hx=>ways2_any b A c D d p P pc svu2 Apu2 cpu2 x.A x.c x.l g2 g4 W ((hP8.below hW).more hW.size) hR ((hL8.below hW).more hW.size) (by omega) hgp hgb hssvu2 hx (q7.below hW) (q8.below hW))) ?_
 clear T;rintro e wc ⟨Afu4,cfu4,rfu4,bfu4,Ifu4,rfl,hffu4,hfnu4,hfqu4,hfcu4,⟨bzu4,ozu4,hSfu4⟩,N⟩ ac T
 have SFu4:=hSfu4 (Bq.tp w T9 0) noEx
 replace M:=(M.join N).swapI
 clear N
 replace M:Mem (Bq.tp w T9 0) noEx wc ((gu3,.cells [.slice P p.length pc])::(g4,.cells [.slice Apu2 svu2.length cpu2])::(g2,.cells [.func (.func 96) #[] #[]])::(Ikur1_4++Ipu2++Ifu4)):=M
 refine Zg5 T (Zq (Zrm Z (T.e 0 Z))) Z (Ze 0 Z Z Z) Z (Ze 1 Z Z Z) Z (Za 1 Z Z) Z (Za 1 Z Z) Z ?_;intro ac T
 refine wpList_nil ?_
 refine nqR_n M ?_;clear M;intro wc M
 replace SA:=SA.pt
 replace SD:=SD.pt
 replace SFu4:=SFu4.pt
 replace SLkur1_4:=SLkur1_4.pt
 replace SP:=SP.pt
 replace Spu2:=Spu2.pt
 replace T:=T.pick [0,1] rfl
 replace M:=M.mask [false,false,false] rfl
 replace M:Mem w noEx wc ((Ikur1_4++Ipu2++Ifu4)):=M
 refine nm_then ?_
 refine wpB_seq hP ?_
 refine wpB_seq hP ?_
 refine b_lone hP w fun T9=>?_
 replace M:=M.tp T9 0 0
 replace SA:=SA.tp T9 0
 replace SD:=SD.tp T9 0
 replace SFu4:=SFu4.tp T9 0
 replace SLkur1_4:=SLkur1_4.tp T9 0
 replace SP:=SP.tp T9 0
 replace Spu2:=Spu2.tp T9 0
 refine wp_region_lit ?_
 refine Zg2 T (Zq (Zrm Z (T.e 0 Z))) Z (fun _ T=>Zq (rn_not Z (T.e 0 Z))) Z ?_;intro ac T
 refine wpList_nil ?_
 refine nqR_n M ?_;clear M;intro wc M
 replace SA:=SA.pt
 replace SD:=SD.pt
 replace SFu4:=SFu4.pt
 replace SLkur1_4:=SLkur1_4.pt
 replace SP:=SP.pt
 replace Spu2:=Spu2.pt
 replace T:=T.pick [0,3] rfl
 refine nm_then ?_
 refine wB_cond_split hP (T.e 0 Z) ?_ ?_
 ·intro h2
  (have h2':=h2;try simp only [Zb1,Zb2,Zb3,Zb4,Zb5,Zb6,Zb7] at h2')
  refine wpB_seq hP ?_
  refine b_lone hP w fun T9=>?_
  replace M:=M.tp T9 0 0
  replace SA:=SA.tp T9 0
  replace SD:=SD.tp T9 0
  replace SFu4:=SFu4.tp T9 0
  replace SLkur1_4:=SLkur1_4.tp T9 0
  replace SP:=SP.tp T9 0
  replace Spu2:=Spu2.tp T9 0
  refine wp_region_lit ?_
  refine Zg3 T (Zq (Zra Z evc)) Z (Zc Z) Z (Zc Z) Z ?_;intro ac T
  refine wpList_nil ?_
  refine nqR_n M ?_;clear M;intro wc M
  replace SA:=SA.pt
  replace SD:=SD.pt
  replace SFu4:=SFu4.pt
  replace SLkur1_4:=SLkur1_4.pt
  replace SP:=SP.pt
  replace Spu2:=Spu2.pt
  replace T:=T.pick [0,1,2] rfl
  refine nm_then ?_
  refine wpB_ret hP ?_
  refine Zrt ?_
  refine rt_3 T Z (T.e 2 Z) (T.e 1 Z) (T.e 0 Z) ?_
  have hsv9:svu2=sums0 b:=by rw [hsvu2,hlt];rfl
  rw [hsv9] at hffu4
  have e9:hopL b p=[]∧hopE b p=11:=by unfold hopL hopE;rw [if_neg (by omega),if_neg (by omega),hffu4,show bfu4=false by simp_all];exact ⟨rfl,rfl⟩
  rw [e9.1,e9.2]
  exact ⟨none,0,[],Z,Nat.le_refl _,⟨0,0,fun w1 ex=>Sp.nil⟩,M.sub (Zz9 _)⟩
 intro h2
 (have h2':=h2;try simp only [Zb1,Zb2,Zb3,Zb4,Zb5,Zb6,Zb7] at h2')
 have hrl:rfu4.length=p.length:=hfqu4 (by simp_all)
 refine wpB_skip hP ?_
 refine nm_then ?_
 refine wpB_seq hP ?_
 refine b_lone hP w fun T9=>?_
 replace M:=M.tp T9 0 0
 replace SA:=SA.tp T9 0
 replace SD:=SD.tp T9 0
 replace SFu4:=SFu4.tp T9 0
 replace SLkur1_4:=SLkur1_4.tp T9 0
 replace SP:=SP.tp T9 0
 replace Spu2:=Spu2.tp T9 0
 refine wp_region_lit ?_
 refine Zg2 T (Zq (Zrm Z (T.e 1 Z))) Z (Zm 2 Z Z) Z ?_;intro ac T
 refine Zl2 ?_
 refine Zod T Z Z Z Z evf (.cons (T.e 0 Z) .nil) Try.func127 Z Z ?_
 refine Calls.mono (turns_any Afu4 cfu4 rfu4 _ (SFu4.rd M (Zsq _ _)) (by omega)) ?_
 clear T;rintro e wc ⟨rfl,hb⟩ ac T
 replace M:=M.call hb;clear hb
 refine Zg3 T (Zq (Zra Z (T.e 2 Z))) Z (Za 1 Z Z) Z (Zc Z) Z ?_;intro ac T
 refine wpList_nil ?_
 refine nqR_n M ?_;clear M;intro wc M
 replace SA:=SA.pt
 replace SD:=SD.pt
 replace SFu4:=SFu4.pt
 replace SLkur1_4:=SLkur1_4.pt
 replace SP:=SP.pt
 replace Spu2:=Spu2.pt
 replace T:=T.pick [0,1,2] rfl
 refine nm_then ?_
 refine wpB_ret hP ?_
 refine rt_3 T Z (T.e 2 Z) (T.e 1 Z) (T.e 0 Z) ?_
 have hsv9:svu2=sums0 b:=by rw [hsvu2,hlt];rfl
 rw [hsv9] at hffu4
 have e9:hopL b p=rfu4∧hopE b p=0:=by unfold hopL hopE;rw [if_neg (by omega),if_neg (by omega),hffu4,show bfu4=true by simp_all];exact ⟨rfl,rfl⟩
 rw [e9.1,e9.2]
 exact ⟨_,_,Ifu4,Z,hfcu4,⟨_,_,hSfu4⟩,M.sub ((Zsq _ _))⟩
theorem Hope_any {J:Nat→Option Obj} (hP:FuncsOk Try.prog) (b:Bw) (A:Option Addr) (c:Nat) (D:Option Addr) (d:Nat) (p:List Nt) (P:Option Addr) (pc:Nat)  (w:World) (hA:Rd w w.heap.size 2 A b.cs.length (rc b.cs)) (hD:Rd w w.heap.size 4 D b.ts.length (lkc b.ts)) (hop:∀ t∈b.ts,Rd w w.heap.size 1 t.A t.op.length (ic t.op)) (nA:b.cs.length≤1000) (nD:b.ts.length≤1000) (nop:∀ t∈b.ts,t.op.length≤1000) (hP9:Rd w w.heap.size 4 P p.length (ntc p)) (nP:p.length≤1000)  :
  CallsB Try.prog J 49 #[.agg #[Zi b.full,Zi b.a0,Zi b.a1,.slice A b.cs.length c,.slice D b.ts.length d],.slice P p.length pc] w (LsMPost (hopL b p) (hopE b p) w):=by
 obtain ⟨bA,oA,SA⟩:=Sp.old hA
 obtain ⟨bD,oD,SD⟩:=Sp.old hD
 obtain ⟨bP,oP,SP⟩:=Sp.old hP9
 refine px_enterB hP noEx Try.func49 Z 13 Z [.agg #[Zi b.full,Zi b.a0,Zi b.a1,.slice A b.cs.length c,.slice D b.ts.length d],.slice P p.length pc] Z Z (Mem.init w _) ?_
 intro ac wc T M
 refine wpB_seq hP ?_
 refine b_lone hP w fun T9=>?_
 replace M:=M.tp T9 0 0
 replace SA:=SA.tp T9 0
 replace SD:=SD.tp T9 0
 replace SP:=SP.tp T9 0
 refine wp_region_lit ?_
 refine Zl2 ?_
 refine Zob M T Z Z Z Z (T.e 0 Z) Z ?_;clear M T;intro g1 wc ac M T
 refine Zg3 T (Zq (Zra Z evc)) Z (Zc Z) Z (Zc Z) Z ?_;intro ac T
 refine wpList_nil ?_
 refine nqR_n M ?_;clear M;intro wc M
 replace SA:=SA.pt
 replace SD:=SD.pt
 replace SP:=SP.pt
 replace T:=T.pick [3,5] rfl
 refine nm_then ?_
 refine wpB_seq hP ?_
 refine rB_preN hP w 2 (by decide) fun T9=>?_
 replace M:=M.tp T9 0 0
 replace SA:=SA.tp T9 0
 replace SD:=SD.tp T9 0
 replace SP:=SP.tp T9 0
 refine Zg2 T (Zq (Zrr (Mem.nth M 0 Z) Z (T.e 0 Z) Z)) Z (Zm 2 Z Z) Z ?_;intro ac T
 refine wpList_nil ?_
 refine pqR_n M ?_;clear M;intro wc M
 replace SA:=SA.pt
 replace SD:=SD.pt
 replace SP:=SP.pt
 refine rB_call hP (m:=6) (first:=[]) (cap:=[]) T Z Z Z Z Z evf (.cons (T.e 1 Z) (.cons (T.e 0 Z) (.cons evf .nil))) Try.func86 Z Z (waysByH_any hP b A c D d p P pc _ (SA.rd M (Zz9 _)) (SD.rd M (Zz9 _)) (fun t ht=>M.rd (hop t ht) (Nat.le_refl _)) nA nD nop (SP.rd M (Zz9 _)) nP) ?_
 clear T
 rintro e wc ⟨Atu1,ctu1,Itu1,rfl,htcu1,⟨btu1,otu1,hStu1⟩,N⟩
 refine ⟨_,Z,?_⟩
 intro ac T
 replace M:=(M.join N).swapI
 clear N
 replace M:Mem w noEx wc ((g1,.cells [Zi b.full,Zi b.a0,Zi b.a1,.slice A b.cs.length c,.slice D b.ts.length d])::Itu1):=M
 refine rB_moreN hP w 6 0 Z (by decide) fun T9=>?_
 replace M:=M.tp T9 0 0
 replace SA:=SA.tp T9 0
 replace SD:=SD.tp T9 0
 replace SP:=SP.tp T9 0
 refine Zg6 T (Zq (Zre Z (T.e 0 Z) Z)) Z (Ze 1 Z Z Z) Z (Ze 2 Z Z Z) Z (Za 2 Z Z) Z (Za 2 Z Z) Z (Za 2 Z Z) Z ?_;intro ac T
 refine wpList_nil ?_
 refine pqR_n M ?_;clear M;intro wc M
 replace SA:=SA.pt
 replace SD:=SD.pt
 replace SP:=SP.pt
 refine rB_nil hP ?_
 replace T:=T.pick [0,1,2] rfl
 replace M:=M.mask [false] rfl
 refine nm_then ?_
 refine wpB_ret hP ?_
 refine rt_3 T Z (T.e 2 Z) (T.e 1 Z) (T.e 0 Z) ?_
 exact ⟨_,_,Itu1,Z,htcu1,⟨_,_,hStu1⟩,M.sub ((List.Sublist.refl _))⟩
theorem turnsOf4_any (G:Option Addr) (n:Nat) (g:List Int)  (w:World) (hG:Rd w w.heap.size 1 G g.length (ic g)) (nG:g.length≤1000)  :
   Calls Try.prog 51 #[.slice G g.length n] w fun e w'=>e=.returned (Zi (turnW g))∧Below w.heap.size w w':=by
 obtain ⟨bG,oG,SG⟩:=Sp.old hG
 refine Zpx noEx Try.func51 Z 24 Z [.slice G g.length n] Z Z (Mem.init w _) ?_
 intro ac wc T M
 refine Zsr ?_
 refine lq T (Zra Z evc) ?_;intro ac T
 replace T:=T.pick [1] rfl
 refine Zln ?_
 refine Zsr ?_
 refine lq T (Zra Z evc) ?_;intro ac T
 refine Zln ?_
 refine wp_seq ?_
 refine Zsr ?_
 refine lq T (Zra Z evc) ?_;intro ac T
 refine Zln ?_
 refine wp_block ?_
 refine wp_loop_n (fun mz ac wc=>∃ (k:Nat) (n9:Int),mz=g.length - k∧(1≤k∧k≤max g.length 1)∧(n9=turnW (g.take k))∧(0≤n9∧n9≤(k:Int))∧Tm ac 24 [(0,.slice G g.length n),(3,Zi n9),(4,Zi (k:Int))]∧Mem w noEx wc []) ?_ ?_
 ·exact ⟨_,1,0,rfl,(by omega),(by rcases g with _ | ⟨y,_ | ⟨z,g⟩⟩ <;> rfl),(by omega),T.pick [2,1,0] rfl,M.mask [] rfl⟩
 clear T M
 rintro mz ac wc ⟨k,n9,hmm1,hk,H,hb,T,M⟩
 refine wp_seq ?_
 refine Zsr ?_
 refine Zg4 T (Zq (Zrm Z (T.e 2 Z))) Z (Zm 1 Z Z) Z (Zl Try.underlying28 0 Z Z) Z (fun _ T=>Zq (rn_lss Z (T.e 2 Z) (T.e 0 Z))) Z ?_;intro ac T
 replace T:=T.pick [0,4,5,6] rfl
 refine Zln ?_
 refine wp_if (T.e 0 Z) ?_ ?_
 ·intro h1
  obtain ⟨y,hky,-⟩:=ic_next (l:=g) (k:=k) (by omega)
  obtain ⟨z,hkz,-⟩:=ic_next (l:=g) (k:=k - 1) (by omega)
  have htw:=turnW_take (l:=g) (k:=k - 1) hkz (by rw [Nat.sub_add_cancel hk.1];exact hky)
  rw [show k - 1+2=k+1 by omega,Nat.sub_add_cancel hk.1] at htw
  refine Zsk ?_
  refine wp_seq ?_
  refine wp_block ?_
  refine wp_seq ?_
  refine Zgs M (M.mask [] Z) 10 (by kernel_rfl) Z (by kernel_rfl) ?_
  clear M;intro wc M
  refine Zgq T 0 1 Z (fun _=>(Zrm Z (T.e 1 Z))) ?_;intro ac T
  refine Zgq T 1 3 Z (fun _=>(Zrm Z (T.e 4 Z))) ?_;intro ac T
  refine Zgq T 2 7 Z (fun _=>(Zri (size:=1) k Z (T.e 1 Z) (T.e 0 Z) ⟨_,Try.underlying28,by kernel_rfl⟩ Z (by omega) (SG.at0 (by omega)))) ?_;intro ac T
  refine gq T 3 15 Z (fun B w' hD hl hS=>(rn_cell (Sp.ic0 SG (show Mem w noEx w' _ from hS) (Zz9 _) hky) Z (T.e 0 Z))) ?_;intro ac T
  refine Zgq T 4 31 Z (fun _=>(Zrm Z (T.e 5 Z))) ?_;intro ac T
  refine Zgq T 5 63 Z (fun _=>(Zrm Z (T.e 8 Z))) ?_;intro ac T
  refine Zgq T 6 127 Z (fun _=>(rn_sub Z (T.e 0 Z) evc (by omega))) ?_;intro ac T
  refine Zgq T 7 255 Z (fun _=>(Zri (size:=1) (k - 1) Z (T.e 2 Z) (T.e 0 Z) ⟨_,Try.underlying28,by kernel_rfl⟩ (by omega) (by omega) (SG.at0 (by omega)))) ?_;intro ac T
  refine gq T 8 511 Z (fun B w' hD hl hS=>(rn_cell (Sp.ic0 SG (show Mem w noEx w' _ from hS) (Zz9 _) hkz) Z (T.e 0 Z))) ?_;intro ac T
  refine Zgq T 9 1023 Z (fun _=>(rn_neq Z (T.e 5 Z) (T.e 0 Z))) ?_;intro ac T
  refine Zgd (by kernel_rfl) ?_
  replace T:=T.pick [0,11,12,13] rfl
  refine nm_then ?_
  refine wp_ifn (T.e 0 Z) ?_ ?_
  ·intro h2
   refine wp_region_lit ?_
   refine Zg2 T (Zq (Zrm Z (T.e 2 Z))) Z (fun _ T=>Zq (rn_add Z (T.e 0 Z) evc (by omega))) Z ?_;intro ac T
   refine l_q (v:=(Zi (n9+1))) (T.pick [0,1,2,3,5] Z) Z Z Z Z (Zra Z (T.e 0 Z)) ?_;intro ac T
   refine wpList_nil ?_
   replace T:=T.pick [0,4,5] rfl
   refine Znb ?_
   refine nm_then ?_
   refine wp_region_lit ?_
   refine Zg2 T (Zq (Zrm Z (T.e 2 Z))) Z (fun _ T=>Zq (rn_add Z (T.e 0 Z) evc (by omega))) Z ?_;intro ac T
   refine l_q (v:=(Zi ((k:Int)+1))) (T.pick [0,1,2,3] Z) Z Z Z Z (Zra Z (T.e 0 Z)) ?_;intro ac T
   replace T:=T.pick [0,3,4] rfl
   refine Zln ?_
   exact ⟨_,by omega,k+1,(n9+1),Z,(by omega),(by rw [htw];first | (rw [if_pos (by assumption),H];done) | (rw [if_neg (by assumption),H,Int.add_zero];done) | (rw [if_pos (by simp_all),H];done) | (rw [if_neg (by simp_all),H,Int.add_zero])),(by push_cast;omega),T.pick [2,1,0] Z,M.mask [] Z⟩
  intro h2
  refine wp_skip ?_
  refine Znb ?_
  refine nm_then ?_
  refine wp_region_lit ?_
  refine Zg2 T (Zq (Zrm Z (T.e 3 Z))) Z (fun _ T=>Zq (rn_add Z (T.e 0 Z) evc (by omega))) Z ?_;intro ac T
  refine l_q (v:=(Zi ((k:Int)+1))) (T.pick [0,1,2,3,4] Z) Z Z Z Z (Zra Z (T.e 0 Z)) ?_;intro ac T
  replace T:=T.pick [0,4,5] rfl
  refine Zln ?_
  exact ⟨_,by omega,k+1,n9,Z,(by omega),(by rw [htw];first | (rw [if_pos (by assumption),H];done) | (rw [if_neg (by assumption),H,Int.add_zero];done) | (rw [if_pos (by simp_all),H];done) | (rw [if_neg (by simp_all),H,Int.add_zero])),(by push_cast;omega),T.pick [1,2,0] Z,M.mask [] Z⟩
 intro h1
 rw [List.take_of_length_le (by omega)] at H
 refine wp_exit ?_
 refine Zet ?_
 refine Zet ?_
 refine ex_hit ?_
 refine nm_then ?_
 refine Zsr ?_
 refine Zg2 T (Zq (Zrm Z (T.e 2 Z))) Z (Za 0 Z Z) Z ?_;intro ac T
 replace T:=T.pick [0] rfl
 refine Zln ?_
 refine wp_ret ?_
 refine rt_1 T Z (T.e 0 Z) ?_
 exact ⟨ret_int H,M.below⟩
end
open Go.RowKit
section
variable {P:Program} {op:Oper} {a:Act} {K:Act→World→Prop} {Q:Exit→Act→World→Prop} {w0 w:World} {ex:Nat→Prop} {L L':List (Nat×BA)} {E:List (Nat×Value)} {df:List Deferred} {t nn:Nat}
end
section
open Go.RowKit Go.Proofs.Ytoheddpnnjldgaa.Bq
end
theorem Try.info28:(Try.prog.info? 28).map (fun i=>(i.zero,i.size,i.bytes))=some (some (.slice none 0 0),1,24):=by kernel_rfl
def Els (LL:List LE) (I:List (Nat×BA)):Prop:=∀ x∈LL,∃ b o,∀ (w:World) (ex:Nat→Prop),Sp w ex I x.2.1 x.1.length 1 b o (ic x.1)
theorem Els.mono {LL:List LE} {I I':List (Nat×BA)} (h:Els LL I) (hs:I.Sublist I'):Els LL I':=fun x hx=>by
 obtain ⟨b,o,h1⟩:=h x hx
 exact ⟨b,o,fun w ex=>(h1 w ex).mono hs⟩
theorem Mem.swap3 {w0 w:World} {ex:Nat→Prop} (H X Y Z:List (Nat×BA)) (M:Mem w0 ex w (H++(X++Y++Z))):Mem w0 ex w (H++(X++Z++Y)):=by
 have hp:(H++(X++Y++Z)).Perm (H++(X++Z++Y)):=List.Perm.append_left H (by rw [List.append_assoc,List.append_assoc];exact List.Perm.append_left X List.perm_append_comm)
 exact ⟨M.os,M.tape,M.output,M.size,M.block,fun p h=>M.blk p (hp.mem_iff.2 h),(hp.map _).nodup_iff.1 M.nd⟩
theorem ow_appX {P:Program} {op:Oper} {a:Act} {K:Act→World→Prop} {Q:Exit→Act→World→Prop} {s x:Operand} {ty e size bytes d m k cc nn t':Nat} {A B:Option Addr} {z:Value} {cs xs:List Value} {w0 w:World} {ex:Nat→Prop} {L0 I:List (Nat×BA)} {E:List (Nat×Value)} (L1:List (Nat×BA))
  (hinfo:(P.info? e).map (fun i=>(i.zero,i.size,i.bytes))=some (some z,size,bytes)) (hS:Sl e size (.slice A m d) m xs I) (M:Mem w0 ex w L0) (hsp:L0=L1++I) (T:Tm a nn E)
  (ho:op.op=.call { callee:=.builtin .append,args:=#[s,x],argTypes:=#[ty,ty] }) (hd:op.dst=some t') (hf:freshE E t'=true) (hnn:Nat.blt t' nn=true)
  (ht:P.underlying ty=some (.slice e)) (hzs:z.cells.size=size) (hsz:Nat.blt 0 size=true) (hby:Nat.ble bytes 1000=true) (hm:m≤1000000) (hk0:0 < k) (hk:k≤1000000)
  (hs:a.eval s=.slice A m d) (hx:a.eval x=.slice B k cc) (hr:Rd w w.heap.size size B k cs) (h1:∀ u∈cs,u.oneCell'=true)
  (h:∀ g cap w' a',Mem w0 ex w' ((g,.row e size (m+k) (xs++cs) cap)::L1)→Tm a' nn ((t',.slice (some ⟨g,0,none⟩) (m+k) cap)::E)→K a' w'):op.wp P a w K Q:=by
 subst hsp
 have M:=Mem.swapI (I:=L1) (L:=I) M
 have hsz:=Nat.le_of_ble_eq_true hsz
 have hby:=Nat.le_of_ble_eq_true hby
 obtain ⟨i,hi,hz0,hz1,hz2⟩:=info_parts hinfo
 obtain ⟨g2,o2,rfl,hlt,hc⟩:=hr.cells hk0
 have hnews:∀ j u,cs[j]? = some u→w.cell? ((⟨g2,o2,none⟩:Addr).add j)=some u:=fun j u hu=>by rw [Addr.add_mid];exact hc j u hu
 have hbb:(m+k) * bytes≤140737488355328:=by
  have:(m+k) * bytes≤2000000 * 1000:=Nat.mul_le_mul (by omega) hby
  omega
 have key:∀ g cap w',Mem w0 ex w' ((g,.row e size (m+k) (xs++cs) cap)::L1)→K (a.put op.dst (.slice (some ⟨g,0,none⟩) (m+k) cap)) w':=fun g cap w' M'=>h g cap w' _ M' (by rw [hd];exact T.put hnn hf _)
 rcases hS with ⟨h2,rfl,rfl,rfl⟩ | ⟨g0,cap0,h2,rfl⟩
 ·injection h2 with h2 _ h3
  subst h2 h3
  refine wp_append_lies w s x ty ho w.heap.size e i z size bytes ht hi hz0 hz1 hz2 hzs hsz (.slice none 0 0) 0 [] hs ⟨by simp,.inl ⟨rfl,Z⟩⟩ ⟨g2,o2,none⟩ k cc cs hx hr.1 hnews h1 hk0 (by unfold maxLen;omega) hbb (Nat.le_refl _) w.heap.size Z ?_
  intro g cap w' hown hgr hat hlt
  have hg:g=w.heap.size:=by
   rcases hat with h | h
   ·cases h
   ·exact h
  have M1:Mem w0 ex w' L1:=M.call ⟨hgr.os,hgr.tape,hgr.output,hgr.size,fun k hk=>hgr.block k hk (fun e=>by cases e)⟩
  exact key g cap w' (M1.add (by rw [hg];exact M.size) (own_rebase hown (by omega)) (fun q hq e=>by have:=BA.lt (M.blk q hq).2;omega))
 ·injection h2 with h2 _ h3
  subst h2 h3
  have hrow:=(M.blk (g0,.row e size m xs d) (by simp)).2
  have hnp:0 < m:=hrow.2
  refine wp_append_lies w s x ty ho g0 e i z size bytes ht hi hz0 hz1 hz2 hzs hsz _ m xs hs hrow.1 ⟨g2,o2,none⟩ k cc cs hx hr.1 hnews h1 hk0 (by unfold maxLen;omega) hbb (Nat.le_of_lt (BA.lt hrow)) w.heap.size Z ?_
  intro g cap w' hown hgr hat hlt
  have hgr:w.grownBy w' (some g0):=hgr
  rcases hat with h2 | h2
  ·have h2:some g0=some g:=h2
   injection h2 with h2
   subst h2
   exact key g0 cap w' (M.callW (L':=(g0,.row e size (m+k) (xs++cs) cap)::L1) .head hgr (own_rebase hown (by omega)))
  ·have M1:=M.callW (L':=(g0,.any (fun _=>True))::L1) .head hgr (by
    have hl0:g0 < w'.heap.size:=Nat.lt_of_lt_of_le (BA.lt hrow) hgr.size
    exact ⟨w'.heap[g0],Array.getElem?_eq_getElem hl0,trivial⟩)
   exact key g cap w' (M1.forget.add (by rw [h2];exact M.size) (own_rebase hown (by omega)) (fun q hq e=>by have:=BA.lt (M.blk q (List.mem_append_right _ hq)).2;omega))
theorem Mem.turn4 {w0 w:World} {ex:Nat→Prop} (K G R Ie I:List (Nat×BA)) (M:Mem w0 ex w (K++(G++(R++(Ie++I))))):Mem w0 ex w (K++((Ie++(R++I))++G)) :=
 have hp:(K++(G++(R++(Ie++I)))).Perm (K++((Ie++(R++I))++G)):=List.Perm.append_left K (List.perm_append_comm.trans (List.Perm.append_right G (List.perm_append_comm_assoc R Ie I)))
 ⟨M.os,M.tape,M.output,M.size,M.block,fun p h=>M.blk p (hp.mem_iff.2 h),(hp.map _).nodup_iff.1 M.nd⟩
theorem lc_one (l:List LE):∀ u∈lc l,u.oneCell'=true:=by
 intro u hu
 obtain ⟨p,_,rfl⟩:=List.mem_map.1 hu
 rfl
theorem lc_append (l r:List LE):lc l++lc r=lc (l++r):=by simp [lc]
theorem Els.append {l r:List LE} {I J:List (Nat×BA)} (h:Els l I) (k:Els r J):Els (l++r) (I++J):=fun x hx=>by
 rcases List.mem_append.1 hx with hx | hx
 · exact h.mono (Zsl _ _) x hx
 · exact k.mono (Zsq _ _) x hx
def wysL (p:List Nt):Nat→List Int→List (List Int)
 | 0,b=>[b]
 | k+1,b=>(List.range 2).flatMap fun j:Nat=>if stepW p b ((j:Int)+1)=true then wysL p k (b++[(j:Int)+1]) else []
def wyQ (p:List Nt) (k:Nat) (b:List Int) (x:Nat):List (List Int):=(List.range x).flatMap fun j:Nat=>if stepW p b ((j:Int)+1)=true then wysL p k (b++[(j:Int)+1]) else []
theorem wyQ_go {p:List Nt} {k x:Nat} {b:List Int} {w:Int} (hw:w=(x:Int)+1) (h:stepW p b w=true):wyQ p k b (x+1)=wyQ p k b x++wysL p k (b++[w]):=by
 subst hw
 unfold wyQ
 rw [List.range_succ,List.flatMap_append]
 simp [h]
theorem wyQ_skip {p:List Nt} {k x:Nat} {b:List Int} {w:Int} (hw:w=(x:Int)+1) (h : ¬ stepW p b w=true):wyQ p k b (x+1)=wyQ p k b x:=by
 subst hw
 unfold wyQ
 rw [List.range_succ,List.flatMap_append]
 simp [h]
theorem step_some (p:List Nt) {b:List Int} (hb:∀ w∈b,w=1∨w=2):∃ j:Nat,j < 2∧stepW p b ((j:Int)+1)=true:=by
 rcases Nat.eq_zero_or_pos b.length with h | h
 ·exact ⟨0,by omega,by unfold stepW;rw [h];rfl⟩
 ·have e:b.getD (b.length - 1) 0=b[b.length - 1]:=by rw [List.getD_eq_getElem?_getD,List.getElem?_eq_getElem (by omega)];rfl
  have hz:=hb b[b.length - 1] (List.getElem_mem _)
  refine ⟨(b[b.length - 1] - 1).toNat,by omega,?_⟩
  unfold stepW
  rw [e,show (((b[b.length - 1] - 1).toNat:Nat):Int)+1=b[b.length - 1] by omega]
  simp
theorem wys_len (p:List Nt):∀ (k:Nat) (b:List Int),(∀ w∈b,w=1∨w=2)→0 < (wysL p k b).length∧(wysL p k b).length≤2 ^ k
 | 0,b,_=>by simp [wysL]
 | k+1,b,hb=>by
  have hs:∀ j:Nat,j < 2→∀ w∈b++[(j:Int)+1],w=1∨w=2:=fun j hj w hw=>by
   rcases List.mem_append.1 hw with hw | hw
   ·exact hb w hw
   ·rw [List.mem_singleton.1 hw];omega
  have i0:=wys_len p k (b++[((0:Nat):Int)+1]) (hs 0 (by omega))
  have i1:=wys_len p k (b++[((1:Nat):Int)+1]) (hs 1 (by omega))
  obtain ⟨j,hj,h⟩:=step_some p hb
  have e:wysL p (k+1) b=(if stepW p b (((0:Nat):Int)+1)=true then wysL p k (b++[((0:Nat):Int)+1]) else [])++(if stepW p b (((1:Nat):Int)+1)=true then wysL p k (b++[((1:Nat):Int)+1]) else []):=by
   conv=>lhs;unfold wysL
   rw [show List.range 2=[0,1] from rfl]
   simp
  rw [e,Zx3,Nat.pow_succ]
  have hj':j=0∨j=1:=by omega
  rcases hj' with rfl | rfl
  ·rw [if_pos h]
   split <;> (try simp only [Zx2]) <;> omega
  ·rw [if_pos h]
   split <;> (try simp only [Zx2]) <;> omega
theorem wys_bd {p:List Nt} {k:Nat} {b:List Int} (hk:k≤6) (hb:∀ w∈b,w=1∨w=2):0 < (wysL p k b).length∧(wysL p k b).length≤64:=by
 have h:=wys_len p k b hb
 exact ⟨h.1,Nat.le_trans h.2 (Nat.pow_le_pow_right (by omega) hk:2 ^ k≤2 ^ 6)⟩
def WylPost (R:List (List Int)) (Il:List (Nat×BA)) (w:World) (e:Ending) (w':World):Prop:=∃ (A:Option Addr) (c:Nat) (LL:List LE) (I:List (Nat×BA)),e=.returned (.slice A LL.length c)∧LL.map (·.1)=R∧(∃ b o,∀ (w:World) (ex:Nat→Prop),Sp w ex I A LL.length 1 b o (lc LL))∧Els LL (Il++I)∧Mem w noEx w' I
def WylSpec (p:List Nt) (P:Option Addr) (pc k:Nat):Prop:=∀ (w:World) (l:List Int) (A:Option Addr) (m c:Nat) (Il:List (Nat×BA)),m=l.length→l.length+k=p.length→(∀ v∈l,v=1∨v=2)→Rd w w.heap.size 4 P p.length (ntc p)→Rd w w.heap.size 1 A m (ic l)→(∃ b o,∀ (w:World) (ex:Nat→Prop),Sp w ex Il A m 1 b o (ic l)) →
 Calls Try.prog 50 #[.slice P p.length pc,.slice A m c] w (WylPost (wysL p k l) Il w)
theorem ways4_step (p:List Nt) (P:Option Addr) (pc:Nat) (k:Nat) (l:List Int) (A:Option Addr) (c:Nat) (Il:List (Nat×BA))  (w:World) (h6:p.length≤6) (ih:∀ k1,k=k1+1→WylSpec p P pc k1) (hlr:l.length+k=p.length) (h2l:∀ v∈l,v=1∨v=2) (hP9:Rd w w.heap.size 4 P p.length (ntc p)) (hr:Rd w w.heap.size 1 A l.length (ic l)) (hl:∃ b o,∀ (w:World) (ex:Nat→Prop),Sp w ex Il A l.length 1 b o (ic l))  :
   Calls Try.prog 50 #[.slice P p.length pc,.slice A l.length c] w (WylPost (wysL p k l) Il w):=by
 obtain ⟨bP,oP,SP⟩:=Sp.old hP9
 obtain ⟨bA,oA,SA⟩:=Sp.old hr
 refine Zpx noEx Try.func50 Z 49 Z [.slice P p.length pc,.slice A l.length c] Z Z (Mem.init w _) ?_
 intro ac wc T M
 refine Zsr ?_
 refine lq T (Zra Z evc) ?_;intro ac T
 replace T:=T.pick [1,2] rfl
 refine Zln ?_
 refine Zsr ?_
 refine Zg3 T (Zq (Zrm Z (T.e 1 Z))) Z (Zl Try.underlying28 0 Z Z) Z (Za 0 Z Z) Z ?_;intro ac T
 replace T:=T.pick [0,3,4] rfl
 refine Zln ?_
 refine wp_seq ?_
 refine Zsr ?_
 refine Zg4 T (Zq (Zrm Z (T.e 0 Z))) Z (Zm 2 Z Z) Z (Zl Try.underlying44 0 Z Z) Z (fun _ T=>Zq (rn_eql Z (T.e 2 Z) (T.e 0 Z))) Z ?_;intro ac T
 replace T:=T.pick [0,4,5,6] rfl
 refine Zln ?_
 refine wp_if (T.e 0 Z) ?_ ?_
 ·intro h1
  obtain rfl:k=0:=by omega
  refine Zsr ?_
  refine lq T (Zrm Z (T.e 3 Z)) ?_;intro ac T
  refine Zl2 ?_
  refine ow_bs (e:=28) [.slice A l.length c] M T Z Z Z Z (.cons (T.e 0 Z) .nil) (fun _=>by kernel_rfl) ?_;clear M T;intro g1 wc ac M T
  refine lq T (Zra Z (T.e 0 Z)) ?_;intro ac T
  replace T:=T.pick [0] rfl
  refine Zln ?_
  refine wp_ret ?_
  refine Zrt ?_
  refine rt_1 T Z (T.e 0 Z) ?_
  exact ⟨some ⟨g1,0,none⟩,1,[(l,A,c)],[(g1,.cells (lc [(l,A,c)]))],rfl,rfl,⟨g1,0,fun w ex=>Sp.cells rfl⟩,(fun x hx=>by simp only [Zx7,Zx8,or_false] at hx;subst hx;obtain ⟨b9,o9,h9⟩:=hl;exact ⟨b9,o9,fun w ex=>(h9 w ex).mono (Zsl _ _)⟩),M.perm [0] rfl rfl⟩
 intro h1
 obtain ⟨k1,rfl⟩:∃ q,k=q+1:=⟨k - 1,by omega⟩
 have ih1:=ih k1 rfl
 obtain ⟨q,hkq⟩:∃ q,p[l.length]? = some q:=⟨_,List.getElem?_eq_getElem (by omega)⟩
 obtain ⟨z,hz⟩:∃ z,0 < l.length→l[l.length - 1]? = some z:=⟨l.getD (l.length - 1) 0,fun h=>by rw [List.getD_eq_getElem?_getD,List.getElem?_eq_getElem (by omega:l.length - 1 < l.length)];rfl⟩
 refine Zsk ?_
 refine Zsr ?_
 refine lq T (Zra Z evc) ?_;intro ac T
 replace T:=T.pick [0,2,3,4] rfl
 refine Zln ?_
 refine wp_seq ?_
 refine Zsr ?_
 refine lq T (Zra Z evc) ?_;intro ac T
 refine Zln ?_
 refine wp_block ?_
 refine wp_loop_n (fun mz ac wc=>∃ (h:Nat) (w9:Int) (OL:List LE) (A3:Option Addr) (c3:Nat) (Ie Io:List (Nat×BA)),mz=2 - h∧(h≤2)∧(w9=(h:Int)+1)∧(OL.map (·.1)=wyQ p k1 l h)∧(OL.length≤64 * h)∧(Els OL Ie)∧(Sl 28 1 (.slice A3 OL.length c3) OL.length (lc OL) Io)∧Tm ac 49 [(0,.slice P p.length pc),(1,.slice A l.length c),(5,Zi ((l.length:Nat):Int)),(6,.slice A3 OL.length c3),(7,Zi w9)]∧Mem w noEx wc ((Ie++Io))) ?_ ?_
 ·exact ⟨_,0,1,[],none,0,[],[],Z,(Nat.zero_le _),Z,Z,(by simp),(fun x hx=>by cases hx),(Sl.nil _ _),T.pick [3,4,2,1,0] Z,(by simp only [Zx4];exact M)⟩
 clear T M
 rintro mz ac wc ⟨h,w9,OL,A3,c3,Ie,Io,hmm1,hh,hw9,hO,hOl,hE,hsl,T,M⟩
 refine wp_seq ?_
 refine Zsr ?_
 refine Zg2 T (Zq (Zrm Z (T.e 4 Z))) Z (fun _ T=>Zq (rn_leq Z (T.e 0 Z) evc)) Z ?_;intro ac T
 replace T:=T.pick [0,2,3,4,5,6] rfl
 refine Zln ?_
 refine wp_if (T.e 0 Z) ?_ ?_
 ·intro h2
  refine Zsk ?_
  refine wp_seq ?_
  refine wp_block ?_
  refine cut_seq (fun ac wc=>Tm ac 49 [(0,.slice P p.length pc),(1,.slice A l.length c),(5,Zi ((l.length:Nat):Int)),(6,.slice A3 OL.length c3),(7,Zi w9),(37,.bool ((decide (((l.length:Nat):Int)=0)) || (q.rest || (decide (w9=z)))))]∧Mem w noEx wc ((Ie++Io))) ?_ ?_
  ·refine wp_region_lit ?_
   refine Zg3 T (Zq (Zrm Z (T.e 3 Z))) Z (fun _ T=>Zq (rn_eql Z (T.e 0 Z) evc)) Z (Zm 0 Z Z) Z ?_;intro ac T
   rcases Zx9 (decide (((l.length:Nat):Int)=0)) with h3 | h3
   ·replace h3:=of_decide_eq_true h3
    refine Zg8 T (Zp (Zwn Z Z (T.e 0 Z) (Zdt h3))) Z (fun _ T=>Zp (Zwn Z Z (T.e 1 Z) (Zdt h3))) Z (fun _ T=>Zp (Zwn Z Z (T.e 2 Z) (Zdt h3))) Z (fun _ T=>Zp (Zwn Z Z (T.e 3 Z) (Zdt h3))) Z (fun _ T=>Zp (Zwn Z Z (T.e 4 Z) (Zdt h3))) Z (fun _ T=>Zq (Zr1 Z (T.e 5 Z) (Zdt h3) evc)) Z (Zm 0 Z Z) Z (fun _ T=>Zp (Zwn Z Z (T.e 0 Z) Z)) Z ?_;intro ac T
    refine Zg7 T (Zp (Zwn Z Z (T.e 1 Z) Z)) Z (fun _ T=>Zp (Zwn Z Z (T.e 2 Z) Z)) Z (fun _ T=>Zp (Zwn Z Z (T.e 3 Z) Z)) Z (fun _ T=>Zp (Zwn Z Z (T.e 4 Z) Z)) Z (fun _ T=>Zp (Zwn Z Z (T.e 5 Z) Z)) Z (fun _ T=>Zp (Zwn Z Z (T.e 6 Z) Z)) Z (fun _ T=>Zq (Zr1 Z (T.e 7 Z) Z evc)) Z ?_;intro ac T
    refine wpList_nil ?_
    replace T:=T.pick [0,1,2,3,4,5,6,7,10,11,12,13,14,19,20,21,22,23] rfl
    exact ⟨(T.pick (E':=[(0,.slice P p.length pc),(1,.slice A l.length c),(5,Zi ((l.length:Nat):Int)),(6,.slice A3 OL.length c3),(7,Zi w9),(37,.bool true)]) [13,14,15,16,17,0] Z).as (by (try rw [show (decide (((l.length:Nat):Int)=0))=true from (Zdt h3)]);(try rfl)),M.mask [] Z⟩
   replace h3:=of_decide_eq_false h3
   refine Zg7 T (Zw (Zwy Z Z (T.e 0 Z) (Zdf h3)) (Zrm Z (T.e 4 Z))) Z (fun _ T=>Zw (Zwy Z Z (T.e 1 Z) (Zdf h3)) (Zrm Z (T.e 7 Z))) Z (fun _ T=>Zw (Zwy Z Z (T.e 2 Z) (Zdf h3)) (Zri (size:=4) l.length Z (T.e 1 Z) (T.e 0 Z) ⟨_,Try.underlying44,by kernel_rfl⟩ Z (by omega) (SP.at0 (by omega)))) Z (fun _ T=>Zw (Zwy Z Z (T.e 3 Z) (Zdf h3)) (Zrg 3 Z (T.e 0 Z))) Z (fun _ T=>Zw (Zwy Z Z (T.e 4 Z) (Zdf h3)) (rn_cell (Sp.ntcC3 SP M (Zz9 _) hkq) Z (T.e 0 Z))) Z (fun _ T=>Zq (Zr0 Z (T.e 5 Z) (Zdf h3) (T.e 0 Z))) Z (Zm 0 Z Z) Z ?_;intro ac T
   rcases Zx9 q.rest with h4 | h4
   ·refine Zg8 T (Zp (Zwn Z Z (T.e 0 Z) h4)) Z (fun _ T=>Zp (Zwn Z Z (T.e 1 Z) h4)) Z (fun _ T=>Zp (Zwn Z Z (T.e 2 Z) h4)) Z (fun _ T=>Zp (Zwn Z Z (T.e 3 Z) h4)) Z (fun _ T=>Zp (Zwn Z Z (T.e 4 Z) h4)) Z (fun _ T=>Zp (Zwn Z Z (T.e 5 Z) h4)) Z (fun _ T=>Zp (Zwn Z Z (T.e 6 Z) h4)) Z (fun _ T=>Zq (Zr1 Z (T.e 7 Z) h4 evc)) Z ?_;intro ac T
    refine wpList_nil ?_
    replace T:=T.pick [0,1,2,3,4,5,6,7,10,11,12,13,14,19,20,21,22,23] rfl
    exact ⟨(T.pick (E':=[(0,.slice P p.length pc),(1,.slice A l.length c),(5,Zi ((l.length:Nat):Int)),(6,.slice A3 OL.length c3),(7,Zi w9),(37,.bool true)]) [13,14,15,16,17,0] Z).as (by (try rw [show (decide (((l.length:Nat):Int)=0))=false from (Zdf h3)]);(try rw [show q.rest=true from h4]);(try rfl)),M.mask [] Z⟩
   refine Zg8 T (Zw (Zwy Z Z (T.e 0 Z) h4) (Zrm Z (T.e 15 Z))) Z (fun _ T=>Zw (Zwy Z Z (T.e 1 Z) h4) (Zrm Z (T.e 13 Z))) Z (fun _ T=>Zw (Zwy Z Z (T.e 2 Z) h4) (Zrm Z (T.e 15 Z))) Z (fun _ T=>Zw (Zwy Z Z (T.e 3 Z) h4) (rn_sub Z (T.e 0 Z) evc (by omega))) Z (fun _ T=>Zw (Zwy Z Z (T.e 4 Z) h4) (Zri (size:=1) (l.length - 1) Z (T.e 2 Z) (T.e 0 Z) ⟨_,Try.underlying28,by kernel_rfl⟩ (by omega) (by omega) (SA.at0 (by omega)))) Z (fun _ T=>Zw (Zwy Z Z (T.e 5 Z) h4) (rn_cell (Sp.ic0 SA M (Zz9 _) (hz (by omega))) Z (T.e 0 Z))) Z (fun _ T=>Zw (Zwy Z Z (T.e 6 Z) h4) (rn_eql Z (T.e 5 Z) (T.e 0 Z))) Z (fun _ T=>Zq (Zr0 Z (T.e 7 Z) h4 (T.e 0 Z))) Z ?_;intro ac T
   refine wpList_nil ?_
   replace T:=T.pick [0,1,2,3,4,5,6,7,10,11,12,13,14,19,20,21,22,23] rfl
   exact ⟨(T.pick (E':=[(0,.slice P p.length pc),(1,.slice A l.length c),(5,Zi ((l.length:Nat):Int)),(6,.slice A3 OL.length c3),(7,Zi w9),(37,.bool (decide (w9=z)))]) [13,14,15,16,17,0] Z).as (by (try rw [show (decide (((l.length:Nat):Int)=0))=false from (Zdf h3)]);(try rw [show q.rest=false from h4]);(try rfl)),M.mask [] Z⟩
  clear T M
  rintro ac wc ⟨T,M⟩
  refine wp_cond_split (T.e 5 Z) ?_ ?_
  ·intro h5
   (have h5':=h5;try simp only [Zb1,Zb2,Zb3,Zb4,Zb5,Zb6,Zb7] at h5')
   refine wp_region_lit ?_
   refine Zg2 T (Zq (Zrm Z (T.e 3 Z))) Z (Zm 1 Z Z) Z ?_;intro ac T
   refine Zl2 ?_
   refine ow_bs0 (e:=3) M T Z Z Z Z (fun _=>by kernel_rfl) ?_;clear M T;intro g2 wc ac M T
   refine lq T (Zrm Z (T.e 4 Z)) ?_;intro ac T
   refine Zl2 ?_
   refine ow_appS Try.info3 M T Z Z Z Z (fun g w=>Try.append0i _ _ g _ w) Try.underlying28 Z Z Z (by omega) (T.e 1 Z) (T.e 0 Z) (SA.rd M (Zz9 _)) (icl_one _) ?_;clear M T;intro Augo1 cugo1 Iugo1 wc ac hSmgo1 M T
   replace M:Mem w noEx wc ((Ie++Io++Iugo1)):=M.swapI
   refine lq T (Zrm Z (T.e 9 Z)) ?_;intro ac T
   refine Zl2 ?_
   refine ow_bs (e:=3) [Zi w9] M T Z Z Z Z (.cons (T.e 0 Z) .nil) (fun _=>by kernel_rfl) ?_;clear M T;intro g3 wc ac M T
   refine Zl2 ?_
   refine ow_appM (((g3,.cells [Zi w9])::(Ie++Io))) Try.info3 hSmgo1 M (by first | rfl | simp) T Z Z Z Z Try.underlying28 Z Z Z (by omega) (T.e 2 Z) (T.e 0 Z) (Zne (i:=0) Z) Z Z ?_;clear M T;intro gago2 cago2 wc ac M T
   refine Zl2 ?_
   have h12:∀ v∈l++[w9],v=1∨v=2:=fun v hv=>by rcases List.mem_append.1 hv with hv | hv;exact h2l v hv;rw [List.mem_singleton.1 hv];omega
   refine Zod T Z Z Z Z evf (.cons (T.e 6 Z) (.cons (T.e 0 Z) .nil)) Try.func50 Z Z ?_
   refine Calls.mono (ih1 wc (l++[w9]) _ _ _ [(gago2,.row 3 1 (l.length+1) (ic l++[Zi w9]) cago2)] (by simp) (by simp only [Zx3,Zx1,Zx2];omega) h12 (SP.rd M (Zz9 _)) (by rw [← ic_snoc];exact M.rdRow (Zne (i:=0) Z)) ⟨_,_,fun w ex=>by rw [← ic_snoc];exact Sp.row (by simp [ic_length])⟩) ?_
   clear T;rintro e wc ⟨Au1,cu1,LLu1,Iu1,rfl,hLu1,SVu1,Eu1,N⟩ ac T
   obtain ⟨bu1,ou1,SVu1⟩:=SVu1
   have Su1:=SVu1 w noEx
   have hlbu1:0 < LLu1.length∧LLu1.length≤64:=by rw [show LLu1.length=(LLu1.map (·.1)).length from (List.length_map _).symm,hLu1];exact wys_bd (by omega) h12
   replace M:Mem w noEx wc ((gago2,.row 3 1 (l.length+1) (ic l++[Zi w9]) cago2)::(g3,.cells [Zi w9])::(Ie++Iu1++Io)):=Mem.swap3 [(gago2,.row 3 1 (l.length+1) (ic l++[Zi w9]) cago2),(g3,.cells [Zi w9])] Ie Io Iu1 (M.join N).swapI
   clear N
   refine Zl2 ?_
   refine ow_appX (((gago2,.row 3 1 (l.length+1) (ic l++[Zi w9]) cago2)::(g3,.cells [Zi w9])::(Ie++Iu1))) Try.info28 hsl M (by first | rfl | simp) T Z Z Z Z Try.underlying54 Z Z Z (by omega) (by omega) (by omega) (T.e 8 Z) (T.e 0 Z) (Su1.rd M (.cons _ (.cons _ (subL (Zsq _ _))))) (lc_one _) ?_;clear M T;intro gx1 cgx1 wc ac M T
   refine l_q (v:=(.slice (some ⟨gx1,0,none⟩) (OL.length+LLu1.length) cgx1)) (T.pick [0,1,2,3,4,5,6,7,8,9,10,11,12,14,15] Z) Z Z Z Z (Zra Z (T.e 0 Z)) ?_;intro ac T
   refine wpList_nil ?_
   replace T:=T.pick [0,11,12,13,14] rfl
   replace M:=M.mask [true,true,false] rfl
   refine Znb ?_
   refine nm_then ?_
   refine wp_region_lit ?_
   refine Zg2 T (Zq (Zrm Z (T.e 4 Z))) Z (fun _ T=>Zq (rn_add Z (T.e 0 Z) evc (by omega))) Z ?_;intro ac T
   refine l_q (v:=(Zi (w9+1))) (T.pick [0,1,2,3,4,5] Z) Z Z Z Z (Zra Z (T.e 0 Z)) ?_;intro ac T
   replace T:=T.pick [0,3,4,5,6] rfl
   refine Zln ?_
   have e9:OL.length+LLu1.length=(OL++LLu1).length:=by simp
   have e8:(lc OL)++lc LLu1=lc (OL++LLu1):=lc_append _ _
   rw [e9,e8] at M
   rw [e9] at T
   clear e9 e8
   exact ⟨_,by omega,h+1,(w9+1),(OL++LLu1),_,_,(Ie++([(gago2,.row 3 1 (l.length+1) (ic l++[Zi w9]) cago2)]++Iu1)),[(gx1,.row 28 1 (OL++LLu1).length (lc (OL++LLu1)) cgx1)],Z,(by omega),(by omega),(by rw [wyQ_go hw9 ((stepW_eq (p:=p) (b:=l) w9 hkq hz).2 (by first | (left;omega) | (right;left;assumption) | (right;right;assumption) | (right;right;omega) | (simp_all;done))),List.map_append,hO,hLu1]),(by simp only [Zx3];omega),(hE.append Eu1),(Sl.row _ _ _ _ _ _),T.pick [2,3,4,1,0] Z,(Mem.turn4 [] [(gx1,.row 28 1 (OL++LLu1).length (lc (OL++LLu1)) cgx1)] [(gago2,.row 3 1 (l.length+1) (ic l++[Zi w9]) cago2)] Ie Iu1 (M.permT [0,1] 2 Z Z Z Z))⟩
  intro h5
  (have h5':=h5;try simp only [Zb1,Zb2,Zb3,Zb4,Zb5,Zb6,Zb7] at h5')
  refine wp_skip ?_
  refine Znb ?_
  refine nm_then ?_
  refine wp_region_lit ?_
  refine Zg2 T (Zq (Zrm Z (T.e 4 Z))) Z (fun _ T=>Zq (rn_add Z (T.e 0 Z) evc (by omega))) Z ?_;intro ac T
  refine l_q (v:=(Zi (w9+1))) (T.pick [0,1,2,3,4,5,7] Z) Z Z Z Z (Zra Z (T.e 0 Z)) ?_;intro ac T
  replace T:=T.pick [0,3,4,5,6] rfl
  refine Zln ?_
  exact ⟨_,by omega,h+1,(w9+1),OL,_,_,Ie,Io,rfl,(by omega),(by omega),(by rw [wyQ_skip hw9 (fun h9=>by rcases (stepW_eq (p:=p) (b:=l) w9 hkq hz).1 h9 with h9 | h9 | h9 <;> first | omega | (simp_all;done) | (simp_all;omega))];exact hO),(by omega),hE,hsl,T.pick [1,2,3,4,0] rfl,M⟩
 intro h2
 refine wp_exit ?_
 refine Zet ?_
 refine Zet ?_
 refine ex_hit ?_
 refine nm_then ?_
 refine Zsr ?_
 refine Zg2 T (Zq (Zrm Z (T.e 4 Z))) Z (Za 0 Z Z) Z ?_;intro ac T
 replace T:=T.pick [0] rfl
 refine Zln ?_
 refine wp_ret ?_
 refine rt_1 T Z (T.e 0 Z) ?_
 obtain ⟨b9,o9,h9⟩:=hsl.spV (by rw [lc_length,Nat.mul_one])
 exact ⟨A3,c3,OL,Ie++Io,Z,by rw [hO,show h=2 by omega];rfl,⟨b9,o9,fun w ex=>(h9 w ex).mono (Zsq _ _)⟩,hE.mono ((Zsl _ _).trans (Zsq _ _)),M.mask [] Z⟩
theorem ways4_any (p:List Nt) (P:Option Addr) (pc:Nat) (h6:p.length≤6):∀ k:Nat,WylSpec p P pc k
 | 0=>fun w l A m c Il hm hlr h2 hP hr hl=>by
  subst hm
  exact ways4_step p P pc 0 l A c Il w h6 (fun _ h=>by cases h) hlr h2 hP hr hl
 | k+1=>fun w l A m c Il hm hlr h2 hP hr hl=>by
  subst hm
  exact ways4_step p P pc (k+1) l A c Il w h6 (fun k' h=>by injection h with h;subst h;exact ways4_any p P pc h6 _) hlr h2 hP hr hl
def bstS (pr:List Int→Bool):Option (List Int)→List Int→Option (List Int)
 | none,g=>if pr g=true then some g else none
 | some s,g=>if pr g=true∧turnW g < turnW s then some g else some s
def bst (pr:List Int→Bool) (L:List (List Int)):Option (List Int):=L.foldl (bstS pr) none
theorem bst_take {pr:List Int→Bool} {L:List (List Int)} {k:Nat} {g:List Int} (h:L[k]? = some g):bst pr (L.take (k+1))=bstS pr (bst pr (L.take k)) g:=by
 unfold bst
 rw [List.take_add_one,h]
 simp
def Bst (pr:List Int→Bool) (L:List (List Int)) (o:Option (List Int)):Prop:=(o=none→∀ g∈L,pr g=false)∧∀ s,o=some s→∃ L1 L2,L=L1++s::L2∧pr s=true∧(∀ x∈L1,pr x=true→turnW s < turnW x)∧∀ x∈L2,pr x=true→turnW s≤turnW x
theorem Bst.step {pr:List Int→Bool} {L:List (List Int)} {o:Option (List Int)} (h:Bst pr L o) (g:List Int):Bst pr (L++[g]) (bstS pr o g):=by
 obtain ⟨h1,h2⟩:=h
 cases o with
 | none =>
  show Bst pr (L++[g]) (if pr g=true then some g else none)
  split
  ·rename_i hg
   refine ⟨fun e=>(by cases e),fun s e=>?_⟩
   injection e with e
   subst e
   exact ⟨L,[],Z,hg,fun x hx hp=>(by rw [h1 Z x hx] at hp;cases hp),fun x hx=>by cases hx⟩
  ·rename_i hg
   refine ⟨fun _ x hx=>?_,fun s e=>(by cases e)⟩
   rcases List.mem_append.1 hx with hx | hx
   ·exact h1 Z x hx
   ·rw [List.mem_singleton.1 hx];simpa using hg
 | some t =>
  obtain ⟨L1,L2,rfl,ht,h3,h4⟩:=h2 t rfl
  show Bst pr _ (if pr g=true∧turnW g < turnW t then some g else some t)
  split
  ·rename_i hg
   refine ⟨fun e=>(by cases e),fun s e=>?_⟩
   injection e with e
   subst e
   refine ⟨L1++t::L2,[],Z,hg.1,fun x hx hp=>?_,fun x hx=>by cases hx⟩
   rcases List.mem_append.1 hx with hx | hx
   ·have:=h3 x hx hp;omega
   ·rcases Zx7.1 hx with rfl | hx
    ·exact hg.2
    ·have:=h4 x hx hp;omega
  ·rename_i hg
   refine ⟨fun e=>(by cases e),fun s e=>?_⟩
   injection e with e
   subst e
   refine ⟨L1,L2++[g],by simp,ht,h3,fun x hx hp=>?_⟩
   rcases List.mem_append.1 hx with hx | hx
   ·exact h4 x hx hp
   ·rw [List.mem_singleton.1 hx] at hp ⊢
    exact Int.not_lt.1 fun h=>hg ⟨hp,h⟩
theorem Bst.go {pr:List Int→Bool}:∀ (R L:List (List Int)) (o:Option (List Int)),Bst pr L o→Bst pr (L++R) (R.foldl (bstS pr) o)
 | [],L,o,h=>by simpa using h
 | g::R,L,o,h=>by
  have:=Bst.go R (L++[g]) _ (h.step g)
  rw [List.append_assoc] at this
  exact this
theorem bst_spec (pr:List Int→Bool) (L:List (List Int)):Bst pr L (bst pr L):=by
 have:=Bst.go (pr:=pr) L [] none ⟨fun _ g hg=>(by cases hg),fun s e=>(by cases e)⟩
 simpa [bst] using this
theorem wayK_filter (p:List Nt) (many:Int):∀ (k:Nat) (b:List Int),wayK p many k b=(wysL p k b).filter fun g=>decide (turnW g=many)
 | 0,b=>by
  unfold wayK wysL
  by_cases h:turnW b=many <;> simp [h]
 | k+1,b=>by
  unfold wayK wysL
  rw [List.filter_flatMap]
  congr 1
  funext j
  split
  ·exact wayK_filter p many k _
  ·rfl
theorem wys_way {p:List Nt} {g:List Int} (h:g∈wysL p p.length []):WayOk p g:=by
 have h1:g∈wayK p (turnW g) p.length []:=by
  rw [wayK_filter]
  exact List.mem_filter.2 ⟨h,by simp⟩
 obtain ⟨r,e,hl,hs,-⟩:=(wayK_mem _ _).1 h1
 rw [Zx5] at e
 subst e
 exact ⟨hl,hs⟩
theorem bst_find (p:List Nt) (pr:List Int→Bool):(bysT p).find? pr=bst pr (wysL p p.length []):=by
 obtain ⟨h1,h2⟩:=bst_spec pr (wysL p p.length [])
 cases e:bst pr (wysL p p.length []) with
 | none =>
  refine find_no fun z hz=>h1 e z ?_
  unfold bysT bysN at hz
  obtain ⟨m,-,hm⟩:=List.mem_flatMap.1 hz
  rw [wayK_filter] at hm
  exact (List.mem_filter.1 hm).1
 | some s =>
  obtain ⟨L1,L2,hL,hs,h3,h4⟩:=h2 s e
  have hw:WayOk p s:=wys_way (by rw [hL];exact List.mem_append_right _ Zz2)
  have ht:=turnW_lt s
  rw [hw.len] at ht
  have hm:(((turnW s).toNat:Nat):Int)=turnW s:=by omega
  have hpre:bysN p (turnW s).toNat++(L1.filter (fun g=>decide (turnW g=turnW s))++[s]) <+: bysT p:=by
   refine bysN_pre (by omega) ?_
   rw [wayK_filter,hm,hL,List.filter_append,List.filter_cons_of_pos (by simp)]
   exact ⟨L2.filter fun g=>decide (turnW g=turnW s),by simp⟩
  rw [← List.append_assoc] at hpre
  refine find_pre hpre (fun z hz=>?_) hs
  rcases List.mem_append.1 hz with hz | hz
  ·unfold bysN at hz
   obtain ⟨m,hm2,hz2⟩:=List.mem_flatMap.1 hz
   rw [wayK_filter] at hz2
   obtain ⟨k1,k2⟩:=List.mem_filter.1 hz2
   have k3:=List.mem_range.1 hm2
   simp only [decide_eq_true_eq] at k2
   refine Bool.eq_false_iff.2 fun hp=>?_
   rw [hL] at k1
   rcases List.mem_append.1 k1 with k1 | k1
   ·have:=h3 z k1 hp;omega
   ·rcases Zx7.1 k1 with rfl | k1
    ·omega
    ·have:=h4 z k1 hp;omega
  ·obtain ⟨k1,k2⟩:=List.mem_filter.1 hz
   simp only [decide_eq_true_eq] at k2
   refine Bool.eq_false_iff.2 fun hp=>?_
   have:=h3 z k1 hp
   omega
theorem take_lo:∀ {p:List Nt},(∀ q∈p,(1≤q.sec∧q.sec≤20)∧0≤q.lo∧q.lo≤q.hi∧q.hi≤9)→TakeOk p (p.map (·.lo))
 | [],_=>trivial
 | q::p,h=>by
   have:=h q Zz2
   exact ⟨⟨by omega,Int.le_refl _,show q.lo≤q.hi by omega⟩,take_lo fun z hz=>h z (Zz1 hz)⟩
theorem alw_hop {b:Bw} {p:List Nt} {g:List Int} {ss:List Int} (hg:BwGood b) (hp:NtGood p) (hw:g.length=p.length) (hs:ss≠[]) (h:alwB b p ss g=true):hopB b p ss g=true:=by
 obtain ⟨s,hs⟩:=List.exists_mem_of_ne_nil _ hs
 unfold alwB at h
 rw [List.all_eq_true] at h
 unfold hopB
 rw [List.any_eq_true]
 have ha:=hg.air
 exact ⟨s,hs,fine_can hw (take_lo hp.ok) (air:=b.a0) (by omega) (by omega) (must_fine hw (take_lo hp.ok) (by omega) (h s hs))⟩
theorem bst_yes {pr:List Int→Bool} {fa:Bool} {sa lv:List Int} (hp:pr lv=true) (h:fa=true→turnW lv < turnW sa):bstS pr (if fa=true then some sa else none) lv=if true=true then some lv else none:=by
 cases fa with
 | false=>show (if pr lv=true then some lv else none)=_;rw [if_pos hp,if_pos rfl]
 | true=>show (if pr lv=true∧turnW lv < turnW sa then some lv else some sa)=_;rw [if_pos ⟨hp,h rfl⟩,if_pos rfl]
theorem bst_no {pr:List Int→Bool} {fa:Bool} {sa lv:List Int} (h:pr lv=true→fa=true∧¬ turnW lv < turnW sa):bstS pr (if fa=true then some sa else none) lv=if fa=true then some sa else none:=by
 cases fa with
 | false=>show (if pr lv=true then some lv else none)=_;rw [if_neg fun h9=>absurd (h h9).1 (by simp),if_neg (by simp)]
 | true=>show (if pr lv=true∧turnW lv < turnW sa then some lv else some sa)=_;rw [if_neg fun h9=>(h h9.1).2 h9.2,if_pos rfl]
theorem bst_len {p:List Nt} {pr:List Int→Bool} {s:List Int} (h:bst pr (wysL p p.length [])=some s):s.length=p.length:=by
 obtain ⟨L1,L2,hL,-,-,-⟩:=(bst_spec pr (wysL p p.length [])).2 s h
 exact (wys_way (by rw [hL];exact List.mem_append_right _ Zz2)).len
theorem turned_law {b:Bw} {gl:List Int} {air:Int} {p:List Nt} (hb:BwTrue b gl air) (h4:gl.length≤4) (h3:b.ts.length≤3) (hp:NtGood p) :
  (∀ g∈wysL p p.length [],g.length=p.length∧lvlE b p g=0∧(plaV b p g=1↔alwB b p (sums0 b) g=true)∧(plaV b p g=2↔¬ hopB b p (sums0 b) g=true)) ∧
  (bst (alwB b p (sums0 b)) (wysL p p.length [])=none→turE b p=11∧turL b p=[])∧(∀ s,bst (alwB b p (sums0 b)) (wysL p p.length [])=some s→turE b p=0∧turL b p=s) ∧
  (bst (hopB b p (sums0 b)) (wysL p p.length [])=none→hopE b p=11∧hopL b p=[])∧(∀ s,bst (hopB b p (sums0 b)) (wysL p p.length [])=some s→hopE b p=0∧hopL b p=s) ∧
  (∀ s,bst (alwB b p (sums0 b)) (wysL p p.length [])=some s→∃ m,bst (hopB b p (sums0 b)) (wysL p p.length [])=some m∧turnW m≤turnW s)∧(turL b p).length≤6∧(hopL b p).length≤6:=by
 have hk:knownE b [pieceE p]=0:=hb.known h4 h3 fun e he=>by rw [List.mem_singleton.1 he,pieceE_of hp]
 have n1 : ¬ (knownE b [pieceE p]≠0):=by omega
 have hgd:=hb.good h4 h3
 have hah:∀ g∈wysL p p.length [],alwB b p (sums0 b) g=true→hopB b p (sums0 b) g=true:=fun g hg h=>alw_hop hgd hp (wys_way hg).len (sums_pos hk) h
 have hT:turE b p=(if (bst (alwB b p (sums0 b)) (wysL p p.length [])).isSome then 0 else 11)∧turL b p=(bst (alwB b p (sums0 b)) (wysL p p.length [])).getD []:=by
  unfold turE turL
  rw [if_neg n1,if_neg n1,bst_find]
  exact ⟨rfl,Z⟩
 have hH:hopE b p=(if (bst (hopB b p (sums0 b)) (wysL p p.length [])).isSome then 0 else 11)∧hopL b p=(bst (hopB b p (sums0 b)) (wysL p p.length [])).getD []:=by
  unfold hopE hopL
  rw [if_neg n1,if_neg n1,bst_find]
  exact ⟨rfl,Z⟩
 refine ⟨fun g hg=>?_,fun e=>by rw [hT.1,hT.2,e];exact ⟨rfl,Z⟩,fun s e=>by rw [hT.1,hT.2,e];exact ⟨rfl,Z⟩,fun e=>by rw [hH.1,hH.2,e];exact ⟨rfl,Z⟩,fun s e=>by rw [hH.1,hH.2,e];exact ⟨rfl,Z⟩,fun s e=>?_,?_,?_⟩
 ·have hw:=wys_way hg
  have e1:=hb.lvl h4 h3 hp hw
  have hh:=hah g hg
  refine ⟨hw.len,e1,?_,?_⟩
  ·rw [plaV_of e1]
   split
   ·rename_i h1;exact ⟨fun _=>h1,fun _=>rfl⟩
   ·rename_i h1
    refine ⟨fun h=>?_,fun h=>absurd h h1⟩
    split at h <;> omega
  ·rw [plaV_of e1]
   split
   ·rename_i h1;exact ⟨fun h=>by omega,fun h=>absurd (hh h1) h⟩
   ·split
    ·rename_i h2;exact ⟨fun h=>by omega,fun h=>absurd h2 h⟩
    ·rename_i h2;exact ⟨fun _=>h2,fun _=>rfl⟩
 ·obtain ⟨a1,a2⟩:=bst_spec (alwB b p (sums0 b)) (wysL p p.length [])
  obtain ⟨L1,L2,hL,hs,-,-⟩:=a2 s e
  have hsm:s∈wysL p p.length []:=by rw [hL];exact List.mem_append_right _ Zz2
  have hsh:=hah s hsm hs
  obtain ⟨c1,c2⟩:=bst_spec (hopB b p (sums0 b)) (wysL p p.length [])
  cases em:bst (hopB b p (sums0 b)) (wysL p p.length []) with
  | none=>rw [c1 em s hsm] at hsh;cases hsh
  | some m =>
   refine ⟨m,Z,?_⟩
   obtain ⟨M1,M2,hM,-,m3,m4⟩:=c2 m em
   rw [hM] at hsm
   rcases List.mem_append.1 hsm with k | k
   ·have:=m3 s k hsh;omega
   ·rcases Zx7.1 k with rfl | k
    ·exact Int.le_refl _
    ·exact m4 s k hsh
 ·rw [hT.2]
  cases e:bst (alwB b p (sums0 b)) (wysL p p.length []) with
  | none=>exact Nat.zero_le _
  | some s=>show s.length≤6;rw [bst_len e];exact hp.n6
 ·rw [hH.2]
  cases e:bst (hopB b p (sums0 b)) (wysL p p.length []) with
  | none=>exact Nat.zero_le _
  | some s=>show s.length≤6;rw [bst_len e];exact hp.n6
section
open Go.RowKit Go.Proofs.Ytoheddpnnjldgaa.Bq
theorem turned_no {fa:Bool} {tE a c:Int} {n:Nat} (h0:fa=false→tE=11∧n=0) (h1:fa=true→tE=0∧a=c):(bif (!fa) then ((!(decide (tE=11))) || ((decide (0 < ((n:Nat):Int))) || (fa && ((!(decide (tE=0))) || (!(decide (a=c))))))) else (fa && ((!(decide (tE=0))) || (!(decide (a=c))))))=false:=by
 cases fa with
 | false=>obtain ⟨rfl,rfl⟩:=h0 rfl;rfl
 | true=>obtain ⟨rfl,rfl⟩:=h1 rfl;simp
set_option maxHeartbeats 4000000 in
theorem BellowTurned_any {J:Nat→Option Obj} (hP:FuncsOk Try.prog) (D:Option Addr) (n d:Nat) (l:List Int) (w:World) (hl:Rd w w.heap.size 1 D n (ic l)) (hm:n≤9223372036854775807) :
   TopB Try.prog J 11 Try.f11 #[.slice D n d] w fun e w'=>e=.returned (.bool true)∧Below w.heap.size w w':=by
 have hll:=hl.len1
 obtain ⟨bI,oI,SI⟩:=Sp.old hl
 refine px_enterT hP noEx Try.func11 Z 180 Z [.slice D n d] Z Z (Mem.init w _) ?_ (fun _ _ h=>⟨_,h.1⟩)
 intro ac wc T M
 refine wpB_seq hP ?_
 refine b_lone hP w fun T9=>?_
 replace M:=M.tp T9 0 0
 replace SI:=SI.tp T9 0
 refine wp_region_lit ?_
 refine lq T (Zra Z evc) ?_;intro ac T
 refine wpList_nil ?_
 refine nqR_n M ?_;clear M;intro wc M
 replace SI:=SI.pt
 replace T:=T.pick [1] rfl
 refine nm_then ?_
 refine wpB_seq hP ?_
 refine b_lone hP w fun T9=>?_
 replace M:=M.tp T9 0 0
 replace SI:=SI.tp T9 0
 refine wp_region_lit ?_
 refine lq T (Zrm Z (T.e 0 Z)) ?_;intro ac T
 refine Zl2 ?_
 refine Zod T Z Z Z Z evf (.cons (T.e 0 Z) .nil) Try.func17 Z Z ?_
 refine Calls.mono (newPot_any _ _ _ l _ (SI.rd M (Zz9 _)) (by omega)) ?_
 clear T;rintro e wc ⟨bpu1,su1,hsu1,rfl,N⟩ ac T
 replace M:=M.join N;clear N
 replace M:=M.mask [true] rfl
 refine lq T (Zra Z (T.e 0 Z)) ?_;intro ac T
 refine wpList_nil ?_
 refine nqR_n M ?_;clear M;intro wc M
 replace SI:=SI.pt
 replace T:=T.pick [0] rfl
 refine nm_then ?_
 refine wpB_seq hP ?_
 refine b_lone hP w fun T9=>?_
 replace M:=M.tp T9 0 0
 replace SI:=SI.tp T9 0
 refine wp_region_lit ?_
 refine lq T (Zrm Z (T.e 0 Z)) ?_;intro ac T
 refine Zl2 ?_
 refine Zod T Z Z Z Z evf (.cons (T.e 0 Z) (.cons evc (.cons evc .nil))) Try.func18 Z Z ?_
 refine Calls.mono (bellowOf_any _ bpu1 3 2 _ (by omega) (by omega) (M.nth 0 Z) hsu1) ?_
 clear T;rintro e wc ⟨bu2,gu2,airu2,Abu2,cbu2,Dbu2,dbu2,Gbu2,nbu2,su2,Ibu2,rfl,hBtu2,hBgu2,hBnu2,hsu2,hBiu2,⟨bGu2,oGu2,hGsu2⟩,N⟩ ac T
 replace M:=(M.joinW2 .head N).swapI
 clear N
 replace M:Mem (Bq.tp w T9 0) noEx wc ((bpu1,.cells [.int .u64 su2])::Ibu2):=M
 have SGu2:=hGsu2 (Bq.tp w T9 0) noEx
 have hB4u2:gu2.length≤4:=by omega
 have hB3u2:bu2.ts.length≤3:=by omega
 refine Zg4 T (Zq (Zrm Z (T.e 0 Z))) Z (Ze 0 Z Z Z) Z (Ze 1 Z Z Z) Z (Ze 2 Z Z Z) Z ?_;intro ac T
 refine Zl2 ?_
 refine Zoa M T Z Z Z Z ?_;clear M T;intro g1 wc ac M T
 refine Zl2 ?_
 refine Zot M T Z Z (T.e 0 Z) (T.e 3 Z) Z .head Z Z ?_;clear M T;intro wc ac M T
 refine Zg2 T (Zq (Zra Z (T.e 2 Z))) Z (Za 2 Z Z) Z ?_;intro ac T
 refine wpList_nil ?_
 refine nqR_n M ?_;clear M;intro wc M
 replace SGu2:=SGu2.pt
 replace SI:=SI.pt
 replace T:=T.pick [2,9] rfl
 refine nm_then ?_
 refine wpB_seq hP ?_
 refine b_lone hP w fun T9=>?_
 replace M:=M.tp T9 0 0
 replace SGu2:=SGu2.tp T9 0
 replace SI:=SI.tp T9 0
 refine wp_region_lit ?_
 refine lq T (Zrm Z (T.e 1 Z)) ?_;intro ac T
 refine Zl2 ?_
 refine Zod T Z Z Z Z evf (.cons (T.e 0 Z) (.cons evc .nil)) Try.func25 Z Z ?_
 refine Calls.mono (pieceOf_any _ bpu1 5 _ (by omega) (M.nth 1 Z) hsu2) ?_
 clear T;rintro e wc ⟨pu3,aau3,Apu3,cpu3,Bpu3,dpu3,su3,Ipu3,rfl,hPtu3,hPlu3,hPmu3,hPcu3,hsu3,⟨bqu3,oqu3,hSpu3⟩,⟨bru3,oru3,hSau3⟩,N⟩ ac T
 replace M:=(M.joinW2 (.tail .head) N).swapI
 clear N
 replace M:Mem (Bq.tp w T9 0) noEx wc ((g1,.cells [Zi bu2.full,Zi bu2.a0,Zi bu2.a1,.slice Abu2 bu2.cs.length cbu2,.slice Dbu2 bu2.ts.length dbu2])::(bpu1,.cells [.int .u64 su3])::(Ibu2++Ipu3)):=M
 have SPu3:=hSpu3 (Bq.tp w T9 0) noEx
 have SAu3:=hSau3 (Bq.tp w T9 0) noEx
 have hpgu3:NtGood pu3:=⟨by omega,hPtu3.good⟩
 have hp6u3:=hpgu3.n6
 refine Zg5 T (Zq (Zrm Z (T.e 0 Z))) Z (Ze 0 Z Z Z) Z (Ze 1 Z Z Z) Z (Za 1 Z Z) Z (Za 1 Z Z) Z ?_;intro ac T
 refine wpList_nil ?_
 refine nqR_n M ?_;clear M;intro wc M
 replace SAu3:=SAu3.pt
 replace SGu2:=SGu2.pt
 replace SI:=SI.pt
 replace SPu3:=SPu3.pt
 replace T:=T.pick [1,7] rfl
 replace M:=M.mask [true,false] rfl
 refine nm_then ?_
 refine wpB_seq hP ?_
 refine rB_preN hP w 2 (by decide) fun T9=>?_
 replace M:=M.tp T9 0 0
 replace SAu3:=SAu3.tp T9 0
 replace SGu2:=SGu2.tp T9 0
 replace SI:=SI.tp T9 0
 replace SPu3:=SPu3.tp T9 0
 refine Zg2 T (Zq (Zrr (Mem.nth M 0 Z) Z (T.e 1 Z) Z)) Z (Zm 1 Z Z) Z ?_;intro ac T
 refine wpList_nil ?_
 refine pqR_n M ?_;clear M;intro wc M
 replace SAu3:=SAu3.pt
 replace SGu2:=SGu2.pt
 replace SI:=SI.pt
 replace SPu3:=SPu3.pt
 obtain ⟨hA9,hD9,hop9⟩:=hBiu2.rd M (.cons _ (subL (List.Sublist.refl _)))
 obtain ⟨nA9,nD9,nop9⟩:=hBiu2.few
 refine rB_call hP (m:=7) (first:=[]) (cap:=[]) T Z Z Z Z Z evf (.cons (T.e 1 Z) (.cons (T.e 0 Z) .nil)) Try.func27 Z Z (Turns_any hP bu2 Abu2 cbu2 Dbu2 dbu2 pu3 Apu3 cpu3 _ hA9 hD9 hop9 nA9 nD9 nop9 (SPu3.rd M (.cons _ (Zsq _ _))) (by omega)) ?_
 clear T
 rintro e wc ⟨Atu4,ctu4,Itu4,rfl,htcu4,⟨btu4,otu4,hStu4⟩,N⟩
 refine ⟨_,Z,?_⟩
 intro ac T
 obtain ⟨z1,z2,z3,z4,z5,z6,z7,z8⟩:=turned_law hBtu2 hB4u2 hB3u2 hpgu3
 obtain ⟨WL,hWL⟩:∃ q,q=wysL pu3 pu3.length []:=⟨_,rfl⟩
 obtain ⟨prA,hprA⟩:∃ q,q=alwB bu2 pu3 (sums0 bu2):=⟨_,rfl⟩
 obtain ⟨prH,hprH⟩:∃ q,q=hopB bu2 pu3 (sums0 bu2):=⟨_,rfl⟩
 obtain ⟨tL,htL⟩:∃ q,q=turL bu2 pu3:=⟨_,rfl⟩
 obtain ⟨tE,htE⟩:∃ q,q=turE bu2 pu3:=⟨_,rfl⟩
 obtain ⟨hL,hhL⟩:∃ q,q=hopL bu2 pu3:=⟨_,rfl⟩
 obtain ⟨hE,hhE⟩:∃ q,q=hopE bu2 pu3:=⟨_,rfl⟩
 have hWs:=wys_bd (p:=pu3) (k:=pu3.length) (b:=[]) (by omega) (fun v hv=>by cases hv)
 rw [← hWL] at z1 z2 z3 z4 z5 z6 hWs
 rw [← hprA] at z1 z2 z3 z6
 rw [← hprH] at z1 z4 z5 z6
 rw [← htL] at z2 z3 z7
 rw [← htE] at z2 z3
 rw [← hhL] at z4 z5 z8
 rw [← hhE] at z4 z5
 rw [← htL,← htE] at T
 rw [← htL] at hStu4
 have htw:=turnW_nonneg tL
 have hhw:=turnW_nonneg hL
 replace M:=(M.join N).swapI
 clear N
 replace M:Mem w noEx wc ((g1,.cells [Zi bu2.full,Zi bu2.a0,Zi bu2.a1,.slice Abu2 bu2.cs.length cbu2,.slice Dbu2 bu2.ts.length dbu2])::(Ibu2++Ipu3++Itu4)):=M
 have Stu4:=hStu4 w noEx
 refine rB_moreN hP w 7 0 Z (by decide) fun T9=>?_
 replace M:=M.tp T9 0 0
 replace SAu3:=SAu3.tp T9 0
 replace SGu2:=SGu2.tp T9 0
 replace SI:=SI.tp T9 0
 replace SPu3:=SPu3.tp T9 0
 replace Stu4:=Stu4.tp T9 0
 refine Zg7 T (Zq (Zrm Z (T.e 0 Z))) Z (Ze 0 Z Z Z) Z (Ze 1 Z Z Z) Z (Ze 2 Z Z Z) Z (Za 2 Z Z) Z (Za 2 Z Z) Z (Za 2 Z Z) Z ?_;intro ac T
 refine wpList_nil ?_
 refine pqR_n M ?_;clear M;intro wc M
 replace SAu3:=SAu3.pt
 replace SGu2:=SGu2.pt
 replace SI:=SI.pt
 replace SPu3:=SPu3.pt
 replace Stu4:=Stu4.pt
 refine rB_nil hP ?_
 replace T:=T.pick [0,1,2,10,11] rfl
 refine nm_then ?_
 refine wpB_seq hP ?_
 refine rB_preN hP w 2 (by decide) fun T9=>?_
 replace M:=M.tp T9 0 0
 replace SAu3:=SAu3.tp T9 0
 replace SGu2:=SGu2.tp T9 0
 replace SI:=SI.tp T9 0
 replace SPu3:=SPu3.tp T9 0
 replace Stu4:=Stu4.tp T9 0
 refine Zg2 T (Zq (Zrr (Mem.nth M 0 Z) Z (T.e 4 Z) Z)) Z (Zm 4 Z Z) Z ?_;intro ac T
 refine wpList_nil ?_
 refine pqR_n M ?_;clear M;intro wc M
 replace SAu3:=SAu3.pt
 replace SGu2:=SGu2.pt
 replace SI:=SI.pt
 replace SPu3:=SPu3.pt
 replace Stu4:=Stu4.pt
 obtain ⟨hA9,hD9,hop9⟩:=hBiu2.rd M (.cons _ (subL (subL (List.Sublist.refl _))))
 obtain ⟨nA9,nD9,nop9⟩:=hBiu2.few
 refine rB_call hP (m:=7) (first:=[]) (cap:=[]) T Z Z Z Z Z evf (.cons (T.e 1 Z) (.cons (T.e 0 Z) .nil)) Try.func49 Z Z (Hope_any hP bu2 Abu2 cbu2 Dbu2 dbu2 pu3 Apu3 cpu3 _ hA9 hD9 hop9 nA9 nD9 nop9 (SPu3.rd M (.cons _ (subL (Zsq _ _)))) (by omega)) ?_
 clear T
 rintro e wc ⟨Ahu5,chu5,Ihu5,rfl,hhcu5,⟨bhu5,ohu5,hShu5⟩,N⟩
 refine ⟨_,Z,?_⟩
 intro ac T
 rw [← hhL,← hhE] at T
 rw [← hhL] at hShu5
 replace M:=(M.join N).swapI
 clear N
 replace M:Mem w noEx wc ((g1,.cells [Zi bu2.full,Zi bu2.a0,Zi bu2.a1,.slice Abu2 bu2.cs.length cbu2,.slice Dbu2 bu2.ts.length dbu2])::(Ibu2++Ipu3++Itu4++Ihu5)):=M
 have Shu5:=hShu5 w noEx
 refine rB_moreN hP w 7 0 Z (by decide) fun T9=>?_
 replace M:=M.tp T9 0 0
 replace SAu3:=SAu3.tp T9 0
 replace SGu2:=SGu2.tp T9 0
 replace SI:=SI.tp T9 0
 replace SPu3:=SPu3.tp T9 0
 replace Shu5:=Shu5.tp T9 0
 replace Stu4:=Stu4.tp T9 0
 refine Zg7 T (Zq (Zrm Z (T.e 0 Z))) Z (Ze 0 Z Z Z) Z (Ze 1 Z Z Z) Z (Ze 2 Z Z Z) Z (Za 2 Z Z) Z (Za 2 Z Z) Z (Za 2 Z Z) Z ?_;intro ac T
 refine wpList_nil ?_
 refine pqR_n M ?_;clear M;intro wc M
 replace SAu3:=SAu3.pt
 replace SGu2:=SGu2.pt
 replace SI:=SI.pt
 replace SPu3:=SPu3.pt
 replace Shu5:=Shu5.pt
 replace Stu4:=Stu4.pt
 refine rB_nil hP ?_
 replace T:=T.pick [0,1,2,10,11,12,13,14] rfl
 refine nm_then ?_
 refine wpB_seq hP ?_
 refine b_lone hP w fun T9=>?_
 replace M:=M.tp T9 0 0
 replace SAu3:=SAu3.tp T9 0
 replace SGu2:=SGu2.tp T9 0
 replace SI:=SI.tp T9 0
 replace SPu3:=SPu3.tp T9 0
 replace Shu5:=Shu5.tp T9 0
 replace Stu4:=Stu4.tp T9 0
 refine wp_region_lit ?_
 refine lq T (Zrm Z (T.e 6 Z)) ?_;intro ac T
 refine Zl2 ?_
 refine Zod T Z Z Z Z evf (.cons (T.e 0 Z) (.cons evc .nil)) Try.func50 Z Z ?_
 refine Calls.mono (ways4_any pu3 Apu3 cpu3 (by omega) pu3.length _ [] none 0 0 [] Z (by simp) (fun v hv=>by cases hv) (SPu3.rd M (.cons _ (subL (subL (Zsq _ _))))) ⟨by simp [ic],fun h=>absurd h (by simp)⟩ ⟨0,0,fun w ex=>Sp.nil⟩) ?_
 clear T;rintro e wc ⟨Awu6,cwu6,LWu6,Iwu6,rfl,hLWu6,⟨bwu6,owu6,hSwu6⟩,hEwu6,N⟩ ac T
 rw [← hWL] at hLWu6
 rw [Zx5] at hEwu6
 have hWnu6:WL.length=LWu6.length:=by rw [← hLWu6,List.length_map]
 replace M:=(M.join N).swapI
 clear N
 replace M:Mem (Bq.tp w T9 0) noEx wc ((g1,.cells [Zi bu2.full,Zi bu2.a0,Zi bu2.a1,.slice Abu2 bu2.cs.length cbu2,.slice Dbu2 bu2.ts.length dbu2])::(Ibu2++Ipu3++Itu4++Ihu5++Iwu6)):=M
 have Swu6:=hSwu6 (Bq.tp w T9 0) noEx
 refine lq T (Zra Z (T.e 0 Z)) ?_;intro ac T
 refine wpList_nil ?_
 refine nqR_n M ?_;clear M;intro wc M
 replace SAu3:=SAu3.pt
 replace SGu2:=SGu2.pt
 replace SI:=SI.pt
 replace SPu3:=SPu3.pt
 replace Shu5:=Shu5.pt
 replace Stu4:=Stu4.pt
 replace Swu6:=Swu6.pt
 replace T:=T.pick [0,3,4,5,6,7,8,9,10] rfl
 refine nm_then ?_
 refine wpB_seq hP ?_
 refine b_lone hP w fun T9=>?_
 replace M:=M.tp T9 0 0
 replace SAu3:=SAu3.tp T9 0
 replace SGu2:=SGu2.tp T9 0
 replace SI:=SI.tp T9 0
 replace SPu3:=SPu3.tp T9 0
 replace Shu5:=Shu5.tp T9 0
 replace Stu4:=Stu4.tp T9 0
 replace Swu6:=Swu6.tp T9 0
 refine wp_region_lit ?_
 refine Zg2 T (Zq (Zra Z evc)) Z (Zc Z) Z ?_;intro ac T
 refine wpList_nil ?_
 refine nqR_n M ?_;clear M;intro wc M
 replace SAu3:=SAu3.pt
 replace SGu2:=SGu2.pt
 replace SI:=SI.pt
 replace SPu3:=SPu3.pt
 replace Shu5:=Shu5.pt
 replace Stu4:=Stu4.pt
 replace Swu6:=Swu6.pt
 refine nm_then ?_
 refine wpB_seq hP ?_
 refine b_lone hP w fun T9=>?_
 replace M:=M.tp T9 0 0
 replace SAu3:=SAu3.tp T9 0
 replace SGu2:=SGu2.tp T9 0
 replace SI:=SI.tp T9 0
 replace SPu3:=SPu3.tp T9 0
 replace Shu5:=Shu5.tp T9 0
 replace Stu4:=Stu4.tp T9 0
 replace Swu6:=Swu6.tp T9 0
 refine wp_region_lit ?_
 refine Zg2 T (Zq (Zra Z evc)) Z (Zc Z) Z ?_;intro ac T
 refine wpList_nil ?_
 refine nqR_n M ?_;clear M;intro wc M
 replace SAu3:=SAu3.pt
 replace SGu2:=SGu2.pt
 replace SI:=SI.pt
 replace SPu3:=SPu3.pt
 replace Shu5:=Shu5.pt
 replace Stu4:=Stu4.pt
 replace Swu6:=Swu6.pt
 refine nm_then ?_
 refine wpB_seq hP ?_
 refine wpB_seq hP ?_
 refine b_lone hP w fun T9=>?_
 replace M:=M.tp T9 0 0
 replace SAu3:=SAu3.tp T9 0
 replace SGu2:=SGu2.tp T9 0
 replace SI:=SI.tp T9 0
 replace SPu3:=SPu3.tp T9 0
 replace Shu5:=Shu5.tp T9 0
 replace Stu4:=Stu4.tp T9 0
 replace Swu6:=Swu6.tp T9 0
 refine wp_region_lit ?_
 refine lq T (Zra Z evc) ?_;intro ac T
 refine wpList_nil ?_
 refine nqR_n M ?_;clear M;intro wc M
 replace SAu3:=SAu3.pt
 replace SGu2:=SGu2.pt
 replace SI:=SI.pt
 replace SPu3:=SPu3.pt
 replace Shu5:=Shu5.pt
 replace Stu4:=Stu4.pt
 replace Swu6:=Swu6.pt
 refine nm_then ?_
 refine wpB_block hP ?_
 refine wpB_loop_n hP (fun mz ac wc=>∃ (i:Nat) (fa fm:Bool) (sa sm:List Int) (Aa Am:Option Addr) (ca cm:Nat),mz=LWu6.length - i∧(i≤LWu6.length)∧(bst prA (WL.take i)=if fa=true then some sa else none)∧(bst prH (WL.take i)=if fm=true then some sm else none)∧(sa.length≤6)∧(sm.length≤6)∧(∃ b o,∀ (w:World) (ex:Nat→Prop),Sp w ex Iwu6 Aa sa.length 1 b o (ic sa))∧(∃ b o,∀ (w:World) (ex:Nat→Prop),Sp w ex Iwu6 Am sm.length 1 b o (ic sm))∧Tm ac 180 [(4,Zj g1),(7,.slice Apu3 pu3.length cpu3),(9,.slice Atu4 tL.length ctu4),(10,Zi (turnW tL)),(11,Zi tE),(12,.slice Ahu5 hL.length chu5),(13,Zi (turnW hL)),(14,Zi hE),(15,.slice Awu6 LWu6.length cwu6),(16,.slice Aa sa.length ca),(17,.slice Am sm.length cm),(18,.bool fa),(19,.bool fm),(20,Zi (i:Int))]∧Mem w noEx wc ((g1,.cells [Zi bu2.full,Zi bu2.a0,Zi bu2.a1,.slice Abu2 bu2.cs.length cbu2,.slice Dbu2 bu2.ts.length dbu2])::(Ibu2++Ipu3++Itu4++Ihu5++Iwu6))) ?_ ?_
 ·exact ⟨_,0,false,false,[],[],none,none,0,0,Z,(Nat.zero_le _),Z,Z,(Nat.zero_le _),(Nat.zero_le _),⟨0,0,fun w ex=>Sp.nil.mono (Zz9 _)⟩,⟨0,0,fun w ex=>Sp.nil.mono (Zz9 _)⟩,T.pick [13,12,11,10,9,8,7,6,5,4,3,2,1,0] Z,M.mask [true] Z⟩
 clear T M
 rintro mz ac wc ⟨i,fa,fm,sa,sm,Aa,Am,ca,cm,hmm1,hi,hba,hbm,hla,hlm,hsa,hsm,T,M⟩
 obtain ⟨ba,oa,hSa⟩:=hsa
 have Sa:=hSa w noEx
 obtain ⟨bm,om,hSm⟩:=hsm
 have Sm:=hSm w noEx
 have haw:=turnW_nonneg sa
 have hmw:=turnW_nonneg sm
 refine wpB_seq hP ?_
 refine wpB_seq hP ?_
 refine b_lone hP w fun T9=>?_
 replace M:=M.tp T9 0 0
 replace SAu3:=SAu3.tp T9 0
 replace SGu2:=SGu2.tp T9 0
 replace SI:=SI.tp T9 0
 replace SPu3:=SPu3.tp T9 0
 replace Sa:=Sa.tp T9 0
 replace Shu5:=Shu5.tp T9 0
 replace Sm:=Sm.tp T9 0
 replace Stu4:=Stu4.tp T9 0
 replace Swu6:=Swu6.tp T9 0
 refine wp_region_lit ?_
 refine Zg4 T (Zq (Zrm Z (T.e 13 Z))) Z (Zm 9 Z Z) Z (Zl Try.underlying54 0 Z Z) Z (fun _ T=>Zq (rn_lss Z (T.e 2 Z) (T.e 0 Z))) Z ?_;intro ac T
 refine wpList_nil ?_
 refine nqR_n M ?_;clear M;intro wc M
 replace SAu3:=SAu3.pt
 replace SGu2:=SGu2.pt
 replace SI:=SI.pt
 replace SPu3:=SPu3.pt
 replace Sa:=Sa.pt
 replace Shu5:=Shu5.pt
 replace Sm:=Sm.pt
 replace Stu4:=Stu4.pt
 replace Swu6:=Swu6.pt
 replace T:=T.pick [0,4,5,6,7,8,9,10,11,12,13,14,15,16,17] rfl
 refine nm_then ?_
 refine wB_if hP (T.e 0 Z) ?_ ?_
 ·intro h1
  obtain ⟨⟨lv,Av,cv⟩,hkv⟩:∃ x,LWu6[i]? = some x:=⟨_,List.getElem?_eq_getElem (by omega)⟩
  obtain ⟨bv,ov,hSv0⟩:=hEwu6 _ (List.mem_of_getElem? hkv)
  have hSv:∀ (w:World) (ex:Nat→Prop),Sp w ex Iwu6 Av lv.length 1 bv ov (ic lv):=hSv0
  have Sv:=hSv w noEx
  have hkq:WL[i]? = some lv:=by rw [← hLWu6,List.getElem?_map,hkv];rfl
  obtain ⟨hlv,y1,y2,y3⟩:=z1 lv (List.mem_of_getElem? hkq)
  have hsa9:=bst_take (pr:=prA) hkq
  have hsm9:=bst_take (pr:=prH) hkq
  have hvw:=turnW_nonneg lv
  refine wpB_skip hP ?_
  refine nm_then ?_
  refine wpB_seq hP ?_
  refine wpB_block hP ?_
  refine wpB_seq hP ?_
  refine gB_start2 hP M (M.mask [true] Z) 12 (by kernel_rfl) Z (by kernel_rfl) ?_
  clear M;intro wc M
  refine gB_q (T:=T) (i:=0) Z (by kernel_rfl) (by kernel_rfl:(Zpb 12 0).setIfInBounds 0 true=Zpb 12 1) (fun _=>si_U) Z Z Z Z (fun T9 B w' hD hl hS=>(Zrr (Mem.nth (show Mem (Bq.tp w T9 0) noEx w' _ from hS) 0 Z) Z (T.e 1 Z) Z)) ?_;intro ac T
  refine gB_q (T:=T) (i:=1) Z (by kernel_rfl) (by kernel_rfl:(Zpb 12 1).setIfInBounds 1 true=Zpb 12 3) (fun _=>si_U) Z Z Z Z (fun _ _ _ _ _ _=>(Zrm Z (T.e 3 Z))) ?_;intro ac T
  refine gB_q (T:=T) (i:=2) Z (by kernel_rfl) (by kernel_rfl:(Zpb 12 3).setIfInBounds 2 true=Zpb 12 7) (fun _=>si_U) Z Z Z Z (fun _ _ _ _ _ _=>(Zrm Z (T.e 11 Z))) ?_;intro ac T
  refine gB_q (T:=T) (i:=3) Z (by kernel_rfl) (by kernel_rfl:(Zpb 12 7).setIfInBounds 3 true=Zpb 12 15) (fun _=>si_U) Z Z Z Z (fun _ _ _ _ _ _=>(Zrm Z (T.e 17 Z))) ?_;intro ac T
  refine gB_q (T:=T) (i:=4) Z (by kernel_rfl) (by kernel_rfl:(Zpb 12 15).setIfInBounds 4 true=Zpb 12 31) (fun _=>si_U) Z Z Z Z (fun _ _ _ _ _ _=>(Zri (size:=1) i Z (T.e 1 Z) (T.e 0 Z) ⟨_,Try.underlying54,by kernel_rfl⟩ Z (by omega) (Swu6.at0 (by omega)))) ?_;intro ac T
  refine gB_q (v:=(.slice Av lv.length cv)) (T:=T) (i:=5) Z (by kernel_rfl) (by kernel_rfl:(Zpb 12 31).setIfInBounds 5 true=Zpb 12 63) (fun _=>si_U) Z Z Z Z (fun T9 B w' hD hl hS=>(rn_cell (Sp.lc0 (Swu6.tp T9 0) (show Mem (Bq.tp w T9 0) noEx w' _ from hS) (.cons _ (Zsq _ _)) hkv) Z (T.e 0 Z))) ?_;intro ac T
  obtain ⟨hA9,hD9,hop9⟩:=hBiu2.rd M (.cons _ (subL (subL (subL (subL (List.Sublist.refl _))))))
  obtain ⟨nA9,nD9,nop9⟩:=hBiu2.few
  refine gB_one (i:=6) (by kernel_rfl) (by kernel_rfl:(Zpb 12 63).setIfInBounds 6 true=Zpb 12 127) (opB_call (first:=[]) (cap:=[]) T Z Z Z Z Z evf (.cons (T.e 5 Z) (.cons (T.e 4 Z) (.cons (T.e 0 Z) .nil))) Try.func38 Z Z (Plays_any hP bu2 Abu2 cbu2 Dbu2 dbu2 pu3 Apu3 cpu3 Av cv lv _ hA9 hD9 hop9 nA9 nD9 nop9 (SPu3.rd M (.cons _ (subL (subL (subL (Zsq _ _)))))) (by omega) (Sv.rd M (.cons _ (Zsq _ _))) (by omega)) ?_ Z)
  clear T
  rintro e wc ⟨rfl,hb⟩
  refine ⟨_,Z,?_⟩
  intro ac T
  replace M:=M.call hb;clear hb
  rw [y1] at T
  obtain ⟨pv,hpv⟩:∃ q,q=plaV bu2 pu3 lv:=⟨_,rfl⟩
  rw [← hpv] at T y2 y3
  refine ⟨(M.mask [true] Z),?_⟩
  refine gB_q (T:=T) (i:=7) Z (by kernel_rfl) (by kernel_rfl:(Zpb 12 127).setIfInBounds 7 true=Zpb 12 255) (fun _=>si_U) Z Z Z Z (fun _ _ _ _ _ _=>(Zrm Z (T.e 0 Z))) ?_;intro ac T
  refine gB_q (T:=T) (i:=8) Z (by kernel_rfl) (by kernel_rfl:(Zpb 12 255).setIfInBounds 8 true=Zpb 12 511) (fun _=>si_U) Z Z Z Z (fun _ _ _ _ _ _=>(Zre Z (T.e 0 Z) Z)) ?_;intro ac T
  refine gB_q (T:=T) (i:=9) Z (by kernel_rfl) (by kernel_rfl:(Zpb 12 511).setIfInBounds 9 true=Zpb 12 1023) (fun _=>si_U) Z Z Z Z (fun _ _ _ _ _ _=>(Zre Z (T.e 1 Z) Z)) ?_;intro ac T
  refine gB_q (T:=T) (i:=10) Z (by kernel_rfl) (by kernel_rfl:(Zpb 12 1023).setIfInBounds 10 true=Zpb 12 2047) (fun _=>si_U) Z Z Z Z (fun _ _ _ _ _ _=>(Zra Z (T.e 1 Z))) ?_;intro ac T
  refine gB_q (T:=T) (i:=11) Z (by kernel_rfl) (by kernel_rfl:(Zpb 12 2047).setIfInBounds 11 true=Zpb 12 4095) (fun _=>si_U) Z Z Z Z (fun _ _ _ _ _ _=>(Zra Z (T.e 1 Z))) ?_;intro ac T
  refine gB_done (by kernel_rfl) M ?_;clear M;intro wc M
  replace T:=T.pick [0,1,13,14,15,16,17,18,19,20,21,22,23,24,25,26] rfl
  refine nm_then ?_
  refine wpB_seq hP ?_
  refine wpB_seq hP ?_
  refine b_lone hP w fun T9=>?_
  replace M:=M.tp T9 0 0
  replace SAu3:=SAu3.tp T9 0
  replace SGu2:=SGu2.tp T9 0
  replace SI:=SI.tp T9 0
  replace SPu3:=SPu3.tp T9 0
  replace Sa:=Sa.tp T9 0
  replace Shu5:=Shu5.tp T9 0
  replace Sm:=Sm.tp T9 0
  replace Stu4:=Stu4.tp T9 0
  replace Sv:=Sv.tp T9 0
  replace Swu6:=Swu6.tp T9 0
  refine wp_region_lit ?_
  refine Zg2 (v2:=(.bool false)) T (Zq (Zrm Z (T.e 0 Z))) Z (fun _ T=>Zq (Zrq (rn_neq Z (T.e 0 Z) evc) (by simp))) Z ?_;intro ac T
  refine wpList_nil ?_
  refine nqR_n M ?_;clear M;intro wc M
  replace SAu3:=SAu3.pt
  replace SGu2:=SGu2.pt
  replace SI:=SI.pt
  replace SPu3:=SPu3.pt
  replace Sa:=Sa.pt
  replace Shu5:=Shu5.pt
  replace Sm:=Sm.pt
  replace Stu4:=Stu4.pt
  replace Sv:=Sv.pt
  replace Swu6:=Swu6.pt
  replace T:=T.pick [0,3,4,5,6,7,8,9,10,11,12,13,14,15,16,17] rfl
  refine nm_then ?_
  refine wB_cond_false hP (T.e 0 Z) ?_
  refine wpB_skip hP ?_
  refine nm_then ?_
  refine wpB_seq hP ?_
  refine cutB_seq hP (fun ac wc=>Tm ac 180 [(4,Zj g1),(7,.slice Apu3 pu3.length cpu3),(9,.slice Atu4 tL.length ctu4),(10,Zi (turnW tL)),(11,Zi tE),(12,.slice Ahu5 hL.length chu5),(13,Zi (turnW hL)),(14,Zi hE),(15,.slice Awu6 LWu6.length cwu6),(16,.slice Aa sa.length ca),(17,.slice Am sm.length cm),(18,.bool fa),(19,.bool fm),(20,Zi (i:Int)),(21,Zi pv),(85,.bool ((decide (pv=1)) && ((!fa) || (decide ((turnW lv) < (turnW sa))))))]∧Mem w noEx wc ((g1,.cells [Zi bu2.full,Zi bu2.a0,Zi bu2.a1,.slice Abu2 bu2.cs.length cbu2,.slice Dbu2 bu2.ts.length dbu2])::(Ibu2++Ipu3++Itu4++Ihu5++Iwu6))) ?_ ?_
  ·refine b_lone hP w fun T9=>?_
   replace M:=M.tp T9 0 0
   replace SAu3:=SAu3.tp T9 0
   replace SGu2:=SGu2.tp T9 0
   replace SI:=SI.tp T9 0
   replace SPu3:=SPu3.tp T9 0
   replace Sa:=Sa.tp T9 0
   replace Shu5:=Shu5.tp T9 0
   replace Sm:=Sm.tp T9 0
   replace Stu4:=Stu4.tp T9 0
   replace Sv:=Sv.tp T9 0
   replace Swu6:=Swu6.tp T9 0
   refine wp_region_lit ?_
   refine Zg3 T (Zq (Zrm Z (T.e 1 Z))) Z (fun _ T=>Zq (rn_eql Z (T.e 0 Z) evc)) Z (Zm 0 Z Z) Z ?_;intro ac T
   rcases Zx9 (decide (pv=1)) with h2 | h2
   ·replace h2:=of_decide_eq_true h2
    refine Zg3 T (Zw (Zwy Z Z (T.e 0 Z) (Zdt h2)) (Zrm Z (T.e 16 Z))) Z (fun _ T=>Zw (Zwy Z Z (T.e 1 Z) (Zdt h2)) (rn_not Z (T.e 0 Z))) Z (fun _ T=>Zw (Zwy Z Z (T.e 2 Z) (Zdt h2)) (Zrm Z (T.e 0 Z))) Z ?_;intro ac T
    rcases Zx9 (!fa) with h3 | h3
    ·refine Zg8 T (Zp (Zwn Z Z (T.e 0 Z) h3)) Z (fun _ T=>Zp (Zwn Z Z (T.e 1 Z) h3)) Z (fun _ T=>Zp (Zwn Z Z (T.e 2 Z) h3)) Z (fun _ T=>Zp (Zwn Z Z (T.e 3 Z) h3)) Z (fun _ T=>Zp (Zwn Z Z (T.e 4 Z) h3)) Z (fun _ T=>Zp (Zwn Z Z (T.e 5 Z) h3)) Z (fun _ T=>Zp (Zwn Z Z (T.e 6 Z) h3)) Z (fun _ T=>Zp (Zwn Z Z (T.e 7 Z) h3)) Z ?_;intro ac T
     refine Zg2 T (Zw (Zwy Z Z (T.e 11 Z) (Zdt h2)) (Zr1 Z (T.e 8 Z) h3 evc)) Z (fun _ T=>Zq (Zr1 Z (T.e 12 Z) (Zdt h2) (T.e 0 Z))) Z ?_;intro ac T
     refine wpList_nil ?_
     refine nqR_n M ?_;clear M;intro wc M
     replace SAu3:=SAu3.pt
     replace SGu2:=SGu2.pt
     replace SI:=SI.pt
     replace SPu3:=SPu3.pt
     replace Sa:=Sa.pt
     replace Shu5:=Shu5.pt
     replace Sm:=Sm.pt
     replace Stu4:=Stu4.pt
     replace Sv:=Sv.pt
     replace Swu6:=Swu6.pt
     replace T:=T.pick [0,1,2,3,4,5,6,7,8,9,10,11,12,17,18,19,20,21,22,23,24,25,26,27,28,29,30,31] rfl
     exact ⟨(T.pick (E':=[(4,Zj g1),(7,.slice Apu3 pu3.length cpu3),(9,.slice Atu4 tL.length ctu4),(10,Zi (turnW tL)),(11,Zi tE),(12,.slice Ahu5 hL.length chu5),(13,Zi (turnW hL)),(14,Zi hE),(15,.slice Awu6 LWu6.length cwu6),(16,.slice Aa sa.length ca),(17,.slice Am sm.length cm),(18,.bool fa),(19,.bool fm),(20,Zi (i:Int)),(21,Zi pv),(85,.bool true)]) [14,15,16,17,18,19,20,21,22,23,24,25,26,27,13,0] Z).as (by (try rw [show (decide (pv=1))=true from (Zdt h2)]);(try rw [show (!fa)=true from h3]);(try rfl)),M.mask [true] Z⟩
    refine Zg4 (v4:=(.slice Av lv.length cv)) T (Zw (Zwy Z Z (T.e 0 Z) h3) (Zrm Z (T.e 16 Z))) Z (fun _ T=>Zw (Zwy Z Z (T.e 1 Z) h3) (Zrm Z (T.e 22 Z))) Z (fun _ T=>Zw (Zwy Z Z (T.e 2 Z) h3) (Zri (size:=1) i Z (T.e 1 Z) (T.e 0 Z) ⟨_,Try.underlying54,by kernel_rfl⟩ Z (by omega) (Swu6.at0 (by omega)))) Z (fun _ T=>Zw (Zwy Z Z (T.e 3 Z) h3) (rn_cell (Sp.lc0 Swu6 M (.cons _ (Zsq _ _)) hkv) Z (T.e 0 Z))) Z ?_;intro ac T
    refine l_w (Zwy Z Z (T.e 4 Z) h3) ?_;intro K hK
    refine Zod T Z Z Z Z evf (.cons (T.e 0 Z) .nil) Try.func51 Z Z ?_
    refine Calls.mono (turnsOf4_any Av cv lv _ (Sv.rd M (.cons _ (Zsq _ _))) (by omega)) ?_
    clear T;rintro e wc ⟨rfl,hb⟩ ac T
    replace M:=M.call hb;clear hb
    refine Zso hK _ _ ?_;clear hK K
    refine lw T (Zwy Z Z (T.e 5 Z) h3) (Zrm Z (T.e 22 Z)) ?_;intro ac T
    refine l_w (Zwy Z Z (T.e 6 Z) h3) ?_;intro K hK
    refine Zod T Z Z Z Z evf (.cons (T.e 0 Z) .nil) Try.func51 Z Z ?_
    refine Calls.mono (turnsOf4_any Aa ca sa _ (Sa.rd M (.cons _ (Zsq _ _))) (by omega)) ?_
    clear T;rintro e wc ⟨rfl,hb⟩ ac T
    replace M:=M.call hb;clear hb
    refine Zso hK _ _ ?_;clear hK K
    refine Zg3 T (Zw (Zwy Z Z (T.e 7 Z) h3) (rn_lss Z (T.e 2 Z) (T.e 0 Z))) Z (fun _ T=>Zw (Zwy Z Z (T.e 11 Z) (Zdt h2)) (Zr0 Z (T.e 8 Z) h3 (T.e 0 Z))) Z (fun _ T=>Zq (Zr1 Z (T.e 12 Z) (Zdt h2) (T.e 0 Z))) Z ?_;intro ac T
    refine wpList_nil ?_
    refine nqR_n M ?_;clear M;intro wc M
    replace SAu3:=SAu3.pt
    replace SGu2:=SGu2.pt
    replace SI:=SI.pt
    replace SPu3:=SPu3.pt
    replace Sa:=Sa.pt
    replace Shu5:=Shu5.pt
    replace Sm:=Sm.pt
    replace Stu4:=Stu4.pt
    replace Sv:=Sv.pt
    replace Swu6:=Swu6.pt
    replace T:=T.pick [0,1,2,3,4,5,6,7,8,9,10,11,12,17,18,19,20,21,22,23,24,25,26,27,28,29,30,31] rfl
    exact ⟨(T.pick (E':=[(4,Zj g1),(7,.slice Apu3 pu3.length cpu3),(9,.slice Atu4 tL.length ctu4),(10,Zi (turnW tL)),(11,Zi tE),(12,.slice Ahu5 hL.length chu5),(13,Zi (turnW hL)),(14,Zi hE),(15,.slice Awu6 LWu6.length cwu6),(16,.slice Aa sa.length ca),(17,.slice Am sm.length cm),(18,.bool fa),(19,.bool fm),(20,Zi (i:Int)),(21,Zi pv),(85,.bool (decide ((turnW lv) < (turnW sa))))]) [14,15,16,17,18,19,20,21,22,23,24,25,26,27,13,0] Z).as (by (try rw [show (decide (pv=1))=true from (Zdt h2)]);(try rw [show (!fa)=false from h3]);(try rfl)),M.mask [true] Z⟩
   replace h2:=of_decide_eq_false h2
   refine Zg8 T (Zp (Zwn Z Z (T.e 0 Z) (Zdf h2))) Z (fun _ T=>Zp (Zwn Z Z (T.e 1 Z) (Zdf h2))) Z (fun _ T=>Zp (Zwn Z Z (T.e 2 Z) (Zdf h2))) Z (fun _ T=>Zp (Zwu Z Z (T.e 0 Z))) Z (fun _ T=>Zp (Zwu Z Z (T.e 1 Z))) Z (fun _ T=>Zp (Zwu Z Z (T.e 2 Z))) Z (fun _ T=>Zp (Zwu Z Z (T.e 3 Z))) Z (fun _ T=>Zp (Zwu Z Z (T.e 4 Z))) Z ?_;intro ac T
   refine Zg5 T (Zp (Zwu Z Z (T.e 5 Z))) Z (fun _ T=>Zp (Zwu Z Z (T.e 6 Z))) Z (fun _ T=>Zp (Zwu Z Z (T.e 7 Z))) Z (fun _ T=>Zp (Zwn Z Z (T.e 11 Z) (Zdf h2))) Z (fun _ T=>Zq (Zr0 Z (T.e 12 Z) (Zdf h2) evc)) Z ?_;intro ac T
   refine wpList_nil ?_
   refine nqR_n M ?_;clear M;intro wc M
   replace SAu3:=SAu3.pt
   replace SGu2:=SGu2.pt
   replace SI:=SI.pt
   replace SPu3:=SPu3.pt
   replace Sa:=Sa.pt
   replace Shu5:=Shu5.pt
   replace Sm:=Sm.pt
   replace Stu4:=Stu4.pt
   replace Sv:=Sv.pt
   replace Swu6:=Swu6.pt
   replace T:=T.pick [0,1,2,3,4,5,6,7,8,9,10,11,12,17,18,19,20,21,22,23,24,25,26,27,28,29,30,31] rfl
   exact ⟨(T.pick (E':=[(4,Zj g1),(7,.slice Apu3 pu3.length cpu3),(9,.slice Atu4 tL.length ctu4),(10,Zi (turnW tL)),(11,Zi tE),(12,.slice Ahu5 hL.length chu5),(13,Zi (turnW hL)),(14,Zi hE),(15,.slice Awu6 LWu6.length cwu6),(16,.slice Aa sa.length ca),(17,.slice Am sm.length cm),(18,.bool fa),(19,.bool fm),(20,Zi (i:Int)),(21,Zi pv),(85,.bool false)]) [14,15,16,17,18,19,20,21,22,23,24,25,26,27,13,0] Z).as (by (try rw [show (decide (pv=1))=false from (Zdf h2)]);(try rfl)),M.mask [true] Z⟩
  clear T M
  rintro ac wc ⟨T,M⟩
  refine wB_cond_split hP (T.e 15 Z) ?_ ?_
  ·intro h4
   (have h4':=h4;try simp only [Zb1,Zb2,Zb3,Zb4,Zb5,Zb6,Zb7] at h4')
   refine b_lone hP w fun T9=>?_
   replace M:=M.tp T9 0 0
   replace SAu3:=SAu3.tp T9 0
   replace SGu2:=SGu2.tp T9 0
   replace SI:=SI.tp T9 0
   replace SPu3:=SPu3.tp T9 0
   replace Sa:=Sa.tp T9 0
   replace Shu5:=Shu5.tp T9 0
   replace Sm:=Sm.tp T9 0
   replace Stu4:=Stu4.tp T9 0
   replace Sv:=Sv.tp T9 0
   replace Swu6:=Swu6.tp T9 0
   refine wp_region_lit ?_
   refine Zg4 (v4:=(.slice Av lv.length cv)) T (Zq (Zrm Z (T.e 8 Z))) Z (Zm 14 Z Z) Z (fun _ T=>Zq (Zri (size:=1) i Z (T.e 1 Z) (T.e 0 Z) ⟨_,Try.underlying54,by kernel_rfl⟩ Z (by omega) (Swu6.at0 (by omega)))) Z (fun _ T=>Zq (rn_cell (Sp.lc0 Swu6 M (.cons _ (Zsq _ _)) hkv) Z (T.e 0 Z))) Z ?_;intro ac T
   refine l_q (v:=(.slice Av lv.length cv)) (T.pick [0,1,2,3,4,5,6,7,8,9,10,11,12,14,15,16,17,18,19] Z) Z Z Z Z (Zra Z (T.e 0 Z)) ?_;intro ac T
   refine l_q (v:=(.bool true)) (T.pick [0,1,2,3,4,5,6,7,8,9,10,11,12,13,14,16,17,18,19] Z) Z Z Z Z (Zra Z evc) ?_;intro ac T
   refine wpList_nil ?_
   refine nqR_n M ?_;clear M;intro wc M
   replace SAu3:=SAu3.pt
   replace SGu2:=SGu2.pt
   replace SI:=SI.pt
   replace SPu3:=SPu3.pt
   replace Sa:=Sa.pt
   replace Shu5:=Shu5.pt
   replace Sm:=Sm.pt
   replace Stu4:=Stu4.pt
   replace Sv:=Sv.pt
   replace Swu6:=Swu6.pt
   replace T:=T.pick [0,1,6,7,8,9,10,11,12,13,14,15,16,17,18] rfl
   refine nm_then ?_
   refine cutB_seq hP (fun ac wc=>Tm ac 180 [(4,Zj g1),(7,.slice Apu3 pu3.length cpu3),(9,.slice Atu4 tL.length ctu4),(10,Zi (turnW tL)),(11,Zi tE),(12,.slice Ahu5 hL.length chu5),(13,Zi (turnW hL)),(14,Zi hE),(15,.slice Awu6 LWu6.length cwu6),(16,.slice Av lv.length cv),(17,.slice Am sm.length cm),(18,.bool true),(19,.bool fm),(20,Zi (i:Int)),(105,.bool ((!(decide (pv=2))) && ((!fm) || (decide ((turnW lv) < (turnW sm))))))]∧Mem w noEx wc ((g1,.cells [Zi bu2.full,Zi bu2.a0,Zi bu2.a1,.slice Abu2 bu2.cs.length cbu2,.slice Dbu2 bu2.ts.length dbu2])::(Ibu2++Ipu3++Itu4++Ihu5++Iwu6))) ?_ ?_
   ·refine b_lone hP w fun T9=>?_
    replace M:=M.tp T9 0 0
    replace SAu3:=SAu3.tp T9 0
    replace SGu2:=SGu2.tp T9 0
    replace SI:=SI.tp T9 0
    replace SPu3:=SPu3.tp T9 0
    replace Sa:=Sa.tp T9 0
    replace Shu5:=Shu5.tp T9 0
    replace Sm:=Sm.tp T9 0
    replace Stu4:=Stu4.tp T9 0
    replace Sv:=Sv.tp T9 0
    replace Swu6:=Swu6.tp T9 0
    refine wp_region_lit ?_
    refine Zg3 T (Zq (Zrm Z (T.e 14 Z))) Z (fun _ T=>Zq (rn_neq Z (T.e 0 Z) evc)) Z (Zm 0 Z Z) Z ?_;intro ac T
    rcases Zx9 (!(decide (pv=2))) with h5 | h5
    ·replace h5 : ¬ (pv=2):=by first | (rw [Bool.not_eq_true'] at h5;exact of_decide_eq_false h5) | simpa using h5
     refine Zg3 T (Zw (Zwy Z Z (T.e 0 Z) (by simp [h5])) (Zrm Z (T.e 15 Z))) Z (fun _ T=>Zw (Zwy Z Z (T.e 1 Z) (by simp [h5])) (rn_not Z (T.e 0 Z))) Z (fun _ T=>Zw (Zwy Z Z (T.e 2 Z) (by simp [h5])) (Zrm Z (T.e 0 Z))) Z ?_;intro ac T
     rcases Zx9 (!fm) with h6 | h6
     ·refine Zg8 T (Zp (Zwn Z Z (T.e 0 Z) h6)) Z (fun _ T=>Zp (Zwn Z Z (T.e 1 Z) h6)) Z (fun _ T=>Zp (Zwn Z Z (T.e 2 Z) h6)) Z (fun _ T=>Zp (Zwn Z Z (T.e 3 Z) h6)) Z (fun _ T=>Zp (Zwn Z Z (T.e 4 Z) h6)) Z (fun _ T=>Zp (Zwn Z Z (T.e 5 Z) h6)) Z (fun _ T=>Zp (Zwn Z Z (T.e 6 Z) h6)) Z (fun _ T=>Zp (Zwn Z Z (T.e 7 Z) h6)) Z ?_;intro ac T
      refine Zg2 T (Zw (Zwy Z Z (T.e 11 Z) (by simp [h5])) (Zr1 Z (T.e 8 Z) h6 evc)) Z (fun _ T=>Zq (Zr1 Z (T.e 12 Z) (by simp [h5]) (T.e 0 Z))) Z ?_;intro ac T
      refine wpList_nil ?_
      refine nqR_n M ?_;clear M;intro wc M
      replace SAu3:=SAu3.pt
      replace SGu2:=SGu2.pt
      replace SI:=SI.pt
      replace SPu3:=SPu3.pt
      replace Sa:=Sa.pt
      replace Shu5:=Shu5.pt
      replace Sm:=Sm.pt
      replace Stu4:=Stu4.pt
      replace Sv:=Sv.pt
      replace Swu6:=Swu6.pt
      replace T:=T.pick [0,1,2,3,4,5,6,7,8,9,10,11,12,16,17,18,19,20,21,22,23,24,25,26,27,28,29] rfl
      exact ⟨(T.pick (E':=[(4,Zj g1),(7,.slice Apu3 pu3.length cpu3),(9,.slice Atu4 tL.length ctu4),(10,Zi (turnW tL)),(11,Zi tE),(12,.slice Ahu5 hL.length chu5),(13,Zi (turnW hL)),(14,Zi hE),(15,.slice Awu6 LWu6.length cwu6),(16,.slice Av lv.length cv),(17,.slice Am sm.length cm),(18,.bool true),(19,.bool fm),(20,Zi (i:Int)),(105,.bool true)]) [15,16,17,18,19,20,21,22,23,14,24,13,25,26,0] Z).as (by (try rw [show (!(decide (pv=2)))=true from (by simp [h5])]);(try rw [show (!fm)=true from h6]);(try rfl)),M.mask [true] Z⟩
     refine Zg4 (v4:=(.slice Av lv.length cv)) T (Zw (Zwy Z Z (T.e 0 Z) h6) (Zrm Z (T.e 16 Z))) Z (fun _ T=>Zw (Zwy Z Z (T.e 1 Z) h6) (Zrm Z (T.e 20 Z))) Z (fun _ T=>Zw (Zwy Z Z (T.e 2 Z) h6) (Zri (size:=1) i Z (T.e 1 Z) (T.e 0 Z) ⟨_,Try.underlying54,by kernel_rfl⟩ Z (by omega) (Swu6.at0 (by omega)))) Z (fun _ T=>Zw (Zwy Z Z (T.e 3 Z) h6) (rn_cell (Sp.lc0 Swu6 M (.cons _ (Zsq _ _)) hkv) Z (T.e 0 Z))) Z ?_;intro ac T
     refine l_w (Zwy Z Z (T.e 4 Z) h6) ?_;intro K hK
     refine Zod T Z Z Z Z evf (.cons (T.e 0 Z) .nil) Try.func51 Z Z ?_
     refine Calls.mono (turnsOf4_any Av cv lv _ (Sv.rd M (.cons _ (Zsq _ _))) (by omega)) ?_
     clear T;rintro e wc ⟨rfl,hb⟩ ac T
     replace M:=M.call hb;clear hb
     refine Zso hK _ _ ?_;clear hK K
     refine lw T (Zwy Z Z (T.e 5 Z) h6) (Zrm Z (T.e 22 Z)) ?_;intro ac T
     refine l_w (Zwy Z Z (T.e 6 Z) h6) ?_;intro K hK
     refine Zod T Z Z Z Z evf (.cons (T.e 0 Z) .nil) Try.func51 Z Z ?_
     refine Calls.mono (turnsOf4_any Am cm sm _ (Sm.rd M (.cons _ (Zsq _ _))) (by omega)) ?_
     clear T;rintro e wc ⟨rfl,hb⟩ ac T
     replace M:=M.call hb;clear hb
     refine Zso hK _ _ ?_;clear hK K
     refine Zg3 T (Zw (Zwy Z Z (T.e 7 Z) h6) (rn_lss Z (T.e 2 Z) (T.e 0 Z))) Z (fun _ T=>Zw (Zwy Z Z (T.e 11 Z) (by simp [h5])) (Zr0 Z (T.e 8 Z) h6 (T.e 0 Z))) Z (fun _ T=>Zq (Zr1 Z (T.e 12 Z) (by simp [h5]) (T.e 0 Z))) Z ?_;intro ac T
     refine wpList_nil ?_
     refine nqR_n M ?_;clear M;intro wc M
     replace SAu3:=SAu3.pt
     replace SGu2:=SGu2.pt
     replace SI:=SI.pt
     replace SPu3:=SPu3.pt
     replace Sa:=Sa.pt
     replace Shu5:=Shu5.pt
     replace Sm:=Sm.pt
     replace Stu4:=Stu4.pt
     replace Sv:=Sv.pt
     replace Swu6:=Swu6.pt
     replace T:=T.pick [0,1,2,3,4,5,6,7,8,9,10,11,12,16,17,18,19,20,21,22,23,24,25,26,27,28,29] rfl
     exact ⟨(T.pick (E':=[(4,Zj g1),(7,.slice Apu3 pu3.length cpu3),(9,.slice Atu4 tL.length ctu4),(10,Zi (turnW tL)),(11,Zi tE),(12,.slice Ahu5 hL.length chu5),(13,Zi (turnW hL)),(14,Zi hE),(15,.slice Awu6 LWu6.length cwu6),(16,.slice Av lv.length cv),(17,.slice Am sm.length cm),(18,.bool true),(19,.bool fm),(20,Zi (i:Int)),(105,.bool (decide ((turnW lv) < (turnW sm))))]) [15,16,17,18,19,20,21,22,23,14,24,13,25,26,0] Z).as (by (try rw [show (!(decide (pv=2)))=true from (by simp [h5])]);(try rw [show (!fm)=false from h6]);(try rfl)),M.mask [true] Z⟩
    replace h5:pv=2:=by first | (rw [Bool.not_eq_false'] at h5;exact of_decide_eq_true h5) | simpa using h5
    refine Zg8 T (Zp (Zwn Z Z (T.e 0 Z) (by simp [h5]))) Z (fun _ T=>Zp (Zwn Z Z (T.e 1 Z) (by simp [h5]))) Z (fun _ T=>Zp (Zwn Z Z (T.e 2 Z) (by simp [h5]))) Z (fun _ T=>Zp (Zwu Z Z (T.e 0 Z))) Z (fun _ T=>Zp (Zwu Z Z (T.e 1 Z))) Z (fun _ T=>Zp (Zwu Z Z (T.e 2 Z))) Z (fun _ T=>Zp (Zwu Z Z (T.e 3 Z))) Z (fun _ T=>Zp (Zwu Z Z (T.e 4 Z))) Z ?_;intro ac T
    refine Zg5 T (Zp (Zwu Z Z (T.e 5 Z))) Z (fun _ T=>Zp (Zwu Z Z (T.e 6 Z))) Z (fun _ T=>Zp (Zwu Z Z (T.e 7 Z))) Z (fun _ T=>Zp (Zwn Z Z (T.e 11 Z) (by simp [h5]))) Z (fun _ T=>Zq (Zr0 Z (T.e 12 Z) (by simp [h5]) evc)) Z ?_;intro ac T
    refine wpList_nil ?_
    refine nqR_n M ?_;clear M;intro wc M
    replace SAu3:=SAu3.pt
    replace SGu2:=SGu2.pt
    replace SI:=SI.pt
    replace SPu3:=SPu3.pt
    replace Sa:=Sa.pt
    replace Shu5:=Shu5.pt
    replace Sm:=Sm.pt
    replace Stu4:=Stu4.pt
    replace Sv:=Sv.pt
    replace Swu6:=Swu6.pt
    replace T:=T.pick [0,1,2,3,4,5,6,7,8,9,10,11,12,16,17,18,19,20,21,22,23,24,25,26,27,28,29] rfl
    exact ⟨(T.pick (E':=[(4,Zj g1),(7,.slice Apu3 pu3.length cpu3),(9,.slice Atu4 tL.length ctu4),(10,Zi (turnW tL)),(11,Zi tE),(12,.slice Ahu5 hL.length chu5),(13,Zi (turnW hL)),(14,Zi hE),(15,.slice Awu6 LWu6.length cwu6),(16,.slice Av lv.length cv),(17,.slice Am sm.length cm),(18,.bool true),(19,.bool fm),(20,Zi (i:Int)),(105,.bool false)]) [15,16,17,18,19,20,21,22,23,14,24,13,25,26,0] Z).as (by (try rw [show (!(decide (pv=2)))=false from (by simp [h5])]);(try rfl)),M.mask [true] Z⟩
   clear T M
   rintro ac wc ⟨T,M⟩
   refine wB_cond_split hP (T.e 14 Z) ?_ ?_
   ·intro h7
    (have h7':=h7;try simp only [Zb1,Zb2,Zb3,Zb4,Zb5,Zb6,Zb7] at h7')
    refine b_lone hP w fun T9=>?_
    replace M:=M.tp T9 0 0
    replace SAu3:=SAu3.tp T9 0
    replace SGu2:=SGu2.tp T9 0
    replace SI:=SI.tp T9 0
    replace SPu3:=SPu3.tp T9 0
    replace Sa:=Sa.tp T9 0
    replace Shu5:=Shu5.tp T9 0
    replace Sm:=Sm.tp T9 0
    replace Stu4:=Stu4.tp T9 0
    replace Sv:=Sv.tp T9 0
    replace Swu6:=Swu6.tp T9 0
    refine wp_region_lit ?_
    refine Zg4 (v4:=(.slice Av lv.length cv)) T (Zq (Zrm Z (T.e 8 Z))) Z (Zm 14 Z Z) Z (fun _ T=>Zq (Zri (size:=1) i Z (T.e 1 Z) (T.e 0 Z) ⟨_,Try.underlying54,by kernel_rfl⟩ Z (by omega) (Swu6.at0 (by omega)))) Z (fun _ T=>Zq (rn_cell (Sp.lc0 Swu6 M (.cons _ (Zsq _ _)) hkv) Z (T.e 0 Z))) Z ?_;intro ac T
    refine l_q (v:=(.slice Av lv.length cv)) (T.pick [0,1,2,3,4,5,6,7,8,9,10,11,12,13,15,16,17,18] Z) Z Z Z Z (Zra Z (T.e 0 Z)) ?_;intro ac T
    refine l_q (v:=(.bool true)) (T.pick [0,1,2,3,4,5,6,7,8,9,10,11,12,13,14,15,17,18] Z) Z Z Z Z (Zra Z evc) ?_;intro ac T
    refine wpList_nil ?_
    refine nqR_n M ?_;clear M;intro wc M
    replace SAu3:=SAu3.pt
    replace SGu2:=SGu2.pt
    replace SI:=SI.pt
    replace SPu3:=SPu3.pt
    replace Sa:=Sa.pt
    replace Shu5:=Shu5.pt
    replace Sm:=Sm.pt
    replace Stu4:=Stu4.pt
    replace Sv:=Sv.pt
    replace Swu6:=Swu6.pt
    replace T:=T.pick [0,1,6,7,8,9,10,11,12,13,14,15,16,17] rfl
    refine Znb ?_
    refine nm_then ?_
    refine b_lone hP w fun T9=>?_
    replace M:=M.tp T9 0 0
    replace SAu3:=SAu3.tp T9 0
    replace SGu2:=SGu2.tp T9 0
    replace SI:=SI.tp T9 0
    replace SPu3:=SPu3.tp T9 0
    replace Sa:=Sa.tp T9 0
    replace Shu5:=Shu5.tp T9 0
    replace Sm:=Sm.tp T9 0
    replace Stu4:=Stu4.tp T9 0
    replace Sv:=Sv.tp T9 0
    replace Swu6:=Swu6.tp T9 0
    refine wp_region_lit ?_
    refine Zg2 T (Zq (Zrm Z (T.e 13 Z))) Z (fun _ T=>Zq (rn_add Z (T.e 0 Z) evc (by omega))) Z ?_;intro ac T
    refine l_q (v:=(Zi ((i:Int)+1))) (T.pick [0,1,2,3,4,5,6,7,8,9,10,11,12,13,14] Z) Z Z Z Z (Zra Z (T.e 0 Z)) ?_;intro ac T
    refine wpList_nil ?_
    refine nqR_n M ?_;clear M;intro wc M
    replace SAu3:=SAu3.pt
    replace SGu2:=SGu2.pt
    replace SI:=SI.pt
    replace SPu3:=SPu3.pt
    replace Sa:=Sa.pt
    replace Shu5:=Shu5.pt
    replace Sm:=Sm.pt
    replace Stu4:=Stu4.pt
    replace Sv:=Sv.pt
    replace Swu6:=Swu6.pt
    replace T:=T.pick [0,3,4,5,6,7,8,9,10,11,12,13,14,15] rfl
    refine nm_then ?_
    exact ⟨_,by omega,i+1,true,true,lv,lv,Av,Av,cv,cv,rfl,(by omega),(by rw [hsa9,hba];exact bst_yes (y2.1 (by omega)) (fun h9=>by first | omega | (simp_all;done))),(by rw [hsm9,hbm];exact bst_yes (by rcases Zx9 (prH lv) with h8 | h8;exact h8;exact absurd (y3.2 (by rw [h8];simp)) (by omega)) (fun h9=>by first | omega | (simp_all;done))),(by omega),(by omega),⟨_,_,hSv⟩,⟨_,_,hSv⟩,T.pick [3,4,5,6,7,8,9,10,11,12,2,13,1,0] rfl,M.mask [true] rfl⟩
   intro h7
   (have h7':=h7;try simp only [Zb1,Zb2,Zb3,Zb4,Zb5,Zb6,Zb7] at h7')
   refine wpB_skip hP ?_
   refine Znb ?_
   refine nm_then ?_
   refine b_lone hP w fun T9=>?_
   replace M:=M.tp T9 0 0
   replace SAu3:=SAu3.tp T9 0
   replace SGu2:=SGu2.tp T9 0
   replace SI:=SI.tp T9 0
   replace SPu3:=SPu3.tp T9 0
   replace Sa:=Sa.tp T9 0
   replace Shu5:=Shu5.tp T9 0
   replace Sm:=Sm.tp T9 0
   replace Stu4:=Stu4.tp T9 0
   replace Sv:=Sv.tp T9 0
   replace Swu6:=Swu6.tp T9 0
   refine wp_region_lit ?_
   refine Zg2 T (Zq (Zrm Z (T.e 13 Z))) Z (fun _ T=>Zq (rn_add Z (T.e 0 Z) evc (by omega))) Z ?_;intro ac T
   refine l_q (v:=(Zi ((i:Int)+1))) (T.pick [0,1,2,3,4,5,6,7,8,9,10,11,12,13,14,16] Z) Z Z Z Z (Zra Z (T.e 0 Z)) ?_;intro ac T
   refine wpList_nil ?_
   refine nqR_n M ?_;clear M;intro wc M
   replace SAu3:=SAu3.pt
   replace SGu2:=SGu2.pt
   replace SI:=SI.pt
   replace SPu3:=SPu3.pt
   replace Sa:=Sa.pt
   replace Shu5:=Shu5.pt
   replace Sm:=Sm.pt
   replace Stu4:=Stu4.pt
   replace Sv:=Sv.pt
   replace Swu6:=Swu6.pt
   replace T:=T.pick [0,3,4,5,6,7,8,9,10,11,12,13,14,15] rfl
   refine nm_then ?_
   exact ⟨_,by omega,i+1,true,fm,lv,sm,Av,Am,cv,cm,Z,(by omega),(by rw [hsa9,hba];exact bst_yes (y2.1 (by omega)) (fun h9=>by first | omega | (simp_all;done))),(by rw [hsm9,hbm];exact bst_no (fun h9=>by first | (exact absurd h9 (y3.1 (by omega))) | exact ⟨by assumption,by omega⟩ | (constructor <;> simp_all;done))),(by omega),(by omega),⟨_,_,hSv⟩,⟨_,_,hSm⟩,T.pick [1,2,3,4,5,6,7,8,9,10,11,12,13,0] Z,M.mask [true] Z⟩
  intro h4
  (have h4':=h4;try simp only [Zb1,Zb2,Zb3,Zb4,Zb5,Zb6,Zb7] at h4')
  refine wpB_skip hP ?_
  refine nm_then ?_
  refine cutB_seq hP (fun ac wc=>Tm ac 180 [(4,Zj g1),(7,.slice Apu3 pu3.length cpu3),(9,.slice Atu4 tL.length ctu4),(10,Zi (turnW tL)),(11,Zi tE),(12,.slice Ahu5 hL.length chu5),(13,Zi (turnW hL)),(14,Zi hE),(15,.slice Awu6 LWu6.length cwu6),(16,.slice Aa sa.length ca),(17,.slice Am sm.length cm),(18,.bool fa),(19,.bool fm),(20,Zi (i:Int)),(105,.bool ((!(decide (pv=2))) && ((!fm) || (decide ((turnW lv) < (turnW sm))))))]∧Mem w noEx wc ((g1,.cells [Zi bu2.full,Zi bu2.a0,Zi bu2.a1,.slice Abu2 bu2.cs.length cbu2,.slice Dbu2 bu2.ts.length dbu2])::(Ibu2++Ipu3++Itu4++Ihu5++Iwu6))) ?_ ?_
  ·refine b_lone hP w fun T9=>?_
   replace M:=M.tp T9 0 0
   replace SAu3:=SAu3.tp T9 0
   replace SGu2:=SGu2.tp T9 0
   replace SI:=SI.tp T9 0
   replace SPu3:=SPu3.tp T9 0
   replace Sa:=Sa.tp T9 0
   replace Shu5:=Shu5.tp T9 0
   replace Sm:=Sm.tp T9 0
   replace Stu4:=Stu4.tp T9 0
   replace Sv:=Sv.tp T9 0
   replace Swu6:=Swu6.tp T9 0
   refine wp_region_lit ?_
   refine Zg3 T (Zq (Zrm Z (T.e 14 Z))) Z (fun _ T=>Zq (rn_neq Z (T.e 0 Z) evc)) Z (Zm 0 Z Z) Z ?_;intro ac T
   rcases Zx9 (!(decide (pv=2))) with h8 | h8
   ·replace h8 : ¬ (pv=2):=by first | (rw [Bool.not_eq_true'] at h8;exact of_decide_eq_false h8) | simpa using h8
    refine Zg3 T (Zw (Zwy Z Z (T.e 0 Z) (by simp [h8])) (Zrm Z (T.e 15 Z))) Z (fun _ T=>Zw (Zwy Z Z (T.e 1 Z) (by simp [h8])) (rn_not Z (T.e 0 Z))) Z (fun _ T=>Zw (Zwy Z Z (T.e 2 Z) (by simp [h8])) (Zrm Z (T.e 0 Z))) Z ?_;intro ac T
    rcases Zx9 (!fm) with h9 | h9
    ·refine Zg8 T (Zp (Zwn Z Z (T.e 0 Z) h9)) Z (fun _ T=>Zp (Zwn Z Z (T.e 1 Z) h9)) Z (fun _ T=>Zp (Zwn Z Z (T.e 2 Z) h9)) Z (fun _ T=>Zp (Zwn Z Z (T.e 3 Z) h9)) Z (fun _ T=>Zp (Zwn Z Z (T.e 4 Z) h9)) Z (fun _ T=>Zp (Zwn Z Z (T.e 5 Z) h9)) Z (fun _ T=>Zp (Zwn Z Z (T.e 6 Z) h9)) Z (fun _ T=>Zp (Zwn Z Z (T.e 7 Z) h9)) Z ?_;intro ac T
     refine Zg2 T (Zw (Zwy Z Z (T.e 11 Z) (by simp [h8])) (Zr1 Z (T.e 8 Z) h9 evc)) Z (fun _ T=>Zq (Zr1 Z (T.e 12 Z) (by simp [h8]) (T.e 0 Z))) Z ?_;intro ac T
     refine wpList_nil ?_
     refine nqR_n M ?_;clear M;intro wc M
     replace SAu3:=SAu3.pt
     replace SGu2:=SGu2.pt
     replace SI:=SI.pt
     replace SPu3:=SPu3.pt
     replace Sa:=Sa.pt
     replace Shu5:=Shu5.pt
     replace Sm:=Sm.pt
     replace Stu4:=Stu4.pt
     replace Sv:=Sv.pt
     replace Swu6:=Swu6.pt
     replace T:=T.pick [0,1,2,3,4,5,6,7,8,9,10,11,12,16,17,18,19,20,21,22,23,24,25,26,27,28,29] rfl
     exact ⟨(T.pick (E':=[(4,Zj g1),(7,.slice Apu3 pu3.length cpu3),(9,.slice Atu4 tL.length ctu4),(10,Zi (turnW tL)),(11,Zi tE),(12,.slice Ahu5 hL.length chu5),(13,Zi (turnW hL)),(14,Zi hE),(15,.slice Awu6 LWu6.length cwu6),(16,.slice Aa sa.length ca),(17,.slice Am sm.length cm),(18,.bool fa),(19,.bool fm),(20,Zi (i:Int)),(105,.bool true)]) [13,14,15,16,17,18,19,20,21,22,23,24,25,26,0] Z).as (by (try rw [show (!(decide (pv=2)))=true from (by simp [h8])]);(try rw [show (!fm)=true from h9]);(try rfl)),M.mask [true] Z⟩
    refine Zg4 (v4:=(.slice Av lv.length cv)) T (Zw (Zwy Z Z (T.e 0 Z) h9) (Zrm Z (T.e 14 Z))) Z (fun _ T=>Zw (Zwy Z Z (T.e 1 Z) h9) (Zrm Z (T.e 20 Z))) Z (fun _ T=>Zw (Zwy Z Z (T.e 2 Z) h9) (Zri (size:=1) i Z (T.e 1 Z) (T.e 0 Z) ⟨_,Try.underlying54,by kernel_rfl⟩ Z (by omega) (Swu6.at0 (by omega)))) Z (fun _ T=>Zw (Zwy Z Z (T.e 3 Z) h9) (rn_cell (Sp.lc0 Swu6 M (.cons _ (Zsq _ _)) hkv) Z (T.e 0 Z))) Z ?_;intro ac T
    refine l_w (Zwy Z Z (T.e 4 Z) h9) ?_;intro K hK
    refine Zod T Z Z Z Z evf (.cons (T.e 0 Z) .nil) Try.func51 Z Z ?_
    refine Calls.mono (turnsOf4_any Av cv lv _ (Sv.rd M (.cons _ (Zsq _ _))) (by omega)) ?_
    clear T;rintro e wc ⟨rfl,hb⟩ ac T
    replace M:=M.call hb;clear hb
    refine Zso hK _ _ ?_;clear hK K
    refine lw T (Zwy Z Z (T.e 5 Z) h9) (Zrm Z (T.e 21 Z)) ?_;intro ac T
    refine l_w (Zwy Z Z (T.e 6 Z) h9) ?_;intro K hK
    refine Zod T Z Z Z Z evf (.cons (T.e 0 Z) .nil) Try.func51 Z Z ?_
    refine Calls.mono (turnsOf4_any Am cm sm _ (Sm.rd M (.cons _ (Zsq _ _))) (by omega)) ?_
    clear T;rintro e wc ⟨rfl,hb⟩ ac T
    replace M:=M.call hb;clear hb
    refine Zso hK _ _ ?_;clear hK K
    refine Zg3 T (Zw (Zwy Z Z (T.e 7 Z) h9) (rn_lss Z (T.e 2 Z) (T.e 0 Z))) Z (fun _ T=>Zw (Zwy Z Z (T.e 11 Z) (by simp [h8])) (Zr0 Z (T.e 8 Z) h9 (T.e 0 Z))) Z (fun _ T=>Zq (Zr1 Z (T.e 12 Z) (by simp [h8]) (T.e 0 Z))) Z ?_;intro ac T
    refine wpList_nil ?_
    refine nqR_n M ?_;clear M;intro wc M
    replace SAu3:=SAu3.pt
    replace SGu2:=SGu2.pt
    replace SI:=SI.pt
    replace SPu3:=SPu3.pt
    replace Sa:=Sa.pt
    replace Shu5:=Shu5.pt
    replace Sm:=Sm.pt
    replace Stu4:=Stu4.pt
    replace Sv:=Sv.pt
    replace Swu6:=Swu6.pt
    replace T:=T.pick [0,1,2,3,4,5,6,7,8,9,10,11,12,16,17,18,19,20,21,22,23,24,25,26,27,28,29] rfl
    exact ⟨(T.pick (E':=[(4,Zj g1),(7,.slice Apu3 pu3.length cpu3),(9,.slice Atu4 tL.length ctu4),(10,Zi (turnW tL)),(11,Zi tE),(12,.slice Ahu5 hL.length chu5),(13,Zi (turnW hL)),(14,Zi hE),(15,.slice Awu6 LWu6.length cwu6),(16,.slice Aa sa.length ca),(17,.slice Am sm.length cm),(18,.bool fa),(19,.bool fm),(20,Zi (i:Int)),(105,.bool (decide ((turnW lv) < (turnW sm))))]) [13,14,15,16,17,18,19,20,21,22,23,24,25,26,0] Z).as (by (try rw [show (!(decide (pv=2)))=true from (by simp [h8])]);(try rw [show (!fm)=false from h9]);(try rfl)),M.mask [true] Z⟩
   replace h8:pv=2:=by first | (rw [Bool.not_eq_false'] at h8;exact of_decide_eq_true h8) | simpa using h8
   refine Zg8 T (Zp (Zwn Z Z (T.e 0 Z) (by simp [h8]))) Z (fun _ T=>Zp (Zwn Z Z (T.e 1 Z) (by simp [h8]))) Z (fun _ T=>Zp (Zwn Z Z (T.e 2 Z) (by simp [h8]))) Z (fun _ T=>Zp (Zwu Z Z (T.e 0 Z))) Z (fun _ T=>Zp (Zwu Z Z (T.e 1 Z))) Z (fun _ T=>Zp (Zwu Z Z (T.e 2 Z))) Z (fun _ T=>Zp (Zwu Z Z (T.e 3 Z))) Z (fun _ T=>Zp (Zwu Z Z (T.e 4 Z))) Z ?_;intro ac T
   refine Zg5 T (Zp (Zwu Z Z (T.e 5 Z))) Z (fun _ T=>Zp (Zwu Z Z (T.e 6 Z))) Z (fun _ T=>Zp (Zwu Z Z (T.e 7 Z))) Z (fun _ T=>Zp (Zwn Z Z (T.e 11 Z) (by simp [h8]))) Z (fun _ T=>Zq (Zr0 Z (T.e 12 Z) (by simp [h8]) evc)) Z ?_;intro ac T
   refine wpList_nil ?_
   refine nqR_n M ?_;clear M;intro wc M
   replace SAu3:=SAu3.pt
   replace SGu2:=SGu2.pt
   replace SI:=SI.pt
   replace SPu3:=SPu3.pt
   replace Sa:=Sa.pt
   replace Shu5:=Shu5.pt
   replace Sm:=Sm.pt
   replace Stu4:=Stu4.pt
   replace Sv:=Sv.pt
   replace Swu6:=Swu6.pt
   replace T:=T.pick [0,1,2,3,4,5,6,7,8,9,10,11,12,16,17,18,19,20,21,22,23,24,25,26,27,28,29] rfl
   exact ⟨(T.pick (E':=[(4,Zj g1),(7,.slice Apu3 pu3.length cpu3),(9,.slice Atu4 tL.length ctu4),(10,Zi (turnW tL)),(11,Zi tE),(12,.slice Ahu5 hL.length chu5),(13,Zi (turnW hL)),(14,Zi hE),(15,.slice Awu6 LWu6.length cwu6),(16,.slice Aa sa.length ca),(17,.slice Am sm.length cm),(18,.bool fa),(19,.bool fm),(20,Zi (i:Int)),(105,.bool false)]) [13,14,15,16,17,18,19,20,21,22,23,24,25,26,0] Z).as (by (try rw [show (!(decide (pv=2)))=false from (by simp [h8])]);(try rfl)),M.mask [true] Z⟩
  clear T M
  rintro ac wc ⟨T,M⟩
  refine wB_cond_split hP (T.e 14 Z) ?_ ?_
  ·intro h10
   (have h10':=h10;try simp only [Zb1,Zb2,Zb3,Zb4,Zb5,Zb6,Zb7] at h10')
   refine b_lone hP w fun T9=>?_
   replace M:=M.tp T9 0 0
   replace SAu3:=SAu3.tp T9 0
   replace SGu2:=SGu2.tp T9 0
   replace SI:=SI.tp T9 0
   replace SPu3:=SPu3.tp T9 0
   replace Sa:=Sa.tp T9 0
   replace Shu5:=Shu5.tp T9 0
   replace Sm:=Sm.tp T9 0
   replace Stu4:=Stu4.tp T9 0
   replace Sv:=Sv.tp T9 0
   replace Swu6:=Swu6.tp T9 0
   refine wp_region_lit ?_
   refine Zg4 (v4:=(.slice Av lv.length cv)) T (Zq (Zrm Z (T.e 8 Z))) Z (Zm 14 Z Z) Z (fun _ T=>Zq (Zri (size:=1) i Z (T.e 1 Z) (T.e 0 Z) ⟨_,Try.underlying54,by kernel_rfl⟩ Z (by omega) (Swu6.at0 (by omega)))) Z (fun _ T=>Zq (rn_cell (Sp.lc0 Swu6 M (.cons _ (Zsq _ _)) hkv) Z (T.e 0 Z))) Z ?_;intro ac T
   refine l_q (v:=(.slice Av lv.length cv)) (T.pick [0,1,2,3,4,5,6,7,8,9,10,11,12,13,15,16,17,18] Z) Z Z Z Z (Zra Z (T.e 0 Z)) ?_;intro ac T
   refine l_q (v:=(.bool true)) (T.pick [0,1,2,3,4,5,6,7,8,9,10,11,12,13,14,15,17,18] Z) Z Z Z Z (Zra Z evc) ?_;intro ac T
   refine wpList_nil ?_
   refine nqR_n M ?_;clear M;intro wc M
   replace SAu3:=SAu3.pt
   replace SGu2:=SGu2.pt
   replace SI:=SI.pt
   replace SPu3:=SPu3.pt
   replace Sa:=Sa.pt
   replace Shu5:=Shu5.pt
   replace Sm:=Sm.pt
   replace Stu4:=Stu4.pt
   replace Sv:=Sv.pt
   replace Swu6:=Swu6.pt
   replace T:=T.pick [0,1,6,7,8,9,10,11,12,13,14,15,16,17] rfl
   refine Znb ?_
   refine nm_then ?_
   refine b_lone hP w fun T9=>?_
   replace M:=M.tp T9 0 0
   replace SAu3:=SAu3.tp T9 0
   replace SGu2:=SGu2.tp T9 0
   replace SI:=SI.tp T9 0
   replace SPu3:=SPu3.tp T9 0
   replace Sa:=Sa.tp T9 0
   replace Shu5:=Shu5.tp T9 0
   replace Sm:=Sm.tp T9 0
   replace Stu4:=Stu4.tp T9 0
   replace Sv:=Sv.tp T9 0
   replace Swu6:=Swu6.tp T9 0
   refine wp_region_lit ?_
   refine Zg2 T (Zq (Zrm Z (T.e 13 Z))) Z (fun _ T=>Zq (rn_add Z (T.e 0 Z) evc (by omega))) Z ?_;intro ac T
   refine l_q (v:=(Zi ((i:Int)+1))) (T.pick [0,1,2,3,4,5,6,7,8,9,10,11,12,13,14] Z) Z Z Z Z (Zra Z (T.e 0 Z)) ?_;intro ac T
   refine wpList_nil ?_
   refine nqR_n M ?_;clear M;intro wc M
   replace SAu3:=SAu3.pt
   replace SGu2:=SGu2.pt
   replace SI:=SI.pt
   replace SPu3:=SPu3.pt
   replace Sa:=Sa.pt
   replace Shu5:=Shu5.pt
   replace Sm:=Sm.pt
   replace Stu4:=Stu4.pt
   replace Sv:=Sv.pt
   replace Swu6:=Swu6.pt
   replace T:=T.pick [0,3,4,5,6,7,8,9,10,11,12,13,14,15] rfl
   refine nm_then ?_
   exact ⟨_,by omega,i+1,fa,true,sa,lv,Aa,Av,ca,cv,rfl,(by omega),(by rw [hsa9,hba];exact bst_no (fun h9=>by first | (exact absurd (y2.2 h9) (by omega)) | exact ⟨by assumption,by omega⟩ | (constructor <;> simp_all;done))),(by rw [hsm9,hbm];exact bst_yes (by rcases Zx9 (prH lv) with h8 | h8;exact h8;exact absurd (y3.2 (by rw [h8];simp)) (by omega)) (fun h9=>by first | omega | (simp_all;done))),(by omega),(by omega),⟨_,_,hSa⟩,⟨_,_,hSv⟩,T.pick [3,4,5,6,7,8,9,10,11,12,2,13,1,0] rfl,M.mask [true] rfl⟩
  intro h10
  (have h10':=h10;try simp only [Zb1,Zb2,Zb3,Zb4,Zb5,Zb6,Zb7] at h10')
  refine wpB_skip hP ?_
  refine Znb ?_
  refine nm_then ?_
  refine b_lone hP w fun T9=>?_
  replace M:=M.tp T9 0 0
  replace SAu3:=SAu3.tp T9 0
  replace SGu2:=SGu2.tp T9 0
  replace SI:=SI.tp T9 0
  replace SPu3:=SPu3.tp T9 0
  replace Sa:=Sa.tp T9 0
  replace Shu5:=Shu5.tp T9 0
  replace Sm:=Sm.tp T9 0
  replace Stu4:=Stu4.tp T9 0
  replace Sv:=Sv.tp T9 0
  replace Swu6:=Swu6.tp T9 0
  refine wp_region_lit ?_
  refine Zg2 T (Zq (Zrm Z (T.e 13 Z))) Z (fun _ T=>Zq (rn_add Z (T.e 0 Z) evc (by omega))) Z ?_;intro ac T
  refine l_q (v:=(Zi ((i:Int)+1))) (T.pick [0,1,2,3,4,5,6,7,8,9,10,11,12,13,14,16] Z) Z Z Z Z (Zra Z (T.e 0 Z)) ?_;intro ac T
  refine wpList_nil ?_
  refine nqR_n M ?_;clear M;intro wc M
  replace SAu3:=SAu3.pt
  replace SGu2:=SGu2.pt
  replace SI:=SI.pt
  replace SPu3:=SPu3.pt
  replace Sa:=Sa.pt
  replace Shu5:=Shu5.pt
  replace Sm:=Sm.pt
  replace Stu4:=Stu4.pt
  replace Sv:=Sv.pt
  replace Swu6:=Swu6.pt
  replace T:=T.pick [0,3,4,5,6,7,8,9,10,11,12,13,14,15] rfl
  refine nm_then ?_
  exact ⟨_,by omega,i+1,fa,fm,sa,sm,Aa,Am,ca,cm,Z,(by omega),(by rw [hsa9,hba];exact bst_no (fun h9=>by first | (exact absurd (y2.2 h9) (by omega)) | exact ⟨by assumption,by omega⟩ | (constructor <;> simp_all;done))),(by rw [hsm9,hbm];exact bst_no (fun h9=>by first | (exact absurd h9 (y3.1 (by omega))) | exact ⟨by assumption,by omega⟩ | (constructor <;> simp_all;done))),(by omega),(by omega),⟨_,_,hSa⟩,⟨_,_,hSm⟩,T.pick [1,2,3,4,5,6,7,8,9,10,11,12,13,0] Z,M.mask [true] Z⟩
 intro h1
 rw [List.take_of_length_le (by omega)] at hba hbm
 have ka0:fa=false→tE=11∧tL.length=0:=fun h9=>by rw [h9] at hba;have h8:=z2 hba;exact ⟨h8.1,by rw [h8.2];rfl⟩
 have ka1:fa=true→tE=0∧tL=sa:=fun h9=>by rw [h9] at hba;exact z3 sa hba
 have km0:fm=false→hE=11∧hL.length=0:=fun h9=>by rw [h9] at hbm;have h8:=z4 hbm;exact ⟨h8.1,by rw [h8.2];rfl⟩
 have km1:fm=true→hE=0∧hL=sm:=fun h9=>by rw [h9] at hbm;exact z5 sm hbm
 have kt:fa=true→turnW hL≤turnW tL:=fun h9=>by have h8:=ka1 h9;rw [h9] at hba;obtain ⟨m9,e9,l9⟩:=z6 sa hba;rw [(z5 m9 e9).2,h8.2];exact l9
 refine wpB_exit hP ?_
 refine Zet ?_
 refine Zet ?_
 refine ex_hit ?_
 refine nm_then ?_
 refine wpB_seq hP ?_
 refine cutB_seq hP (fun ac wc=>Tm ac 180 [(10,Zi (turnW tL)),(12,.slice Ahu5 hL.length chu5),(13,Zi (turnW hL)),(14,Zi hE),(17,.slice Am sm.length cm),(18,.bool fa),(19,.bool fm),(139,.bool (bif (!fa) then ((!(decide (tE=11))) || ((decide (0 < ((tL.length:Nat):Int))) || (fa && ((!(decide (tE=0))) || (!(decide ((turnW tL)=(turnW sa)))))))) else (fa && ((!(decide (tE=0))) || (!(decide ((turnW tL)=(turnW sa))))))))]∧Mem w noEx wc ((Ibu2++Ipu3++Itu4++Ihu5++Iwu6))) ?_ ?_
 ·refine b_lone hP w fun T9=>?_
  replace M:=M.tp T9 0 0
  replace SAu3:=SAu3.tp T9 0
  replace SGu2:=SGu2.tp T9 0
  replace SI:=SI.tp T9 0
  replace SPu3:=SPu3.tp T9 0
  replace Sa:=Sa.tp T9 0
  replace Shu5:=Shu5.tp T9 0
  replace Sm:=Sm.tp T9 0
  replace Stu4:=Stu4.tp T9 0
  replace Swu6:=Swu6.tp T9 0
  refine wp_region_lit ?_
  refine Zg3 T (Zq (Zrm Z (T.e 12 Z))) Z (fun _ T=>Zq (rn_not Z (T.e 0 Z))) Z (Zm 0 Z Z) Z ?_;intro ac T
  rcases Zx9 (!fa) with h11 | h11
  ·refine Zg3 T (Zw (Zwy Z Z (T.e 0 Z) h11) (Zrm Z (T.e 8 Z))) Z (fun _ T=>Zw (Zwy Z Z (T.e 1 Z) h11) (rn_neq Z (T.e 0 Z) evc)) Z (fun _ T=>Zw (Zwy Z Z (T.e 2 Z) h11) (Zrm Z (T.e 0 Z))) Z ?_;intro ac T
   rcases Zx9 (!(decide (tE=11))) with h12 | h12
   ·replace h12 : ¬ (tE=11):=by first | (rw [Bool.not_eq_true'] at h12;exact of_decide_eq_false h12) | simpa using h12
    refine Zg8 T (Zp (Zwn Z Z (T.e 0 Z) (by simp [h12]))) Z (fun _ T=>Zp (Zwn Z Z (T.e 1 Z) (by simp [h12]))) Z (fun _ T=>Zp (Zwn Z Z (T.e 2 Z) (by simp [h12]))) Z (fun _ T=>Zw (Zwy Z Z (T.e 6 Z) h11) (Zr1 Z (T.e 3 Z) (by simp [h12]) evc)) Z (fun _ T=>Zq (Zr1 Z (T.e 7 Z) h11 (T.e 0 Z))) Z (Zm 0 Z Z) Z (fun _ T=>Zp (Zwn Z Z (T.e 0 Z) Z)) Z (fun _ T=>Zp (Zwn Z Z (T.e 1 Z) Z)) Z ?_;intro ac T
    refine Zg8 T (Zp (Zwu Z Z (T.e 0 Z))) Z (fun _ T=>Zp (Zwu Z Z (T.e 1 Z))) Z (fun _ T=>Zp (Zwu Z Z (T.e 2 Z))) Z (fun _ T=>Zp (Zwu Z Z (T.e 0 Z))) Z (fun _ T=>Zp (Zwu Z Z (T.e 1 Z))) Z (fun _ T=>Zp (Zwu Z Z (T.e 2 Z))) Z (fun _ T=>Zp (Zwu Z Z (T.e 3 Z))) Z (fun _ T=>Zp (Zwu Z Z (T.e 7 Z))) Z ?_;intro ac T
    refine Zg8 T (Zp (Zwu Z Z (T.e 8 Z))) Z (fun _ T=>Zp (Zwu Z Z (T.e 0 Z))) Z (fun _ T=>Zp (Zwu Z Z (T.e 1 Z))) Z (fun _ T=>Zp (Zwu Z Z (T.e 2 Z))) Z (fun _ T=>Zp (Zwu Z Z (T.e 3 Z))) Z (fun _ T=>Zp (Zwu Z Z (T.e 13 Z))) Z (fun _ T=>Zp (Zwn Z Z (T.e 16 Z) Z)) Z (fun _ T=>Zq (Zr1 Z (T.e 17 Z) Z evc)) Z ?_;intro ac T
    refine wpList_nil ?_
    refine nqR_n M ?_;clear M;intro wc M
    replace SAu3:=SAu3.pt
    replace SGu2:=SGu2.pt
    replace SI:=SI.pt
    replace SPu3:=SPu3.pt
    replace Sa:=Sa.pt
    replace Shu5:=Shu5.pt
    replace Sm:=Sm.pt
    replace Stu4:=Stu4.pt
    replace Swu6:=Swu6.pt
    replace T:=T.pick [0,34,36,37,38,41,42,43] rfl
    replace M:=M.mask [false] rfl
    replace M:Mem w noEx wc ((Ibu2++Ipu3++Itu4++Ihu5++Iwu6)):=M
    exact ⟨(T.pick (E':=[(10,Zi (turnW tL)),(12,.slice Ahu5 hL.length chu5),(13,Zi (turnW hL)),(14,Zi hE),(17,.slice Am sm.length cm),(18,.bool fa),(19,.bool fm),(139,.bool true)]) [1,2,3,4,5,6,7,0] Z).as (by (try rw [show (!fa)=true from h11]);(try rw [show (!(decide (tE=11)))=true from (by simp [h12])]);(try rfl)),M.mask [] Z⟩
   replace h12:tE=11:=by first | (rw [Bool.not_eq_false'] at h12;exact of_decide_eq_true h12) | simpa using h12
   refine Zg6 T (Zw (Zwy Z Z (T.e 0 Z) (by simp [h12])) (Zrm Z (T.e 9 Z))) Z (fun _ T=>Zw (Zwy Z Z (T.e 1 Z) (by simp [h12])) (Zrl Z Try.underlying28 (T.e 0 Z))) Z (fun _ T=>Zw (Zwy Z Z (T.e 2 Z) (by simp [h12])) (rn_gtr Z (T.e 0 Z) evc)) Z (fun _ T=>Zw (Zwy Z Z (T.e 6 Z) h11) (Zr0 Z (T.e 3 Z) (by simp [h12]) (T.e 0 Z))) Z (fun _ T=>Zq (Zr1 Z (T.e 7 Z) h11 (T.e 0 Z))) Z (Zm 0 Z Z) Z ?_;intro ac T
   rcases Zx9 (decide (0 < ((tL.length:Nat):Int))) with h13 | h13
   ·replace h13:=of_decide_eq_true h13
    refine Zg8 T (Zp (Zwn Z Z (T.e 0 Z) (Zdt h13))) Z (fun _ T=>Zp (Zwn Z Z (T.e 1 Z) (Zdt h13))) Z (fun _ T=>Zp (Zwu Z Z (T.e 0 Z))) Z (fun _ T=>Zp (Zwu Z Z (T.e 1 Z))) Z (fun _ T=>Zp (Zwu Z Z (T.e 2 Z))) Z (fun _ T=>Zp (Zwu Z Z (T.e 0 Z))) Z (fun _ T=>Zp (Zwu Z Z (T.e 1 Z))) Z (fun _ T=>Zp (Zwu Z Z (T.e 2 Z))) Z ?_;intro ac T
    refine Zg8 T (Zp (Zwu Z Z (T.e 3 Z))) Z (fun _ T=>Zp (Zwu Z Z (T.e 7 Z))) Z (fun _ T=>Zp (Zwu Z Z (T.e 8 Z))) Z (fun _ T=>Zp (Zwu Z Z (T.e 0 Z))) Z (fun _ T=>Zp (Zwu Z Z (T.e 1 Z))) Z (fun _ T=>Zp (Zwu Z Z (T.e 2 Z))) Z (fun _ T=>Zp (Zwu Z Z (T.e 3 Z))) Z (fun _ T=>Zp (Zwu Z Z (T.e 13 Z))) Z ?_;intro ac T
    refine Zg2 T (Zp (Zwn Z Z (T.e 16 Z) (Zdt h13))) Z (fun _ T=>Zq (Zr1 Z (T.e 17 Z) (Zdt h13) evc)) Z ?_;intro ac T
    refine wpList_nil ?_
    refine nqR_n M ?_;clear M;intro wc M
    replace SAu3:=SAu3.pt
    replace SGu2:=SGu2.pt
    replace SI:=SI.pt
    replace SPu3:=SPu3.pt
    replace Sa:=Sa.pt
    replace Shu5:=Shu5.pt
    replace Sm:=Sm.pt
    replace Stu4:=Stu4.pt
    replace Swu6:=Swu6.pt
    replace T:=T.pick [0,34,36,37,38,41,42,43] rfl
    replace M:=M.mask [false] rfl
    replace M:Mem w noEx wc ((Ibu2++Ipu3++Itu4++Ihu5++Iwu6)):=M
    exact ⟨(T.pick (E':=[(10,Zi (turnW tL)),(12,.slice Ahu5 hL.length chu5),(13,Zi (turnW hL)),(14,Zi hE),(17,.slice Am sm.length cm),(18,.bool fa),(19,.bool fm),(139,.bool true)]) [1,2,3,4,5,6,7,0] Z).as (by (try rw [show (!fa)=true from h11]);(try rw [show (!(decide (tE=11)))=false from (by simp [h12])]);(try rw [show (decide (0 < ((tL.length:Nat):Int)))=true from (Zdt h13)]);(try rfl)),M.mask [] Z⟩
   replace h13:=of_decide_eq_false h13
   refine Zg2 T (Zw (Zwy Z Z (T.e 0 Z) (Zdf h13)) (Zrm Z (T.e 24 Z))) Z (fun _ T=>Zw (Zwy Z Z (T.e 1 Z) (Zdf h13)) (Zrm Z (T.e 0 Z))) Z ?_;intro ac T
   rcases Zx9 fa with h14 | h14
   ·refine Zg3 T (Zw (Zwy Z Z (T.e 0 Z) h14) (Zrm Z (T.e 19 Z))) Z (fun _ T=>Zw (Zwy Z Z (T.e 1 Z) h14) (rn_neq Z (T.e 0 Z) evc)) Z (fun _ T=>Zw (Zwy Z Z (T.e 2 Z) h14) (Zrm Z (T.e 0 Z))) Z ?_;intro ac T
    rcases Zx9 (!(decide (tE=0))) with h15 | h15
    ·replace h15 : ¬ (tE=0):=by first | (rw [Bool.not_eq_true'] at h15;exact of_decide_eq_false h15) | simpa using h15
     refine Zg8 T (Zp (Zwn Z Z (T.e 0 Z) (by simp [h15]))) Z (fun _ T=>Zp (Zwn Z Z (T.e 1 Z) (by simp [h15]))) Z (fun _ T=>Zp (Zwn Z Z (T.e 2 Z) (by simp [h15]))) Z (fun _ T=>Zp (Zwn Z Z (T.e 3 Z) (by simp [h15]))) Z (fun _ T=>Zw (Zwy Z Z (T.e 7 Z) h14) (Zr1 Z (T.e 4 Z) (by simp [h15]) evc)) Z (fun _ T=>Zw (Zwy Z Z (T.e 8 Z) h14) (Zrm Z (T.e 0 Z))) Z (fun _ T=>Zp (Zwn Z Z (T.e 0 Z) Z)) Z (fun _ T=>Zp (Zwn Z Z (T.e 1 Z) Z)) Z ?_;intro ac T
     refine Zg5 T (Zp (Zwn Z Z (T.e 2 Z) Z)) Z (fun _ T=>Zp (Zwn Z Z (T.e 3 Z) Z)) Z (fun _ T=>Zw (Zwy Z Z (T.e 13 Z) h14) (Zr1 Z (T.e 4 Z) Z evc)) Z (fun _ T=>Zw (Zwy Z Z (T.e 16 Z) (Zdf h13)) (Zr1 Z (T.e 14 Z) h14 (T.e 0 Z))) Z (fun _ T=>Zq (Zr0 Z (T.e 17 Z) (Zdf h13) (T.e 0 Z))) Z ?_;intro ac T
     refine wpList_nil ?_
     refine nqR_n M ?_;clear M;intro wc M
     replace SAu3:=SAu3.pt
     replace SGu2:=SGu2.pt
     replace SI:=SI.pt
     replace SPu3:=SPu3.pt
     replace Sa:=Sa.pt
     replace Shu5:=Shu5.pt
     replace Sm:=Sm.pt
     replace Stu4:=Stu4.pt
     replace Swu6:=Swu6.pt
     replace T:=T.pick [0,34,36,37,38,41,42,43] rfl
     replace M:=M.mask [false] rfl
     replace M:Mem w noEx wc ((Ibu2++Ipu3++Itu4++Ihu5++Iwu6)):=M
     exact ⟨(T.pick (E':=[(10,Zi (turnW tL)),(12,.slice Ahu5 hL.length chu5),(13,Zi (turnW hL)),(14,Zi hE),(17,.slice Am sm.length cm),(18,.bool fa),(19,.bool fm),(139,.bool true)]) [1,2,3,4,5,6,7,0] Z).as (by (try rw [show (!fa)=true from h11]);(try rw [show (!(decide (tE=11)))=false from (by simp [h12])]);(try rw [show (decide (0 < ((tL.length:Nat):Int)))=false from (Zdf h13)]);(try rw [show fa=true from h14]);(try rw [show (!(decide (tE=0)))=true from (by simp [h15])]);(try rfl)),M.mask [] Z⟩
    replace h15:tE=0:=by first | (rw [Bool.not_eq_false'] at h15;exact of_decide_eq_true h15) | simpa using h15
    refine Zg2 T (Zw (Zwy Z Z (T.e 0 Z) (by simp [h15])) (Zrm Z (T.e 21 Z))) Z (fun _ T=>Zw (Zwy Z Z (T.e 1 Z) (by simp [h15])) (Zrm Z (T.e 28 Z))) Z ?_;intro ac T
    refine l_w (Zwy Z Z (T.e 2 Z) (by simp [h15])) ?_;intro K hK
    refine Zod T Z Z Z Z evf (.cons (T.e 0 Z) .nil) Try.func51 Z Z ?_
    refine Calls.mono (turnsOf4_any Aa ca sa _ (Sa.rd M (.cons _ (Zsq _ _))) (by omega)) ?_
    clear T;rintro e wc ⟨rfl,hb⟩ ac T
    replace M:=M.call hb;clear hb
    refine Zso hK _ _ ?_;clear hK K
    refine Zg3 T (Zw (Zwy Z Z (T.e 3 Z) (by simp [h15])) (rn_neq Z (T.e 2 Z) (T.e 0 Z))) Z (fun _ T=>Zw (Zwy Z Z (T.e 7 Z) h14) (Zr0 Z (T.e 4 Z) (by simp [h15]) (T.e 0 Z))) Z (fun _ T=>Zw (Zwy Z Z (T.e 8 Z) h14) (Zrm Z (T.e 0 Z))) Z ?_;intro ac T
    rcases Zx9 (!(decide ((turnW tL)=(turnW sa)))) with h16 | h16
    ·replace h16 : ¬ ((turnW tL)=(turnW sa)):=by first | (rw [Bool.not_eq_true'] at h16;exact of_decide_eq_false h16) | simpa using h16
     refine Zg7 T (Zp (Zwn Z Z (T.e 0 Z) (by simp [h16]))) Z (fun _ T=>Zp (Zwn Z Z (T.e 1 Z) (by simp [h16]))) Z (fun _ T=>Zp (Zwn Z Z (T.e 2 Z) (by simp [h16]))) Z (fun _ T=>Zp (Zwn Z Z (T.e 3 Z) (by simp [h16]))) Z (fun _ T=>Zw (Zwy Z Z (T.e 13 Z) h14) (Zr1 Z (T.e 4 Z) (by simp [h16]) evc)) Z (fun _ T=>Zw (Zwy Z Z (T.e 16 Z) (Zdf h13)) (Zr1 Z (T.e 14 Z) h14 (T.e 0 Z))) Z (fun _ T=>Zq (Zr0 Z (T.e 17 Z) (Zdf h13) (T.e 0 Z))) Z ?_;intro ac T
     refine wpList_nil ?_
     refine nqR_n M ?_;clear M;intro wc M
     replace SAu3:=SAu3.pt
     replace SGu2:=SGu2.pt
     replace SI:=SI.pt
     replace SPu3:=SPu3.pt
     replace Sa:=Sa.pt
     replace Shu5:=Shu5.pt
     replace Sm:=Sm.pt
     replace Stu4:=Stu4.pt
     replace Swu6:=Swu6.pt
     replace T:=T.pick [0,34,36,37,38,41,42,43] rfl
     replace M:=M.mask [false] rfl
     replace M:Mem w noEx wc ((Ibu2++Ipu3++Itu4++Ihu5++Iwu6)):=M
     exact ⟨(T.pick (E':=[(10,Zi (turnW tL)),(12,.slice Ahu5 hL.length chu5),(13,Zi (turnW hL)),(14,Zi hE),(17,.slice Am sm.length cm),(18,.bool fa),(19,.bool fm),(139,.bool true)]) [1,2,3,4,5,6,7,0] Z).as (by (try rw [show (!fa)=true from h11]);(try rw [show (!(decide (tE=11)))=false from (by simp [h12])]);(try rw [show (decide (0 < ((tL.length:Nat):Int)))=false from (Zdf h13)]);(try rw [show fa=true from h14]);(try rw [show (!(decide (tE=0)))=false from (by simp [h15])]);(try rw [show (!(decide ((turnW tL)=(turnW sa))))=true from (by simp [h16])]);(try rfl)),M.mask [] Z⟩
    replace h16:(turnW tL)=(turnW sa):=by first | (rw [Bool.not_eq_false'] at h16;exact of_decide_eq_true h16) | simpa using h16
    refine Zg2 T (Zw (Zwy Z Z (T.e 0 Z) (by simp [h16])) (Zrm Z (T.e 26 Z))) Z (fun _ T=>Zw (Zwy Z Z (T.e 1 Z) (by simp [h16])) (Zrm Z (T.e 34 Z))) Z ?_;intro ac T
    refine l_w (Zwy Z Z (T.e 2 Z) (by simp [h16])) ?_;intro K hK
    have es9:tL=sa:=(ka1 (by assumption)).2
    have el9:tL.length=sa.length:=by rw [es9]
    refine Zod T Z Z Z Z evf (.cons (T.e 1 Z) (.cons (T.e 0 Z) .nil)) Try.func31 Z Z ?_
    refine Calls.mono (sameInts_same _ _ _ sa.length _ _ tL _ (Stu4.rd M (.cons _ (subL (subL (Zsq _ _))))) (by rw [es9];exact Sa.rd M (.cons _ (Zsq _ _))) (by omega) (by omega)) ?_
    clear T;rintro e wc ⟨rfl,hb⟩ ac T
    replace M:=M.call hb;clear hb
    refine Zso hK _ _ ?_;clear hK K
    refine Zg4 (v1:=(.bool false)) T (Zw (Zwy Z Z (T.e 3 Z) (by simp [h16])) (Zrq (rn_not Z (T.e 0 Z)) (by simp))) Z (fun _ T=>Zw (Zwy Z Z (T.e 13 Z) h14) (Zr0 Z (T.e 4 Z) (by simp [h16]) (T.e 0 Z))) Z (fun _ T=>Zw (Zwy Z Z (T.e 16 Z) (Zdf h13)) (Zr1 Z (T.e 14 Z) h14 (T.e 0 Z))) Z (fun _ T=>Zq (Zr0 Z (T.e 17 Z) (Zdf h13) (T.e 0 Z))) Z ?_;intro ac T
    refine wpList_nil ?_
    refine nqR_n M ?_;clear M;intro wc M
    replace SAu3:=SAu3.pt
    replace SGu2:=SGu2.pt
    replace SI:=SI.pt
    replace SPu3:=SPu3.pt
    replace Sa:=Sa.pt
    replace Shu5:=Shu5.pt
    replace Sm:=Sm.pt
    replace Stu4:=Stu4.pt
    replace Swu6:=Swu6.pt
    replace T:=T.pick [0,34,36,37,38,41,42,43] rfl
    replace M:=M.mask [false] rfl
    replace M:Mem w noEx wc ((Ibu2++Ipu3++Itu4++Ihu5++Iwu6)):=M
    exact ⟨(T.pick (E':=[(10,Zi (turnW tL)),(12,.slice Ahu5 hL.length chu5),(13,Zi (turnW hL)),(14,Zi hE),(17,.slice Am sm.length cm),(18,.bool fa),(19,.bool fm),(139,.bool false)]) [1,2,3,4,5,6,7,0] Z).as (by (try rw [show (!fa)=true from h11]);(try rw [show (!(decide (tE=11)))=false from (by simp [h12])]);(try rw [show (decide (0 < ((tL.length:Nat):Int)))=false from (Zdf h13)]);(try rw [show fa=true from h14]);(try rw [show (!(decide (tE=0)))=false from (by simp [h15])]);(try rw [show (!(decide ((turnW tL)=(turnW sa))))=false from (by simp [h16])]);(try rfl)),M.mask [] Z⟩
   refine Zg8 T (Zp (Zwn Z Z (T.e 0 Z) h14)) Z (fun _ T=>Zp (Zwn Z Z (T.e 1 Z) h14)) Z (fun _ T=>Zp (Zwn Z Z (T.e 2 Z) h14)) Z (fun _ T=>Zp (Zwu Z Z (T.e 0 Z))) Z (fun _ T=>Zp (Zwu Z Z (T.e 1 Z))) Z (fun _ T=>Zp (Zwu Z Z (T.e 2 Z))) Z (fun _ T=>Zp (Zwu Z Z (T.e 3 Z))) Z (fun _ T=>Zp (Zwn Z Z (T.e 7 Z) h14)) Z ?_;intro ac T
   refine Zg8 T (Zp (Zwn Z Z (T.e 8 Z) h14)) Z (fun _ T=>Zp (Zwu Z Z (T.e 0 Z))) Z (fun _ T=>Zp (Zwu Z Z (T.e 1 Z))) Z (fun _ T=>Zp (Zwu Z Z (T.e 2 Z))) Z (fun _ T=>Zp (Zwu Z Z (T.e 3 Z))) Z (fun _ T=>Zp (Zwn Z Z (T.e 13 Z) h14)) Z (fun _ T=>Zw (Zwy Z Z (T.e 16 Z) (Zdf h13)) (Zr0 Z (T.e 14 Z) h14 evc)) Z (fun _ T=>Zq (Zr0 Z (T.e 17 Z) (Zdf h13) (T.e 0 Z))) Z ?_;intro ac T
   refine wpList_nil ?_
   refine nqR_n M ?_;clear M;intro wc M
   replace SAu3:=SAu3.pt
   replace SGu2:=SGu2.pt
   replace SI:=SI.pt
   replace SPu3:=SPu3.pt
   replace Sa:=Sa.pt
   replace Shu5:=Shu5.pt
   replace Sm:=Sm.pt
   replace Stu4:=Stu4.pt
   replace Swu6:=Swu6.pt
   replace T:=T.pick [0,34,36,37,38,41,42,43] rfl
   replace M:=M.mask [false] rfl
   replace M:Mem w noEx wc ((Ibu2++Ipu3++Itu4++Ihu5++Iwu6)):=M
   exact ⟨(T.pick (E':=[(10,Zi (turnW tL)),(12,.slice Ahu5 hL.length chu5),(13,Zi (turnW hL)),(14,Zi hE),(17,.slice Am sm.length cm),(18,.bool fa),(19,.bool fm),(139,.bool false)]) [1,2,3,4,5,6,7,0] Z).as (by (try rw [show (!fa)=true from h11]);(try rw [show (!(decide (tE=11)))=false from (by simp [h12])]);(try rw [show (decide (0 < ((tL.length:Nat):Int)))=false from (Zdf h13)]);(try rw [show fa=false from h14]);(try rfl)),M.mask [] Z⟩
  refine Zg8 T (Zp (Zwn Z Z (T.e 0 Z) h11)) Z (fun _ T=>Zp (Zwn Z Z (T.e 1 Z) h11)) Z (fun _ T=>Zp (Zwn Z Z (T.e 2 Z) h11)) Z (fun _ T=>Zp (Zwu Z Z (T.e 0 Z))) Z (fun _ T=>Zp (Zwu Z Z (T.e 1 Z))) Z (fun _ T=>Zp (Zwu Z Z (T.e 2 Z))) Z (fun _ T=>Zp (Zwn Z Z (T.e 6 Z) h11)) Z (fun _ T=>Zq (Zr0 Z (T.e 7 Z) h11 evc)) Z ?_;intro ac T
  refine Zg3 T (Zq (Zrm Z (T.e 0 Z))) Z (fun _ T=>Zw (Zwy Z Z (T.e 0 Z) Z) (Zrm Z (T.e 24 Z))) Z (fun _ T=>Zw (Zwy Z Z (T.e 1 Z) Z) (Zrm Z (T.e 0 Z))) Z ?_;intro ac T
  rcases Zx9 fa with h17 | h17
  ·refine Zg3 T (Zw (Zwy Z Z (T.e 0 Z) h17) (Zrm Z (T.e 19 Z))) Z (fun _ T=>Zw (Zwy Z Z (T.e 1 Z) h17) (rn_neq Z (T.e 0 Z) evc)) Z (fun _ T=>Zw (Zwy Z Z (T.e 2 Z) h17) (Zrm Z (T.e 0 Z))) Z ?_;intro ac T
   rcases Zx9 (!(decide (tE=0))) with h18 | h18
   ·replace h18 : ¬ (tE=0):=by first | (rw [Bool.not_eq_true'] at h18;exact of_decide_eq_false h18) | simpa using h18
    refine Zg8 T (Zp (Zwn Z Z (T.e 0 Z) (by simp [h18]))) Z (fun _ T=>Zp (Zwn Z Z (T.e 1 Z) (by simp [h18]))) Z (fun _ T=>Zp (Zwn Z Z (T.e 2 Z) (by simp [h18]))) Z (fun _ T=>Zp (Zwn Z Z (T.e 3 Z) (by simp [h18]))) Z (fun _ T=>Zw (Zwy Z Z (T.e 7 Z) h17) (Zr1 Z (T.e 4 Z) (by simp [h18]) evc)) Z (fun _ T=>Zw (Zwy Z Z (T.e 8 Z) h17) (Zrm Z (T.e 0 Z))) Z (fun _ T=>Zp (Zwn Z Z (T.e 0 Z) Z)) Z (fun _ T=>Zp (Zwn Z Z (T.e 1 Z) Z)) Z ?_;intro ac T
    refine Zg5 T (Zp (Zwn Z Z (T.e 2 Z) Z)) Z (fun _ T=>Zp (Zwn Z Z (T.e 3 Z) Z)) Z (fun _ T=>Zw (Zwy Z Z (T.e 13 Z) h17) (Zr1 Z (T.e 4 Z) Z evc)) Z (fun _ T=>Zw (Zwy Z Z (T.e 16 Z) Z) (Zr1 Z (T.e 14 Z) h17 (T.e 0 Z))) Z (fun _ T=>Zq (Zr0 Z (T.e 17 Z) Z (T.e 0 Z))) Z ?_;intro ac T
    refine wpList_nil ?_
    refine nqR_n M ?_;clear M;intro wc M
    replace SAu3:=SAu3.pt
    replace SGu2:=SGu2.pt
    replace SI:=SI.pt
    replace SPu3:=SPu3.pt
    replace Sa:=Sa.pt
    replace Shu5:=Shu5.pt
    replace Sm:=Sm.pt
    replace Stu4:=Stu4.pt
    replace Swu6:=Swu6.pt
    replace T:=T.pick [0,34,36,37,38,41,42,43] rfl
    replace M:=M.mask [false] rfl
    replace M:Mem w noEx wc ((Ibu2++Ipu3++Itu4++Ihu5++Iwu6)):=M
    exact ⟨(T.pick (E':=[(10,Zi (turnW tL)),(12,.slice Ahu5 hL.length chu5),(13,Zi (turnW hL)),(14,Zi hE),(17,.slice Am sm.length cm),(18,.bool fa),(19,.bool fm),(139,.bool true)]) [1,2,3,4,5,6,7,0] Z).as (by (try rw [show (!fa)=false from h11]);(try rw [show fa=true from h17]);(try rw [show (!(decide (tE=0)))=true from (by simp [h18])]);(try rfl)),M.mask [] Z⟩
   replace h18:tE=0:=by first | (rw [Bool.not_eq_false'] at h18;exact of_decide_eq_true h18) | simpa using h18
   refine Zg2 T (Zw (Zwy Z Z (T.e 0 Z) (by simp [h18])) (Zrm Z (T.e 21 Z))) Z (fun _ T=>Zw (Zwy Z Z (T.e 1 Z) (by simp [h18])) (Zrm Z (T.e 28 Z))) Z ?_;intro ac T
   refine l_w (Zwy Z Z (T.e 2 Z) (by simp [h18])) ?_;intro K hK
   refine Zod T Z Z Z Z evf (.cons (T.e 0 Z) .nil) Try.func51 Z Z ?_
   refine Calls.mono (turnsOf4_any Aa ca sa _ (Sa.rd M (.cons _ (Zsq _ _))) (by omega)) ?_
   clear T;rintro e wc ⟨rfl,hb⟩ ac T
   replace M:=M.call hb;clear hb
   refine Zso hK _ _ ?_;clear hK K
   refine Zg3 T (Zw (Zwy Z Z (T.e 3 Z) (by simp [h18])) (rn_neq Z (T.e 2 Z) (T.e 0 Z))) Z (fun _ T=>Zw (Zwy Z Z (T.e 7 Z) h17) (Zr0 Z (T.e 4 Z) (by simp [h18]) (T.e 0 Z))) Z (fun _ T=>Zw (Zwy Z Z (T.e 8 Z) h17) (Zrm Z (T.e 0 Z))) Z ?_;intro ac T
   rcases Zx9 (!(decide ((turnW tL)=(turnW sa)))) with h19 | h19
   ·replace h19 : ¬ ((turnW tL)=(turnW sa)):=by first | (rw [Bool.not_eq_true'] at h19;exact of_decide_eq_false h19) | simpa using h19
    refine Zg7 T (Zp (Zwn Z Z (T.e 0 Z) (by simp [h19]))) Z (fun _ T=>Zp (Zwn Z Z (T.e 1 Z) (by simp [h19]))) Z (fun _ T=>Zp (Zwn Z Z (T.e 2 Z) (by simp [h19]))) Z (fun _ T=>Zp (Zwn Z Z (T.e 3 Z) (by simp [h19]))) Z (fun _ T=>Zw (Zwy Z Z (T.e 13 Z) h17) (Zr1 Z (T.e 4 Z) (by simp [h19]) evc)) Z (fun _ T=>Zw (Zwy Z Z (T.e 16 Z) Z) (Zr1 Z (T.e 14 Z) h17 (T.e 0 Z))) Z (fun _ T=>Zq (Zr0 Z (T.e 17 Z) Z (T.e 0 Z))) Z ?_;intro ac T
    refine wpList_nil ?_
    refine nqR_n M ?_;clear M;intro wc M
    replace SAu3:=SAu3.pt
    replace SGu2:=SGu2.pt
    replace SI:=SI.pt
    replace SPu3:=SPu3.pt
    replace Sa:=Sa.pt
    replace Shu5:=Shu5.pt
    replace Sm:=Sm.pt
    replace Stu4:=Stu4.pt
    replace Swu6:=Swu6.pt
    replace T:=T.pick [0,34,36,37,38,41,42,43] rfl
    replace M:=M.mask [false] rfl
    replace M:Mem w noEx wc ((Ibu2++Ipu3++Itu4++Ihu5++Iwu6)):=M
    exact ⟨(T.pick (E':=[(10,Zi (turnW tL)),(12,.slice Ahu5 hL.length chu5),(13,Zi (turnW hL)),(14,Zi hE),(17,.slice Am sm.length cm),(18,.bool fa),(19,.bool fm),(139,.bool true)]) [1,2,3,4,5,6,7,0] Z).as (by (try rw [show (!fa)=false from h11]);(try rw [show fa=true from h17]);(try rw [show (!(decide (tE=0)))=false from (by simp [h18])]);(try rw [show (!(decide ((turnW tL)=(turnW sa))))=true from (by simp [h19])]);(try rfl)),M.mask [] Z⟩
   replace h19:(turnW tL)=(turnW sa):=by first | (rw [Bool.not_eq_false'] at h19;exact of_decide_eq_true h19) | simpa using h19
   refine Zg2 T (Zw (Zwy Z Z (T.e 0 Z) (by simp [h19])) (Zrm Z (T.e 26 Z))) Z (fun _ T=>Zw (Zwy Z Z (T.e 1 Z) (by simp [h19])) (Zrm Z (T.e 34 Z))) Z ?_;intro ac T
   refine l_w (Zwy Z Z (T.e 2 Z) (by simp [h19])) ?_;intro K hK
   have es9:tL=sa:=(ka1 (by assumption)).2
   have el9:tL.length=sa.length:=by rw [es9]
   refine Zod T Z Z Z Z evf (.cons (T.e 1 Z) (.cons (T.e 0 Z) .nil)) Try.func31 Z Z ?_
   refine Calls.mono (sameInts_same _ _ _ sa.length _ _ tL _ (Stu4.rd M (.cons _ (subL (subL (Zsq _ _))))) (by rw [es9];exact Sa.rd M (.cons _ (Zsq _ _))) (by omega) (by omega)) ?_
   clear T;rintro e wc ⟨rfl,hb⟩ ac T
   replace M:=M.call hb;clear hb
   refine Zso hK _ _ ?_;clear hK K
   refine Zg4 (v1:=(.bool false)) T (Zw (Zwy Z Z (T.e 3 Z) (by simp [h19])) (Zrq (rn_not Z (T.e 0 Z)) (by simp))) Z (fun _ T=>Zw (Zwy Z Z (T.e 13 Z) h17) (Zr0 Z (T.e 4 Z) (by simp [h19]) (T.e 0 Z))) Z (fun _ T=>Zw (Zwy Z Z (T.e 16 Z) Z) (Zr1 Z (T.e 14 Z) h17 (T.e 0 Z))) Z (fun _ T=>Zq (Zr0 Z (T.e 17 Z) Z (T.e 0 Z))) Z ?_;intro ac T
   refine wpList_nil ?_
   refine nqR_n M ?_;clear M;intro wc M
   replace SAu3:=SAu3.pt
   replace SGu2:=SGu2.pt
   replace SI:=SI.pt
   replace SPu3:=SPu3.pt
   replace Sa:=Sa.pt
   replace Shu5:=Shu5.pt
   replace Sm:=Sm.pt
   replace Stu4:=Stu4.pt
   replace Swu6:=Swu6.pt
   replace T:=T.pick [0,34,36,37,38,41,42,43] rfl
   replace M:=M.mask [false] rfl
   replace M:Mem w noEx wc ((Ibu2++Ipu3++Itu4++Ihu5++Iwu6)):=M
   exact ⟨(T.pick (E':=[(10,Zi (turnW tL)),(12,.slice Ahu5 hL.length chu5),(13,Zi (turnW hL)),(14,Zi hE),(17,.slice Am sm.length cm),(18,.bool fa),(19,.bool fm),(139,.bool false)]) [1,2,3,4,5,6,7,0] Z).as (by (try rw [show (!fa)=false from h11]);(try rw [show fa=true from h17]);(try rw [show (!(decide (tE=0)))=false from (by simp [h18])]);(try rw [show (!(decide ((turnW tL)=(turnW sa))))=false from (by simp [h19])]);(try rfl)),M.mask [] Z⟩
  refine Zg8 T (Zp (Zwn Z Z (T.e 0 Z) h17)) Z (fun _ T=>Zp (Zwn Z Z (T.e 1 Z) h17)) Z (fun _ T=>Zp (Zwn Z Z (T.e 2 Z) h17)) Z (fun _ T=>Zp (Zwu Z Z (T.e 0 Z))) Z (fun _ T=>Zp (Zwu Z Z (T.e 1 Z))) Z (fun _ T=>Zp (Zwu Z Z (T.e 2 Z))) Z (fun _ T=>Zp (Zwu Z Z (T.e 3 Z))) Z (fun _ T=>Zp (Zwn Z Z (T.e 7 Z) h17)) Z ?_;intro ac T
  refine Zg8 T (Zp (Zwn Z Z (T.e 8 Z) h17)) Z (fun _ T=>Zp (Zwu Z Z (T.e 0 Z))) Z (fun _ T=>Zp (Zwu Z Z (T.e 1 Z))) Z (fun _ T=>Zp (Zwu Z Z (T.e 2 Z))) Z (fun _ T=>Zp (Zwu Z Z (T.e 3 Z))) Z (fun _ T=>Zp (Zwn Z Z (T.e 13 Z) h17)) Z (fun _ T=>Zw (Zwy Z Z (T.e 16 Z) Z) (Zr0 Z (T.e 14 Z) h17 evc)) Z (fun _ T=>Zq (Zr0 Z (T.e 17 Z) Z (T.e 0 Z))) Z ?_;intro ac T
  refine wpList_nil ?_
  refine nqR_n M ?_;clear M;intro wc M
  replace SAu3:=SAu3.pt
  replace SGu2:=SGu2.pt
  replace SI:=SI.pt
  replace SPu3:=SPu3.pt
  replace Sa:=Sa.pt
  replace Shu5:=Shu5.pt
  replace Sm:=Sm.pt
  replace Stu4:=Stu4.pt
  replace Swu6:=Swu6.pt
  replace T:=T.pick [0,34,36,37,38,41,42,43] rfl
  replace M:=M.mask [false] rfl
  replace M:Mem w noEx wc ((Ibu2++Ipu3++Itu4++Ihu5++Iwu6)):=M
  exact ⟨(T.pick (E':=[(10,Zi (turnW tL)),(12,.slice Ahu5 hL.length chu5),(13,Zi (turnW hL)),(14,Zi hE),(17,.slice Am sm.length cm),(18,.bool fa),(19,.bool fm),(139,.bool false)]) [1,2,3,4,5,6,7,0] Z).as (by (try rw [show (!fa)=false from h11]);(try rw [show fa=false from h17]);(try rfl)),M.mask [] Z⟩
 clear T M
 rintro ac wc ⟨T,M⟩
 refine wB_cond_split hP (T.e 7 Z) ?_ ?_
 ·intro h20
  (have h20':=h20;try simp only [Zb1,Zb2,Zb3,Zb4,Zb5,Zb6,Zb7] at h20')
  refine wpB_seq hP ?_
  refine b_lone hP w fun T9=>?_
  replace M:=M.tp T9 0 0
  replace SAu3:=SAu3.tp T9 0
  replace SGu2:=SGu2.tp T9 0
  replace SI:=SI.tp T9 0
  replace SPu3:=SPu3.tp T9 0
  replace Sa:=Sa.tp T9 0
  replace Shu5:=Shu5.tp T9 0
  replace Sm:=Sm.tp T9 0
  replace Stu4:=Stu4.tp T9 0
  replace Swu6:=Swu6.tp T9 0
  refine wp_region_lit ?_
  refine lq T (Zra Z evc) ?_;intro ac T
  refine wpList_nil ?_
  refine nqR_n M ?_;clear M;intro wc M
  replace SAu3:=SAu3.pt
  replace SGu2:=SGu2.pt
  replace SI:=SI.pt
  replace SPu3:=SPu3.pt
  replace Sa:=Sa.pt
  replace Shu5:=Shu5.pt
  replace Sm:=Sm.pt
  replace Stu4:=Stu4.pt
  replace Swu6:=Swu6.pt
  replace T:=T.pick [0] rfl
  refine nm_then ?_
  refine wpB_ret hP ?_
  refine Zrt ?_
  refine rt_1 T Z (T.e 0 Z) ?_
  exfalso
  first | exact Bool.eq_false_iff.1 (turned_no ka0 (fun h9=>⟨(ka1 h9).1,by rw [(ka1 h9).2]⟩)) h20 | exact Bool.eq_false_iff.1 (turned_no km0 (fun h9=>⟨(km1 h9).1,by rw [(km1 h9).2]⟩)) h20
 intro h20
 (have h20':=h20;try simp only [Zb1,Zb2,Zb3,Zb4,Zb5,Zb6,Zb7] at h20')
 refine wpB_skip hP ?_
 refine nm_then ?_
 refine wpB_seq hP ?_
 refine cutB_seq hP (fun ac wc=>Tm ac 180 [(10,Zi (turnW tL)),(13,Zi (turnW hL)),(18,.bool fa),(169,.bool (bif (!fm) then ((!(decide (hE=11))) || ((decide (0 < ((hL.length:Nat):Int))) || (fm && ((!(decide (hE=0))) || (!(decide ((turnW hL)=(turnW sm)))))))) else (fm && ((!(decide (hE=0))) || (!(decide ((turnW hL)=(turnW sm))))))))]∧Mem w noEx wc ((Ibu2++Ipu3++Itu4++Ihu5++Iwu6))) ?_ ?_
 ·refine b_lone hP w fun T9=>?_
  replace M:=M.tp T9 0 0
  replace SAu3:=SAu3.tp T9 0
  replace SGu2:=SGu2.tp T9 0
  replace SI:=SI.tp T9 0
  replace SPu3:=SPu3.tp T9 0
  replace Sa:=Sa.tp T9 0
  replace Shu5:=Shu5.tp T9 0
  replace Sm:=Sm.tp T9 0
  replace Stu4:=Stu4.tp T9 0
  replace Swu6:=Swu6.tp T9 0
  refine wp_region_lit ?_
  refine Zg3 T (Zq (Zrm Z (T.e 6 Z))) Z (fun _ T=>Zq (rn_not Z (T.e 0 Z))) Z (Zm 0 Z Z) Z ?_;intro ac T
  rcases Zx9 (!fm) with h21 | h21
  ·refine Zg3 T (Zw (Zwy Z Z (T.e 0 Z) h21) (Zrm Z (T.e 6 Z))) Z (fun _ T=>Zw (Zwy Z Z (T.e 1 Z) h21) (rn_neq Z (T.e 0 Z) evc)) Z (fun _ T=>Zw (Zwy Z Z (T.e 2 Z) h21) (Zrm Z (T.e 0 Z))) Z ?_;intro ac T
   rcases Zx9 (!(decide (hE=11))) with h22 | h22
   ·replace h22 : ¬ (hE=11):=by first | (rw [Bool.not_eq_true'] at h22;exact of_decide_eq_false h22) | simpa using h22
    refine Zg8 T (Zp (Zwn Z Z (T.e 0 Z) (by simp [h22]))) Z (fun _ T=>Zp (Zwn Z Z (T.e 1 Z) (by simp [h22]))) Z (fun _ T=>Zp (Zwn Z Z (T.e 2 Z) (by simp [h22]))) Z (fun _ T=>Zw (Zwy Z Z (T.e 6 Z) h21) (Zr1 Z (T.e 3 Z) (by simp [h22]) evc)) Z (fun _ T=>Zq (Zr1 Z (T.e 7 Z) h21 (T.e 0 Z))) Z (Zm 0 Z Z) Z (fun _ T=>Zp (Zwn Z Z (T.e 0 Z) Z)) Z (fun _ T=>Zp (Zwn Z Z (T.e 1 Z) Z)) Z ?_;intro ac T
    refine Zg8 T (Zp (Zwu Z Z (T.e 0 Z))) Z (fun _ T=>Zp (Zwu Z Z (T.e 1 Z))) Z (fun _ T=>Zp (Zwu Z Z (T.e 2 Z))) Z (fun _ T=>Zp (Zwu Z Z (T.e 0 Z))) Z (fun _ T=>Zp (Zwu Z Z (T.e 1 Z))) Z (fun _ T=>Zp (Zwu Z Z (T.e 2 Z))) Z (fun _ T=>Zp (Zwu Z Z (T.e 3 Z))) Z (fun _ T=>Zp (Zwu Z Z (T.e 7 Z))) Z ?_;intro ac T
    refine Zg8 T (Zp (Zwu Z Z (T.e 8 Z))) Z (fun _ T=>Zp (Zwu Z Z (T.e 0 Z))) Z (fun _ T=>Zp (Zwu Z Z (T.e 1 Z))) Z (fun _ T=>Zp (Zwu Z Z (T.e 2 Z))) Z (fun _ T=>Zp (Zwu Z Z (T.e 3 Z))) Z (fun _ T=>Zp (Zwu Z Z (T.e 13 Z))) Z (fun _ T=>Zp (Zwn Z Z (T.e 16 Z) Z)) Z (fun _ T=>Zq (Zr1 Z (T.e 17 Z) Z evc)) Z ?_;intro ac T
    refine wpList_nil ?_
    refine nqR_n M ?_;clear M;intro wc M
    replace SAu3:=SAu3.pt
    replace SGu2:=SGu2.pt
    replace SI:=SI.pt
    replace SPu3:=SPu3.pt
    replace Sa:=Sa.pt
    replace Shu5:=Shu5.pt
    replace Sm:=Sm.pt
    replace Stu4:=Stu4.pt
    replace Swu6:=Swu6.pt
    replace T:=T.pick [0,30,32,35] rfl
    exact ⟨(T.pick (E':=[(10,Zi (turnW tL)),(13,Zi (turnW hL)),(18,.bool fa),(169,.bool true)]) [1,2,3,0] Z).as (by (try rw [show (!fm)=true from h21]);(try rw [show (!(decide (hE=11)))=true from (by simp [h22])]);(try rfl)),M.mask [] Z⟩
   replace h22:hE=11:=by first | (rw [Bool.not_eq_false'] at h22;exact of_decide_eq_true h22) | simpa using h22
   refine Zg6 T (Zw (Zwy Z Z (T.e 0 Z) (by simp [h22])) (Zrm Z (T.e 7 Z))) Z (fun _ T=>Zw (Zwy Z Z (T.e 1 Z) (by simp [h22])) (Zrl Z Try.underlying28 (T.e 0 Z))) Z (fun _ T=>Zw (Zwy Z Z (T.e 2 Z) (by simp [h22])) (rn_gtr Z (T.e 0 Z) evc)) Z (fun _ T=>Zw (Zwy Z Z (T.e 6 Z) h21) (Zr0 Z (T.e 3 Z) (by simp [h22]) (T.e 0 Z))) Z (fun _ T=>Zq (Zr1 Z (T.e 7 Z) h21 (T.e 0 Z))) Z (Zm 0 Z Z) Z ?_;intro ac T
   rcases Zx9 (decide (0 < ((hL.length:Nat):Int))) with h23 | h23
   ·replace h23:=of_decide_eq_true h23
    refine Zg8 T (Zp (Zwn Z Z (T.e 0 Z) (Zdt h23))) Z (fun _ T=>Zp (Zwn Z Z (T.e 1 Z) (Zdt h23))) Z (fun _ T=>Zp (Zwu Z Z (T.e 0 Z))) Z (fun _ T=>Zp (Zwu Z Z (T.e 1 Z))) Z (fun _ T=>Zp (Zwu Z Z (T.e 2 Z))) Z (fun _ T=>Zp (Zwu Z Z (T.e 0 Z))) Z (fun _ T=>Zp (Zwu Z Z (T.e 1 Z))) Z (fun _ T=>Zp (Zwu Z Z (T.e 2 Z))) Z ?_;intro ac T
    refine Zg8 T (Zp (Zwu Z Z (T.e 3 Z))) Z (fun _ T=>Zp (Zwu Z Z (T.e 7 Z))) Z (fun _ T=>Zp (Zwu Z Z (T.e 8 Z))) Z (fun _ T=>Zp (Zwu Z Z (T.e 0 Z))) Z (fun _ T=>Zp (Zwu Z Z (T.e 1 Z))) Z (fun _ T=>Zp (Zwu Z Z (T.e 2 Z))) Z (fun _ T=>Zp (Zwu Z Z (T.e 3 Z))) Z (fun _ T=>Zp (Zwu Z Z (T.e 13 Z))) Z ?_;intro ac T
    refine Zg2 T (Zp (Zwn Z Z (T.e 16 Z) (Zdt h23))) Z (fun _ T=>Zq (Zr1 Z (T.e 17 Z) (Zdt h23) evc)) Z ?_;intro ac T
    refine wpList_nil ?_
    refine nqR_n M ?_;clear M;intro wc M
    replace SAu3:=SAu3.pt
    replace SGu2:=SGu2.pt
    replace SI:=SI.pt
    replace SPu3:=SPu3.pt
    replace Sa:=Sa.pt
    replace Shu5:=Shu5.pt
    replace Sm:=Sm.pt
    replace Stu4:=Stu4.pt
    replace Swu6:=Swu6.pt
    replace T:=T.pick [0,30,32,35] rfl
    exact ⟨(T.pick (E':=[(10,Zi (turnW tL)),(13,Zi (turnW hL)),(18,.bool fa),(169,.bool true)]) [1,2,3,0] Z).as (by (try rw [show (!fm)=true from h21]);(try rw [show (!(decide (hE=11)))=false from (by simp [h22])]);(try rw [show (decide (0 < ((hL.length:Nat):Int)))=true from (Zdt h23)]);(try rfl)),M.mask [] Z⟩
   replace h23:=of_decide_eq_false h23
   refine Zg2 T (Zw (Zwy Z Z (T.e 0 Z) (Zdf h23)) (Zrm Z (T.e 18 Z))) Z (fun _ T=>Zw (Zwy Z Z (T.e 1 Z) (Zdf h23)) (Zrm Z (T.e 0 Z))) Z ?_;intro ac T
   rcases Zx9 fm with h24 | h24
   ·refine Zg3 T (Zw (Zwy Z Z (T.e 0 Z) h24) (Zrm Z (T.e 17 Z))) Z (fun _ T=>Zw (Zwy Z Z (T.e 1 Z) h24) (rn_neq Z (T.e 0 Z) evc)) Z (fun _ T=>Zw (Zwy Z Z (T.e 2 Z) h24) (Zrm Z (T.e 0 Z))) Z ?_;intro ac T
    rcases Zx9 (!(decide (hE=0))) with h25 | h25
    ·replace h25 : ¬ (hE=0):=by first | (rw [Bool.not_eq_true'] at h25;exact of_decide_eq_false h25) | simpa using h25
     refine Zg8 T (Zp (Zwn Z Z (T.e 0 Z) (by simp [h25]))) Z (fun _ T=>Zp (Zwn Z Z (T.e 1 Z) (by simp [h25]))) Z (fun _ T=>Zp (Zwn Z Z (T.e 2 Z) (by simp [h25]))) Z (fun _ T=>Zp (Zwn Z Z (T.e 3 Z) (by simp [h25]))) Z (fun _ T=>Zw (Zwy Z Z (T.e 7 Z) h24) (Zr1 Z (T.e 4 Z) (by simp [h25]) evc)) Z (fun _ T=>Zw (Zwy Z Z (T.e 8 Z) h24) (Zrm Z (T.e 0 Z))) Z (fun _ T=>Zp (Zwn Z Z (T.e 0 Z) Z)) Z (fun _ T=>Zp (Zwn Z Z (T.e 1 Z) Z)) Z ?_;intro ac T
     refine Zg5 T (Zp (Zwn Z Z (T.e 2 Z) Z)) Z (fun _ T=>Zp (Zwn Z Z (T.e 3 Z) Z)) Z (fun _ T=>Zw (Zwy Z Z (T.e 13 Z) h24) (Zr1 Z (T.e 4 Z) Z evc)) Z (fun _ T=>Zw (Zwy Z Z (T.e 16 Z) (Zdf h23)) (Zr1 Z (T.e 14 Z) h24 (T.e 0 Z))) Z (fun _ T=>Zq (Zr0 Z (T.e 17 Z) (Zdf h23) (T.e 0 Z))) Z ?_;intro ac T
     refine wpList_nil ?_
     refine nqR_n M ?_;clear M;intro wc M
     replace SAu3:=SAu3.pt
     replace SGu2:=SGu2.pt
     replace SI:=SI.pt
     replace SPu3:=SPu3.pt
     replace Sa:=Sa.pt
     replace Shu5:=Shu5.pt
     replace Sm:=Sm.pt
     replace Stu4:=Stu4.pt
     replace Swu6:=Swu6.pt
     replace T:=T.pick [0,30,32,35] rfl
     exact ⟨(T.pick (E':=[(10,Zi (turnW tL)),(13,Zi (turnW hL)),(18,.bool fa),(169,.bool true)]) [1,2,3,0] Z).as (by (try rw [show (!fm)=true from h21]);(try rw [show (!(decide (hE=11)))=false from (by simp [h22])]);(try rw [show (decide (0 < ((hL.length:Nat):Int)))=false from (Zdf h23)]);(try rw [show fm=true from h24]);(try rw [show (!(decide (hE=0)))=true from (by simp [h25])]);(try rfl)),M.mask [] Z⟩
    replace h25:hE=0:=by first | (rw [Bool.not_eq_false'] at h25;exact of_decide_eq_true h25) | simpa using h25
    refine Zg2 T (Zw (Zwy Z Z (T.e 0 Z) (by simp [h25])) (Zrm Z (T.e 19 Z))) Z (fun _ T=>Zw (Zwy Z Z (T.e 1 Z) (by simp [h25])) (Zrm Z (T.e 22 Z))) Z ?_;intro ac T
    refine l_w (Zwy Z Z (T.e 2 Z) (by simp [h25])) ?_;intro K hK
    refine Zod T Z Z Z Z evf (.cons (T.e 0 Z) .nil) Try.func51 Z Z ?_
    refine Calls.mono (turnsOf4_any Am cm sm _ (Sm.rd M (Zsq _ _)) (by omega)) ?_
    clear T;rintro e wc ⟨rfl,hb⟩ ac T
    replace M:=M.call hb;clear hb
    refine Zso hK _ _ ?_;clear hK K
    refine Zg3 T (Zw (Zwy Z Z (T.e 3 Z) (by simp [h25])) (rn_neq Z (T.e 2 Z) (T.e 0 Z))) Z (fun _ T=>Zw (Zwy Z Z (T.e 7 Z) h24) (Zr0 Z (T.e 4 Z) (by simp [h25]) (T.e 0 Z))) Z (fun _ T=>Zw (Zwy Z Z (T.e 8 Z) h24) (Zrm Z (T.e 0 Z))) Z ?_;intro ac T
    rcases Zx9 (!(decide ((turnW hL)=(turnW sm)))) with h26 | h26
    ·replace h26 : ¬ ((turnW hL)=(turnW sm)):=by first | (rw [Bool.not_eq_true'] at h26;exact of_decide_eq_false h26) | simpa using h26
     refine Zg7 T (Zp (Zwn Z Z (T.e 0 Z) (by simp [h26]))) Z (fun _ T=>Zp (Zwn Z Z (T.e 1 Z) (by simp [h26]))) Z (fun _ T=>Zp (Zwn Z Z (T.e 2 Z) (by simp [h26]))) Z (fun _ T=>Zp (Zwn Z Z (T.e 3 Z) (by simp [h26]))) Z (fun _ T=>Zw (Zwy Z Z (T.e 13 Z) h24) (Zr1 Z (T.e 4 Z) (by simp [h26]) evc)) Z (fun _ T=>Zw (Zwy Z Z (T.e 16 Z) (Zdf h23)) (Zr1 Z (T.e 14 Z) h24 (T.e 0 Z))) Z (fun _ T=>Zq (Zr0 Z (T.e 17 Z) (Zdf h23) (T.e 0 Z))) Z ?_;intro ac T
     refine wpList_nil ?_
     refine nqR_n M ?_;clear M;intro wc M
     replace SAu3:=SAu3.pt
     replace SGu2:=SGu2.pt
     replace SI:=SI.pt
     replace SPu3:=SPu3.pt
     replace Sa:=Sa.pt
     replace Shu5:=Shu5.pt
     replace Sm:=Sm.pt
     replace Stu4:=Stu4.pt
     replace Swu6:=Swu6.pt
     replace T:=T.pick [0,30,32,35] rfl
     exact ⟨(T.pick (E':=[(10,Zi (turnW tL)),(13,Zi (turnW hL)),(18,.bool fa),(169,.bool true)]) [1,2,3,0] Z).as (by (try rw [show (!fm)=true from h21]);(try rw [show (!(decide (hE=11)))=false from (by simp [h22])]);(try rw [show (decide (0 < ((hL.length:Nat):Int)))=false from (Zdf h23)]);(try rw [show fm=true from h24]);(try rw [show (!(decide (hE=0)))=false from (by simp [h25])]);(try rw [show (!(decide ((turnW hL)=(turnW sm))))=true from (by simp [h26])]);(try rfl)),M.mask [] Z⟩
    replace h26:(turnW hL)=(turnW sm):=by first | (rw [Bool.not_eq_false'] at h26;exact of_decide_eq_true h26) | simpa using h26
    refine Zg2 T (Zw (Zwy Z Z (T.e 0 Z) (by simp [h26])) (Zrm Z (T.e 24 Z))) Z (fun _ T=>Zw (Zwy Z Z (T.e 1 Z) (by simp [h26])) (Zrm Z (T.e 28 Z))) Z ?_;intro ac T
    refine l_w (Zwy Z Z (T.e 2 Z) (by simp [h26])) ?_;intro K hK
    have es9:hL=sm:=(km1 (by assumption)).2
    have el9:hL.length=sm.length:=by rw [es9]
    refine Zod T Z Z Z Z evf (.cons (T.e 1 Z) (.cons (T.e 0 Z) .nil)) Try.func31 Z Z ?_
    refine Calls.mono (sameInts_same _ _ _ sm.length _ _ hL _ (Shu5.rd M (subL (Zsq _ _))) (by rw [es9];exact Sm.rd M (Zsq _ _)) (by omega) (by omega)) ?_
    clear T;rintro e wc ⟨rfl,hb⟩ ac T
    replace M:=M.call hb;clear hb
    refine Zso hK _ _ ?_;clear hK K
    refine Zg4 (v1:=(.bool false)) T (Zw (Zwy Z Z (T.e 3 Z) (by simp [h26])) (Zrq (rn_not Z (T.e 0 Z)) (by simp))) Z (fun _ T=>Zw (Zwy Z Z (T.e 13 Z) h24) (Zr0 Z (T.e 4 Z) (by simp [h26]) (T.e 0 Z))) Z (fun _ T=>Zw (Zwy Z Z (T.e 16 Z) (Zdf h23)) (Zr1 Z (T.e 14 Z) h24 (T.e 0 Z))) Z (fun _ T=>Zq (Zr0 Z (T.e 17 Z) (Zdf h23) (T.e 0 Z))) Z ?_;intro ac T
    refine wpList_nil ?_
    refine nqR_n M ?_;clear M;intro wc M
    replace SAu3:=SAu3.pt
    replace SGu2:=SGu2.pt
    replace SI:=SI.pt
    replace SPu3:=SPu3.pt
    replace Sa:=Sa.pt
    replace Shu5:=Shu5.pt
    replace Sm:=Sm.pt
    replace Stu4:=Stu4.pt
    replace Swu6:=Swu6.pt
    replace T:=T.pick [0,30,32,35] rfl
    exact ⟨(T.pick (E':=[(10,Zi (turnW tL)),(13,Zi (turnW hL)),(18,.bool fa),(169,.bool false)]) [1,2,3,0] Z).as (by (try rw [show (!fm)=true from h21]);(try rw [show (!(decide (hE=11)))=false from (by simp [h22])]);(try rw [show (decide (0 < ((hL.length:Nat):Int)))=false from (Zdf h23)]);(try rw [show fm=true from h24]);(try rw [show (!(decide (hE=0)))=false from (by simp [h25])]);(try rw [show (!(decide ((turnW hL)=(turnW sm))))=false from (by simp [h26])]);(try rfl)),M.mask [] Z⟩
   refine Zg8 T (Zp (Zwn Z Z (T.e 0 Z) h24)) Z (fun _ T=>Zp (Zwn Z Z (T.e 1 Z) h24)) Z (fun _ T=>Zp (Zwn Z Z (T.e 2 Z) h24)) Z (fun _ T=>Zp (Zwu Z Z (T.e 0 Z))) Z (fun _ T=>Zp (Zwu Z Z (T.e 1 Z))) Z (fun _ T=>Zp (Zwu Z Z (T.e 2 Z))) Z (fun _ T=>Zp (Zwu Z Z (T.e 3 Z))) Z (fun _ T=>Zp (Zwn Z Z (T.e 7 Z) h24)) Z ?_;intro ac T
   refine Zg8 T (Zp (Zwn Z Z (T.e 8 Z) h24)) Z (fun _ T=>Zp (Zwu Z Z (T.e 0 Z))) Z (fun _ T=>Zp (Zwu Z Z (T.e 1 Z))) Z (fun _ T=>Zp (Zwu Z Z (T.e 2 Z))) Z (fun _ T=>Zp (Zwu Z Z (T.e 3 Z))) Z (fun _ T=>Zp (Zwn Z Z (T.e 13 Z) h24)) Z (fun _ T=>Zw (Zwy Z Z (T.e 16 Z) (Zdf h23)) (Zr0 Z (T.e 14 Z) h24 evc)) Z (fun _ T=>Zq (Zr0 Z (T.e 17 Z) (Zdf h23) (T.e 0 Z))) Z ?_;intro ac T
   refine wpList_nil ?_
   refine nqR_n M ?_;clear M;intro wc M
   replace SAu3:=SAu3.pt
   replace SGu2:=SGu2.pt
   replace SI:=SI.pt
   replace SPu3:=SPu3.pt
   replace Sa:=Sa.pt
   replace Shu5:=Shu5.pt
   replace Sm:=Sm.pt
   replace Stu4:=Stu4.pt
   replace Swu6:=Swu6.pt
   replace T:=T.pick [0,30,32,35] rfl
   exact ⟨(T.pick (E':=[(10,Zi (turnW tL)),(13,Zi (turnW hL)),(18,.bool fa),(169,.bool false)]) [1,2,3,0] Z).as (by (try rw [show (!fm)=true from h21]);(try rw [show (!(decide (hE=11)))=false from (by simp [h22])]);(try rw [show (decide (0 < ((hL.length:Nat):Int)))=false from (Zdf h23)]);(try rw [show fm=false from h24]);(try rfl)),M.mask [] Z⟩
  refine Zg8 T (Zp (Zwn Z Z (T.e 0 Z) h21)) Z (fun _ T=>Zp (Zwn Z Z (T.e 1 Z) h21)) Z (fun _ T=>Zp (Zwn Z Z (T.e 2 Z) h21)) Z (fun _ T=>Zp (Zwu Z Z (T.e 0 Z))) Z (fun _ T=>Zp (Zwu Z Z (T.e 1 Z))) Z (fun _ T=>Zp (Zwu Z Z (T.e 2 Z))) Z (fun _ T=>Zp (Zwn Z Z (T.e 6 Z) h21)) Z (fun _ T=>Zq (Zr0 Z (T.e 7 Z) h21 evc)) Z ?_;intro ac T
  refine Zg3 T (Zq (Zrm Z (T.e 0 Z))) Z (fun _ T=>Zw (Zwy Z Z (T.e 0 Z) Z) (Zrm Z (T.e 18 Z))) Z (fun _ T=>Zw (Zwy Z Z (T.e 1 Z) Z) (Zrm Z (T.e 0 Z))) Z ?_;intro ac T
  rcases Zx9 fm with h27 | h27
  ·refine Zg3 T (Zw (Zwy Z Z (T.e 0 Z) h27) (Zrm Z (T.e 17 Z))) Z (fun _ T=>Zw (Zwy Z Z (T.e 1 Z) h27) (rn_neq Z (T.e 0 Z) evc)) Z (fun _ T=>Zw (Zwy Z Z (T.e 2 Z) h27) (Zrm Z (T.e 0 Z))) Z ?_;intro ac T
   rcases Zx9 (!(decide (hE=0))) with h28 | h28
   ·replace h28 : ¬ (hE=0):=by first | (rw [Bool.not_eq_true'] at h28;exact of_decide_eq_false h28) | simpa using h28
    refine Zg8 T (Zp (Zwn Z Z (T.e 0 Z) (by simp [h28]))) Z (fun _ T=>Zp (Zwn Z Z (T.e 1 Z) (by simp [h28]))) Z (fun _ T=>Zp (Zwn Z Z (T.e 2 Z) (by simp [h28]))) Z (fun _ T=>Zp (Zwn Z Z (T.e 3 Z) (by simp [h28]))) Z (fun _ T=>Zw (Zwy Z Z (T.e 7 Z) h27) (Zr1 Z (T.e 4 Z) (by simp [h28]) evc)) Z (fun _ T=>Zw (Zwy Z Z (T.e 8 Z) h27) (Zrm Z (T.e 0 Z))) Z (fun _ T=>Zp (Zwn Z Z (T.e 0 Z) Z)) Z (fun _ T=>Zp (Zwn Z Z (T.e 1 Z) Z)) Z ?_;intro ac T
    refine Zg5 T (Zp (Zwn Z Z (T.e 2 Z) Z)) Z (fun _ T=>Zp (Zwn Z Z (T.e 3 Z) Z)) Z (fun _ T=>Zw (Zwy Z Z (T.e 13 Z) h27) (Zr1 Z (T.e 4 Z) Z evc)) Z (fun _ T=>Zw (Zwy Z Z (T.e 16 Z) Z) (Zr1 Z (T.e 14 Z) h27 (T.e 0 Z))) Z (fun _ T=>Zq (Zr0 Z (T.e 17 Z) Z (T.e 0 Z))) Z ?_;intro ac T
    refine wpList_nil ?_
    refine nqR_n M ?_;clear M;intro wc M
    replace SAu3:=SAu3.pt
    replace SGu2:=SGu2.pt
    replace SI:=SI.pt
    replace SPu3:=SPu3.pt
    replace Sa:=Sa.pt
    replace Shu5:=Shu5.pt
    replace Sm:=Sm.pt
    replace Stu4:=Stu4.pt
    replace Swu6:=Swu6.pt
    replace T:=T.pick [0,30,32,35] rfl
    exact ⟨(T.pick (E':=[(10,Zi (turnW tL)),(13,Zi (turnW hL)),(18,.bool fa),(169,.bool true)]) [1,2,3,0] Z).as (by (try rw [show (!fm)=false from h21]);(try rw [show fm=true from h27]);(try rw [show (!(decide (hE=0)))=true from (by simp [h28])]);(try rfl)),M.mask [] Z⟩
   replace h28:hE=0:=by first | (rw [Bool.not_eq_false'] at h28;exact of_decide_eq_true h28) | simpa using h28
   refine Zg2 T (Zw (Zwy Z Z (T.e 0 Z) (by simp [h28])) (Zrm Z (T.e 19 Z))) Z (fun _ T=>Zw (Zwy Z Z (T.e 1 Z) (by simp [h28])) (Zrm Z (T.e 22 Z))) Z ?_;intro ac T
   refine l_w (Zwy Z Z (T.e 2 Z) (by simp [h28])) ?_;intro K hK
   refine Zod T Z Z Z Z evf (.cons (T.e 0 Z) .nil) Try.func51 Z Z ?_
   refine Calls.mono (turnsOf4_any Am cm sm _ (Sm.rd M (Zsq _ _)) (by omega)) ?_
   clear T;rintro e wc ⟨rfl,hb⟩ ac T
   replace M:=M.call hb;clear hb
   refine Zso hK _ _ ?_;clear hK K
   refine Zg3 T (Zw (Zwy Z Z (T.e 3 Z) (by simp [h28])) (rn_neq Z (T.e 2 Z) (T.e 0 Z))) Z (fun _ T=>Zw (Zwy Z Z (T.e 7 Z) h27) (Zr0 Z (T.e 4 Z) (by simp [h28]) (T.e 0 Z))) Z (fun _ T=>Zw (Zwy Z Z (T.e 8 Z) h27) (Zrm Z (T.e 0 Z))) Z ?_;intro ac T
   rcases Zx9 (!(decide ((turnW hL)=(turnW sm)))) with h29 | h29
   ·replace h29 : ¬ ((turnW hL)=(turnW sm)):=by first | (rw [Bool.not_eq_true'] at h29;exact of_decide_eq_false h29) | simpa using h29
    refine Zg7 T (Zp (Zwn Z Z (T.e 0 Z) (by simp [h29]))) Z (fun _ T=>Zp (Zwn Z Z (T.e 1 Z) (by simp [h29]))) Z (fun _ T=>Zp (Zwn Z Z (T.e 2 Z) (by simp [h29]))) Z (fun _ T=>Zp (Zwn Z Z (T.e 3 Z) (by simp [h29]))) Z (fun _ T=>Zw (Zwy Z Z (T.e 13 Z) h27) (Zr1 Z (T.e 4 Z) (by simp [h29]) evc)) Z (fun _ T=>Zw (Zwy Z Z (T.e 16 Z) Z) (Zr1 Z (T.e 14 Z) h27 (T.e 0 Z))) Z (fun _ T=>Zq (Zr0 Z (T.e 17 Z) Z (T.e 0 Z))) Z ?_;intro ac T
    refine wpList_nil ?_
    refine nqR_n M ?_;clear M;intro wc M
    replace SAu3:=SAu3.pt
    replace SGu2:=SGu2.pt
    replace SI:=SI.pt
    replace SPu3:=SPu3.pt
    replace Sa:=Sa.pt
    replace Shu5:=Shu5.pt
    replace Sm:=Sm.pt
    replace Stu4:=Stu4.pt
    replace Swu6:=Swu6.pt
    replace T:=T.pick [0,30,32,35] rfl
    exact ⟨(T.pick (E':=[(10,Zi (turnW tL)),(13,Zi (turnW hL)),(18,.bool fa),(169,.bool true)]) [1,2,3,0] Z).as (by (try rw [show (!fm)=false from h21]);(try rw [show fm=true from h27]);(try rw [show (!(decide (hE=0)))=false from (by simp [h28])]);(try rw [show (!(decide ((turnW hL)=(turnW sm))))=true from (by simp [h29])]);(try rfl)),M.mask [] Z⟩
   replace h29:(turnW hL)=(turnW sm):=by first | (rw [Bool.not_eq_false'] at h29;exact of_decide_eq_true h29) | simpa using h29
   refine Zg2 T (Zw (Zwy Z Z (T.e 0 Z) (by simp [h29])) (Zrm Z (T.e 24 Z))) Z (fun _ T=>Zw (Zwy Z Z (T.e 1 Z) (by simp [h29])) (Zrm Z (T.e 28 Z))) Z ?_;intro ac T
   refine l_w (Zwy Z Z (T.e 2 Z) (by simp [h29])) ?_;intro K hK
   have es9:hL=sm:=(km1 (by assumption)).2
   have el9:hL.length=sm.length:=by rw [es9]
   refine Zod T Z Z Z Z evf (.cons (T.e 1 Z) (.cons (T.e 0 Z) .nil)) Try.func31 Z Z ?_
   refine Calls.mono (sameInts_same _ _ _ sm.length _ _ hL _ (Shu5.rd M (subL (Zsq _ _))) (by rw [es9];exact Sm.rd M (Zsq _ _)) (by omega) (by omega)) ?_
   clear T;rintro e wc ⟨rfl,hb⟩ ac T
   replace M:=M.call hb;clear hb
   refine Zso hK _ _ ?_;clear hK K
   refine Zg4 (v1:=(.bool false)) T (Zw (Zwy Z Z (T.e 3 Z) (by simp [h29])) (Zrq (rn_not Z (T.e 0 Z)) (by simp))) Z (fun _ T=>Zw (Zwy Z Z (T.e 13 Z) h27) (Zr0 Z (T.e 4 Z) (by simp [h29]) (T.e 0 Z))) Z (fun _ T=>Zw (Zwy Z Z (T.e 16 Z) Z) (Zr1 Z (T.e 14 Z) h27 (T.e 0 Z))) Z (fun _ T=>Zq (Zr0 Z (T.e 17 Z) Z (T.e 0 Z))) Z ?_;intro ac T
   refine wpList_nil ?_
   refine nqR_n M ?_;clear M;intro wc M
   replace SAu3:=SAu3.pt
   replace SGu2:=SGu2.pt
   replace SI:=SI.pt
   replace SPu3:=SPu3.pt
   replace Sa:=Sa.pt
   replace Shu5:=Shu5.pt
   replace Sm:=Sm.pt
   replace Stu4:=Stu4.pt
   replace Swu6:=Swu6.pt
   replace T:=T.pick [0,30,32,35] rfl
   exact ⟨(T.pick (E':=[(10,Zi (turnW tL)),(13,Zi (turnW hL)),(18,.bool fa),(169,.bool false)]) [1,2,3,0] Z).as (by (try rw [show (!fm)=false from h21]);(try rw [show fm=true from h27]);(try rw [show (!(decide (hE=0)))=false from (by simp [h28])]);(try rw [show (!(decide ((turnW hL)=(turnW sm))))=false from (by simp [h29])]);(try rfl)),M.mask [] Z⟩
  refine Zg8 T (Zp (Zwn Z Z (T.e 0 Z) h27)) Z (fun _ T=>Zp (Zwn Z Z (T.e 1 Z) h27)) Z (fun _ T=>Zp (Zwn Z Z (T.e 2 Z) h27)) Z (fun _ T=>Zp (Zwu Z Z (T.e 0 Z))) Z (fun _ T=>Zp (Zwu Z Z (T.e 1 Z))) Z (fun _ T=>Zp (Zwu Z Z (T.e 2 Z))) Z (fun _ T=>Zp (Zwu Z Z (T.e 3 Z))) Z (fun _ T=>Zp (Zwn Z Z (T.e 7 Z) h27)) Z ?_;intro ac T
  refine Zg8 T (Zp (Zwn Z Z (T.e 8 Z) h27)) Z (fun _ T=>Zp (Zwu Z Z (T.e 0 Z))) Z (fun _ T=>Zp (Zwu Z Z (T.e 1 Z))) Z (fun _ T=>Zp (Zwu Z Z (T.e 2 Z))) Z (fun _ T=>Zp (Zwu Z Z (T.e 3 Z))) Z (fun _ T=>Zp (Zwn Z Z (T.e 13 Z) h27)) Z (fun _ T=>Zw (Zwy Z Z (T.e 16 Z) Z) (Zr0 Z (T.e 14 Z) h27 evc)) Z (fun _ T=>Zq (Zr0 Z (T.e 17 Z) Z (T.e 0 Z))) Z ?_;intro ac T
  refine wpList_nil ?_
  refine nqR_n M ?_;clear M;intro wc M
  replace SAu3:=SAu3.pt
  replace SGu2:=SGu2.pt
  replace SI:=SI.pt
  replace SPu3:=SPu3.pt
  replace Sa:=Sa.pt
  replace Shu5:=Shu5.pt
  replace Sm:=Sm.pt
  replace Stu4:=Stu4.pt
  replace Swu6:=Swu6.pt
  replace T:=T.pick [0,30,32,35] rfl
  exact ⟨(T.pick (E':=[(10,Zi (turnW tL)),(13,Zi (turnW hL)),(18,.bool fa),(169,.bool false)]) [1,2,3,0] Z).as (by (try rw [show (!fm)=false from h21]);(try rw [show fm=false from h27]);(try rfl)),M.mask [] Z⟩
 clear T M
 rintro ac wc ⟨T,M⟩
 refine wB_cond_split hP (T.e 3 Z) ?_ ?_
 ·intro h30
  (have h30':=h30;try simp only [Zb1,Zb2,Zb3,Zb4,Zb5,Zb6,Zb7] at h30')
  refine wpB_seq hP ?_
  refine b_lone hP w fun T9=>?_
  replace M:=M.tp T9 0 0
  replace SAu3:=SAu3.tp T9 0
  replace SGu2:=SGu2.tp T9 0
  replace SI:=SI.tp T9 0
  replace SPu3:=SPu3.tp T9 0
  replace Sa:=Sa.tp T9 0
  replace Shu5:=Shu5.tp T9 0
  replace Sm:=Sm.tp T9 0
  replace Stu4:=Stu4.tp T9 0
  replace Swu6:=Swu6.tp T9 0
  refine wp_region_lit ?_
  refine lq T (Zra Z evc) ?_;intro ac T
  refine wpList_nil ?_
  refine nqR_n M ?_;clear M;intro wc M
  replace SAu3:=SAu3.pt
  replace SGu2:=SGu2.pt
  replace SI:=SI.pt
  replace SPu3:=SPu3.pt
  replace Sa:=Sa.pt
  replace Shu5:=Shu5.pt
  replace Sm:=Sm.pt
  replace Stu4:=Stu4.pt
  replace Swu6:=Swu6.pt
  replace T:=T.pick [0] rfl
  refine nm_then ?_
  refine wpB_ret hP ?_
  refine Zrt ?_
  refine rt_1 T Z (T.e 0 Z) ?_
  exfalso
  first | exact Bool.eq_false_iff.1 (turned_no ka0 (fun h9=>⟨(ka1 h9).1,by rw [(ka1 h9).2]⟩)) h30 | exact Bool.eq_false_iff.1 (turned_no km0 (fun h9=>⟨(km1 h9).1,by rw [(km1 h9).2]⟩)) h30
 intro h30
 (have h30':=h30;try simp only [Zb1,Zb2,Zb3,Zb4,Zb5,Zb6,Zb7] at h30')
 refine wpB_skip hP ?_
 refine nm_then ?_
 refine cutB_seq hP (fun ac wc=>Tm ac 180 [(2,.bool ((!fa) || (decide ((turnW hL)≤(turnW tL)))))]∧Mem w noEx wc ((Ibu2++Ipu3++Itu4++Ihu5++Iwu6))) ?_ ?_
 ·refine rB_preN hP w 8 (by decide) fun T9=>?_
  replace M:=M.tp T9 0 0
  replace SAu3:=SAu3.tp T9 0
  replace SGu2:=SGu2.tp T9 0
  replace SI:=SI.tp T9 0
  replace SPu3:=SPu3.tp T9 0
  replace Sa:=Sa.tp T9 0
  replace Shu5:=Shu5.tp T9 0
  replace Sm:=Sm.tp T9 0
  replace Stu4:=Stu4.tp T9 0
  replace Swu6:=Swu6.tp T9 0
  refine Zg3 T (Zq (Zrm Z (T.e 2 Z))) Z (fun _ T=>Zq (rn_not Z (T.e 0 Z))) Z (Zm 0 Z Z) Z ?_;intro ac T
  rcases Zx9 (!fa) with h31 | h31
  ·refine Zg5 T (Zp (Zwn Z Z (T.e 0 Z) h31)) Z (fun _ T=>Zp (Zwn Z Z (T.e 1 Z) h31)) Z (fun _ T=>Zp (Zwn Z Z (T.e 2 Z) h31)) Z (fun _ T=>Zq (Zr1 Z (T.e 3 Z) h31 evc)) Z (Zm 0 Z Z) Z ?_;intro ac T
   refine wpList_nil ?_
   refine pqR_n M ?_;clear M;intro wc M
   replace SAu3:=SAu3.pt
   replace SGu2:=SGu2.pt
   replace SI:=SI.pt
   replace SPu3:=SPu3.pt
   replace Sa:=Sa.pt
   replace Shu5:=Shu5.pt
   replace Sm:=Sm.pt
   replace Stu4:=Stu4.pt
   replace Swu6:=Swu6.pt
   refine rB_call hP (m:=2) (first:=[]) (cap:=[]) T Z Z Z Z Z evf .nil Try.func16 Z Z (airy_any hP _) ?_ (Zwy Z Z (T.e 0 Z) Z)
   clear T
   rintro e wc ⟨rfl,hb⟩
   refine ⟨_,Z,?_⟩
   intro ac T
   replace M:=M.call hb;clear hb
   refine rB_moreN hP w 2 0 Z (by decide) fun T9=>?_
   replace M:=M.tp T9 0 0
   replace SAu3:=SAu3.tp T9 0
   replace SGu2:=SGu2.tp T9 0
   replace SI:=SI.tp T9 0
   replace SPu3:=SPu3.tp T9 0
   replace Sa:=Sa.tp T9 0
   replace Shu5:=Shu5.tp T9 0
   replace Sm:=Sm.tp T9 0
   replace Stu4:=Stu4.tp T9 0
   replace Swu6:=Swu6.tp T9 0
   refine Zg2 T (Zq (Zr1 Z (T.e 1 Z) Z (T.e 0 Z))) Z (Za 0 Z Z) Z ?_;intro ac T
   refine wpList_nil ?_
   refine pqR_n M ?_;clear M;intro wc M
   replace SAu3:=SAu3.pt
   replace SGu2:=SGu2.pt
   replace SI:=SI.pt
   replace SPu3:=SPu3.pt
   replace Sa:=Sa.pt
   replace Shu5:=Shu5.pt
   replace Sm:=Sm.pt
   replace Stu4:=Stu4.pt
   replace Swu6:=Swu6.pt
   refine rB_nil hP ?_
   replace T:=T.pick [0] rfl
   exact ⟨(T.pick (E':=[(2,.bool true)]) [0] Z).as (by (try rw [show (!fa)=true from h31]);(try rfl)),M.mask [] Z⟩
  refine Zg5 T (Zw (Zwy Z Z (T.e 0 Z) h31) (Zrm Z (T.e 4 Z))) Z (fun _ T=>Zw (Zwy Z Z (T.e 1 Z) h31) (Zrm Z (T.e 4 Z))) Z (fun _ T=>Zw (Zwy Z Z (T.e 2 Z) h31) (rn_leq Z (T.e 1 Z) (T.e 0 Z))) Z (fun _ T=>Zq (Zr0 Z (T.e 3 Z) h31 (T.e 0 Z))) Z (Zm 0 Z Z) Z ?_;intro ac T
  refine wpList_nil ?_
  refine pqR_n M ?_;clear M;intro wc M
  replace SAu3:=SAu3.pt
  replace SGu2:=SGu2.pt
  replace SI:=SI.pt
  replace SPu3:=SPu3.pt
  replace Sa:=Sa.pt
  replace Shu5:=Shu5.pt
  replace Sm:=Sm.pt
  replace Stu4:=Stu4.pt
  replace Swu6:=Swu6.pt
  rcases Zx9 (decide ((turnW hL)≤(turnW tL))) with h32 | h32
  ·replace h32:=of_decide_eq_true h32
   refine rB_call hP (m:=2) (first:=[]) (cap:=[]) T Z Z Z Z Z evf .nil Try.func16 Z Z (airy_any hP _) ?_ (Zwy Z Z (T.e 0 Z) (Zdt h32))
   clear T
   rintro e wc ⟨rfl,hb⟩
   refine ⟨_,Z,?_⟩
   intro ac T
   replace M:=M.call hb;clear hb
   refine rB_moreN hP w 2 0 Z (by decide) fun T9=>?_
   replace M:=M.tp T9 0 0
   replace SAu3:=SAu3.tp T9 0
   replace SGu2:=SGu2.tp T9 0
   replace SI:=SI.tp T9 0
   replace SPu3:=SPu3.tp T9 0
   replace Sa:=Sa.tp T9 0
   replace Shu5:=Shu5.tp T9 0
   replace Sm:=Sm.tp T9 0
   replace Stu4:=Stu4.tp T9 0
   replace Swu6:=Swu6.tp T9 0
   refine Zg2 T (Zq (Zr1 Z (T.e 1 Z) (Zdt h32) (T.e 0 Z))) Z (Za 0 Z Z) Z ?_;intro ac T
   refine wpList_nil ?_
   refine pqR_n M ?_;clear M;intro wc M
   replace SAu3:=SAu3.pt
   replace SGu2:=SGu2.pt
   replace SI:=SI.pt
   replace SPu3:=SPu3.pt
   replace Sa:=Sa.pt
   replace Shu5:=Shu5.pt
   replace Sm:=Sm.pt
   replace Stu4:=Stu4.pt
   replace Swu6:=Swu6.pt
   refine rB_nil hP ?_
   replace T:=T.pick [0] rfl
   exact ⟨(T.pick (E':=[(2,.bool true)]) [0] Z).as (by (try rw [show (!fa)=false from h31]);(try rw [show (decide ((turnW hL)≤(turnW tL)))=true from (Zdt h32)]);(try rfl)),M.mask [] Z⟩
  replace h32:=of_decide_eq_false h32
  refine rB_moreN hP w 3 0 Z (by decide) fun T9=>?_
  replace M:=M.tp T9 0 0
  replace SAu3:=SAu3.tp T9 0
  replace SGu2:=SGu2.tp T9 0
  replace SI:=SI.tp T9 0
  replace SPu3:=SPu3.tp T9 0
  replace Sa:=Sa.tp T9 0
  replace Shu5:=Shu5.tp T9 0
  replace Sm:=Sm.tp T9 0
  replace Stu4:=Stu4.tp T9 0
  replace Swu6:=Swu6.tp T9 0
  refine Zg3 T (Zp (Zwn Z Z (T.e 0 Z) (Zdf h32))) Z (fun _ T=>Zq (Zr0 Z (T.e 1 Z) (Zdf h32) evc)) Z (Za 0 Z Z) Z ?_;intro ac T
  refine wpList_nil ?_
  refine pqR_n M ?_;clear M;intro wc M
  replace SAu3:=SAu3.pt
  replace SGu2:=SGu2.pt
  replace SI:=SI.pt
  replace SPu3:=SPu3.pt
  replace Sa:=Sa.pt
  replace Shu5:=Shu5.pt
  replace Sm:=Sm.pt
  replace Stu4:=Stu4.pt
  replace Swu6:=Swu6.pt
  refine rB_nil hP ?_
  replace T:=T.pick [0] rfl
  exact ⟨(T.pick (E':=[(2,.bool false)]) [0] Z).as (by (try rw [show (!fa)=false from h31]);(try rw [show (decide ((turnW hL)≤(turnW tL)))=false from (Zdf h32)]);(try rfl)),M.mask [] Z⟩
 clear T M
 rintro ac wc ⟨T,M⟩
 refine wpB_ret hP ?_
 refine rt_1 T Z (T.e 0 Z) ?_
 refine ⟨congrArg Ending.returned (congrArg Value.bool ?_),M.below⟩
 rcases Zx9 fa with q1 | q1
 · simp [q1,kt q1]
 · simp [q1]
end
end Go.Proofs.Ytoheddpnnjldgaa


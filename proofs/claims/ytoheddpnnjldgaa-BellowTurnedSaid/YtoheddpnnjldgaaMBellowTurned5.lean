/-
  Walks of functions,and plain laws (texts put together). No condition.
-/
import Derived.ChangeKeysEq
import Derived.Test.YtoheddpnnjldgaaMBellowTurned1
import Derived.Test.YtoheddpnnjldgaaMBellowTurned2
import Derived.Test.YtoheddpnnjldgaaMBellowTurned3
import Derived.Test.YtoheddpnnjldgaaMBellowTurned4
set_option maxRecDepth 100000
set_option maxHeartbeats 1000000
set_option linter.unusedSimpArgs false
set_option linter.unusedVariables false
set_option linter.unusedSectionVars false
namespace Go.Proofs.Ytoheddpnnjldgaa
open Go.RowKit
section
open Go.RowKit Go.Proofs.Ytoheddpnnjldgaa.Bq
set_option maxHeartbeats 4000000 in
theorem Mend_any {J:Nat→Option Obj} (hP:FuncsOk Try.prog) (b:Bw) (A:Option Addr) (c:Nat) (D:Option Addr) (d:Nat) (p:List Nt) (P:Option Addr) (pc:Nat)  (w:World) (hA:Rd w w.heap.size 2 A b.cs.length (rc b.cs)) (hD:Rd w w.heap.size 4 D b.ts.length (lkc b.ts)) (hop:∀ t∈b.ts,Rd w w.heap.size 1 t.A t.op.length (ic t.op)) (nA:b.cs.length≤1000) (nD:b.ts.length≤1000) (nop:∀ t∈b.ts,t.op.length≤1000) (hP9:Rd w w.heap.size 4 P p.length (ntc p)) (nP:p.length≤1000)  :
   CallsB Try.prog J 72 #[.agg #[Zi b.full,Zi b.a0,Zi b.a1,.slice A b.cs.length c,.slice D b.ts.length d],.slice P p.length pc] w (LsEPost (menL b p) (menE b p) w):=by
 obtain ⟨bA,oA,SA⟩:=Sp.old hA
 obtain ⟨bD,oD,SD⟩:=Sp.old hD
 obtain ⟨bP,oP,SP⟩:=Sp.old hP9
 refine px_enterB hP noEx Try.func72 Z 26 Z [.agg #[Zi b.full,Zi b.a0,Zi b.a1,.slice A b.cs.length c,.slice D b.ts.length d],.slice P p.length pc] Z Z (Mem.init w _) ?_
 intro ac wc T M
 refine wpB_seq hP ?_
 refine b_lone hP w fun T9=>?_
 replace M:=M.tp T9 0 0
 replace SA:=SA.tp T9 0
 replace SD:=SD.tp T9 0
 replace SP:=SP.tp T9 0
 refine wp_region_lit ?_
 refine Zl2 ?_
 refine Zob M T Z Z Z Z (T.e 0 Z) Z ?_;clear M T;intro g1 wc ac M T
 refine Zl2 ?_
 refine Zob M T Z Z Z Z (T.e 2 Z) Z ?_;clear M T;intro g2 wc ac M T
 refine Zg2 T (Zq (Zra Z evc)) Z (Zc Z) Z ?_;intro ac T
 refine wpList_nil ?_
 refine nqR_n M ?_;clear M;intro wc M
 replace SA:=SA.pt
 replace SD:=SD.pt
 replace SP:=SP.pt
 replace T:=T.pick [2,3] rfl
 refine nm_then ?_
 refine wpB_seq hP ?_
 refine gB_start2 hP M (M.mask [true,true] Z) 11 (by kernel_rfl) Z (by kernel_rfl) ?_
 clear M;intro wc M
 refine gB_have (fun ac wc=>∃ (Akur1_4:Option Addr),∃ (ckur1_4:Nat),∃ (Ikur1_4:List (Nat×BA)),∃ (lkur1_4:List L4),∃ (ekur1_4:Int),∃ (bkur1_4:Nat),∃ (okur1_4:Nat),(lkur1_4=knownL b [(pieceE p)])∧(ekur1_4=knownE b [(pieceE p)])∧(Sp w noEx Ikur1_4 Akur1_4 lkur1_4.length 4 bkur1_4 okur1_4 (l4c lkur1_4))∧∃ (gr1_8 gr1_3:Nat),Tm ac 26 [(6,Zj gr1_8),(15,Zi ekur1_4),(14,.slice Akur1_4 lkur1_4.length ckur1_4),(8,.tuple #[.slice Akur1_4 lkur1_4.length ckur1_4,Zi ekur1_4]),(13,.tuple #[.slice Akur1_4 lkur1_4.length ckur1_4,Zi ekur1_4]),(12,.slice (some ⟨gr1_3,0,none⟩) 1 1),(11,Zi (pieceE p)),(10,.slice P p.length pc),(9,.agg #[Zi b.full,Zi b.a0,Zi b.a1,.slice A b.cs.length c,.slice D b.ts.length d]),(3,Zj g2),(2,Zj g1)]∧Mem w noEx wc ((gr1_8,.cells [.slice none 0 0])::(gr1_3,.cells [Zi (pieceE p)])::(g2,.cells [.slice P p.length pc])::(g1,.cells [Zi b.full,Zi b.a0,Zi b.a1,.slice A b.cs.length c,.slice D b.ts.length d])::Ikur1_4)) (Zpb 11 511) 2 ?_ ?_
 ·clear T M
  rintro ac wc ⟨Akur1_4,ckur1_4,Ikur1_4,lkur1_4,ekur1_4,bkur1_4,okur1_4,hlkur1_4,hekur1_4,SLkur1_4,gr1_8,gr1_3,T,M⟩
  refine gB_w (i:=9) (by kernel_rfl) Z (by kernel_rfl:(Zpb 11 511).setIfInBounds 9 true=Zpb 11 1023) Z ?_;intro T9 K hK
  replace M:=M.tp T9 0 0
  replace SA:=SA.tp T9 0
  replace SD:=SD.tp T9 0
  replace SLkur1_4:=SLkur1_4.tp T9 0
  replace SP:=SP.tp T9 0
  refine Zot M T Z Z (T.e 0 Z) (T.e 2 Z) Z .head Z Z ?_;clear M T;intro wc ac M T
  refine gB_out hK M ?_;clear hK K M;intro wc M
  replace SA:=SA.pt
  replace SD:=SD.pt
  replace SLkur1_4:=SLkur1_4.pt
  replace SP:=SP.pt
  refine ⟨(M.perm [2,3] Z Z),?_⟩
  refine gB_q (T:=T) (i:=10) Z (by kernel_rfl) (by kernel_rfl:(Zpb 11 1023).setIfInBounds 10 true=Zpb 11 2047) (fun _=>si_U) Z Z Z Z (fun _ _ _ _ _ _=>(Zra Z (T.e 1 Z))) ?_;intro ac T
  refine gB_done (by kernel_rfl) M ?_;clear M;intro wc M
  replace T:=T.pick [0,1,10,11] rfl
  replace M:=M.mask [true,false,true,true] rfl
  refine nm_then ?_
  refine b_lone hP w fun T9=>?_
  replace M:=M.tp T9 0 0
  replace SA:=SA.tp T9 0
  replace SD:=SD.tp T9 0
  replace SLkur1_4:=SLkur1_4.tp T9 0
  replace SP:=SP.tp T9 0
  generalize hw9:Bq.tp w T9 0=w at M SA SD SLkur1_4 SP
  generalize Bq.tp wc T9 0=wc at M ⊢
  refine wp_seq ?_
  refine Zsr ?_
  refine Zg2 T (Zq (Zrm Z (T.e 0 Z))) Z (fun _ T=>Zq (rn_neq Z (T.e 0 Z) evc)) Z ?_;intro ac T
  replace T:=T.pick [0,2,3,4,5] rfl
  refine Zln ?_
  refine wp_ifn (T.e 0 Z) ?_ ?_
  ·intro h1
   refine Zsr ?_
   refine Zg3 T (Zq (Zrm Z (T.e 1 Z))) Z (Zc Z) Z (Za 1 Z Z) Z ?_;intro ac T
   refine wpList_nil ?_
   replace T:=T.pick [0,1] rfl
   replace M:=M.mask [false,false,false] rfl
   refine Znr ?_
   refine Zrt ?_
   subst hw9
   refine nqR_r M ?_;clear M;intro wc M
   refine rt_2 T Z (T.e 1 Z) (T.e 0 Z) ?_
   have hke:knownE b [pieceE p]≠0:=by rw [← hekur1_4];omega
   have e9:menL b p=[]∧menE b p=ekur1_4:=by unfold menL menE;rw [if_pos hke,if_pos hke,hekur1_4];exact ⟨rfl,rfl⟩
   rw [e9.1,e9.2]
   exact ⟨none,0,[],Z,Nat.le_refl _,⟨0,0,fun w1 ex=>Sp.nil⟩,M.sub (Zz9 _)⟩
  intro h1
  have hke:knownE b [pieceE p]=0:=by rw [← hekur1_4];omega
  obtain ⟨hgood,hf9,hlt,hl4,hlp,hln⟩:=known_ok nop hke
  rw [← hlkur1_4] at hlt hl4 hlp hln
  have hgp:=pieceE_good (first1 hf9)
  have hgb:=hgood.airs
  have h4:=hgood.n4
  refine Zsk ?_
  refine Zsr ?_
  refine Zg4 (v1:=(.pointer (some ⟨g1,3,none⟩))) (v4:=(.func (.func 116) #[] #[Zj g1,Zj gr1_8,Zj g2])) T (Zq (Zrg 3 Z (T.e 4 Z))) Z (Zo M 2 0 Z Z Z Z) Z (Zl Try.underlying24 0 Z Z) Z (fun _ T=>Zq (rn_makeFunc Z .nil (.cons (T.e 7 Z) (.cons (T.e 5 Z) (.cons (T.e 6 Z) .nil))))) Z ?_;intro ac T
  refine Zl2 ?_
  have hP8:=SP.rd M (Zz9 _)
  have hL8:=SLkur1_4.rd M (.cons _ (.cons _ (.cons _ (List.Sublist.refl _))))
  have q5:=M.nth 2 rfl
  have q6:=M.nth 0 rfl
  have q7:=M.nth 1 rfl
  refine Zod T Z Z Z Z evf (.cons (T.e 1 Z) (.cons (T.e 0 Z) .nil)) Try.func88 Z Z ?_
  refine Calls.mono (fewest_any b.cs.length 116 _ [Zj g1,Zj gr1_8,Zj g2] (fun m=>fineB b p (sumsB (cornL b.cs.length m) lkur1_4)) _ (by omega) Try.func116 Z Z (fun x W hW hR hx=>mend1_any b A c D d p P pc lkur1_4 Akur1_4 ckur1_4 x.A x.c x.l g1 gr1_8 g2 W ((hP8.below hW).more hW.size) hR ((hL8.below hW).more hW.size) (by omega) hl4 h4 (by have:=hx.2;omega) hgp hgb (q5.below hW) (q6.below hW) (q7.below hW))) ?_
  clear T;rintro e wc ⟨Awu1,cwu1,Iwu1,rfl,hwcu1,⟨bwu1,owu1,hSwu1⟩,N⟩ ac T
  replace M:=(M.join N).swapI
  clear N
  replace M:Mem w noEx wc ((gr1_8,.cells [.slice Akur1_4 lkur1_4.length ckur1_4])::(g2,.cells [.slice P p.length pc])::(g1,.cells [Zi b.full,Zi b.a0,Zi b.a1,.slice A b.cs.length c,.slice D b.ts.length d])::(Ikur1_4++Iwu1)):=M
  refine Zg4 T (Zq (Zre Z (T.e 0 Z) Z)) Z (Ze 1 Z Z Z) Z (Za 1 Z Z) Z (Za 1 Z Z) Z ?_;intro ac T
  refine wpList_nil ?_
  replace T:=T.pick [0,1] rfl
  replace M:=M.mask [false,false,false] rfl
  refine Znr ?_
  subst hw9
  refine nqR_r M ?_;clear M;intro wc M
  refine rt_2 T Z (T.e 1 Z) (T.e 0 Z) ?_
  have e9:menL b p=fewL b.cs.length (fun m=>fineB b p (sumsB (cornL b.cs.length m) lkur1_4))∧menE b p=fewE b.cs.length (fun m=>fineB b p (sumsB (cornL b.cs.length m) lkur1_4)):=by unfold menL menE;rw [if_neg (by omega),if_neg (by omega),hlt];exact ⟨rfl,rfl⟩
  rw [e9.1,e9.2]
  exact ⟨_,_,Iwu1,Z,hwcu1,⟨_,_,hSwu1⟩,M.sub ((Zsq _ _))⟩
 intro H2
 refine gB_have (fun ac wc=>∃ (gr1_8 gr1_3:Nat),Tm ac 26 [(6,Zj gr1_8),(12,.slice (some ⟨gr1_3,0,none⟩) 1 1),(11,Zi (pieceE p)),(10,.slice P p.length pc),(9,.agg #[Zi b.full,Zi b.a0,Zi b.a1,.slice A b.cs.length c,.slice D b.ts.length d]),(3,Zj g2),(2,Zj g1)]∧Mem w noEx wc [(gr1_8,.cells [.slice none 0 0]),(gr1_3,.cells [Zi (pieceE p)]),(g2,.cells [.slice P p.length pc]),(g1,.cells [Zi b.full,Zi b.a0,Zi b.a1,.slice A b.cs.length c,.slice D b.ts.length d])]) (Zpb 11 271) 6 ?_ ?_
 ·clear T M
  rintro ac wc ⟨gr1_8,gr1_3,T,M⟩
  refine gB_one (i:=4) (by kernel_rfl) (by kernel_rfl:(Zpb 11 271).setIfInBounds 4 true=Zpb 11 287) (opB_call (first:=[]) (cap:=[]) T Z Z Z Z Z evf (.cons (T.e 4 Z) (.cons (T.e 1 Z) .nil)) Try.func77 Z Z (known_any hP b A c D d (some ⟨gr1_3,0,none⟩) 1 [(pieceE p)] _ (SA.rd M (Zz9 _)) (SD.rd M (Zz9 _)) (fun t ht=>M.rd (hop t ht) (Nat.le_refl _)) nA nD nop (M.rdOwn (Zne (i:=1) Z) Z Z) (by first | omega | simp)) ?_ Z)
  clear T
  rintro e wc ⟨Akur1_4,ckur1_4,Ikur1_4,rfl,hckur1_4,N⟩
  refine ⟨_,Z,?_⟩
  intro ac T
  obtain ⟨lkur1_4,hlkur1_4⟩:∃ q,q=knownL b [(pieceE p)]:=⟨_,rfl⟩
  obtain ⟨ekur1_4,hekur1_4⟩:∃ q,q=knownE b [(pieceE p)]:=⟨_,rfl⟩
  rw [← hlkur1_4] at hckur1_4 T
  rw [← hekur1_4] at T
  obtain ⟨bkur1_4,okur1_4,hSkur1_4⟩:=hckur1_4.spV (l4c_length _)
  have SLkur1_4:=hSkur1_4 w noEx
  clear hSkur1_4
  replace M:=(M.join N).swapI
  clear N
  replace M:Mem w noEx wc ((gr1_8,.cells [.slice none 0 0])::(gr1_3,.cells [Zi (pieceE p)])::(g2,.cells [.slice P p.length pc])::(g1,.cells [Zi b.full,Zi b.a0,Zi b.a1,.slice A b.cs.length c,.slice D b.ts.length d])::Ikur1_4):=M
  refine ⟨(M.perm [2,3] Z Z),?_⟩
  refine gB_q (T:=T) (i:=5) Z (by kernel_rfl) (by kernel_rfl:(Zpb 11 287).setIfInBounds 5 true=Zpb 11 319) (fun _=>si_U) Z Z Z Z (fun _ _ _ _ _ _=>(Zrm Z (T.e 0 Z))) ?_;intro ac T
  refine gB_q (T:=T) (i:=6) Z (by kernel_rfl) (by kernel_rfl:(Zpb 11 319).setIfInBounds 6 true=Zpb 11 383) (fun _=>si_U) Z Z Z Z (fun _ _ _ _ _ _=>(Zre Z (T.e 0 Z) Z)) ?_;intro ac T
  refine gB_q (T:=T) (i:=7) Z (by kernel_rfl) (by kernel_rfl:(Zpb 11 383).setIfInBounds 7 true=Zpb 11 511) (fun _=>si_U) Z Z Z Z (fun _ _ _ _ _ _=>(Zre Z (T.e 1 Z) Z)) ?_;intro ac T
  exact H2 _ _ ⟨Akur1_4,ckur1_4,Ikur1_4,lkur1_4,ekur1_4,bkur1_4,okur1_4,hlkur1_4,hekur1_4,SLkur1_4,gr1_8,gr1_3,T.pick [4,0,1,2,3,5,6,7,8,9,10] Z,M⟩
 intro H1
 refine gB_have (fun ac wc=>∃ (gr1_8:Nat),Tm ac 26 [(6,Zj gr1_8),(11,Zi (pieceE p)),(10,.slice P p.length pc),(9,.agg #[Zi b.full,Zi b.a0,Zi b.a1,.slice A b.cs.length c,.slice D b.ts.length d]),(3,Zj g2),(2,Zj g1)]∧Mem w noEx wc [(gr1_8,.cells [.slice none 0 0]),(g2,.cells [.slice P p.length pc]),(g1,.cells [Zi b.full,Zi b.a0,Zi b.a1,.slice A b.cs.length c,.slice D b.ts.length d])]) (Zpb 11 263) 7 ?_ ?_
 ·clear T M
  rintro ac wc ⟨gr1_8,T,M⟩
  refine gB_w (i:=3) (by kernel_rfl) Z (by kernel_rfl:(Zpb 11 263).setIfInBounds 3 true=Zpb 11 271) Z ?_;intro T9 K hK
  replace M:=M.tp T9 0 0
  replace SA:=SA.tp T9 0
  replace SD:=SD.tp T9 0
  replace SP:=SP.tp T9 0
  refine ow_bs (e:=39) [Zi (pieceE p)] M T Z Z Z Z (.cons (T.e 1 Z) .nil) (fun _=>by kernel_rfl) ?_;clear M T;intro gr1_3 wc ac M T
  refine gB_out hK M ?_;clear hK K M;intro wc M
  replace SA:=SA.pt
  replace SD:=SD.pt
  replace SP:=SP.pt
  refine ⟨(M.mask [false,false,true,true] Z),?_⟩
  exact H1 _ _ ⟨gr1_8,gr1_3,T.pick [1,0,2,3,4,5,6] Z,M.perm [1,0,2,3] Z Z⟩
 intro H0
 refine gB_q (T:=T) (i:=0) Z (by kernel_rfl) (by kernel_rfl:(Zpb 11 0).setIfInBounds 0 true=Zpb 11 1) (fun _=>si_U) Z Z Z Z (fun T9 B w' hD hl hS=>(Zrr (Mem.nth (show Mem (Bq.tp w T9 0) noEx w' _ from hS) 1 Z) Z (T.e 1 Z) Z)) ?_;intro ac T
 refine gB_q (T:=T) (i:=1) Z (by kernel_rfl) (by kernel_rfl:(Zpb 11 1).setIfInBounds 1 true=Zpb 11 3) (fun _=>si_U) Z Z Z Z (fun T9 B w' hD hl hS=>(Zro (Mem.nth (show Mem (Bq.tp w T9 0) noEx w' _ from hS) 0 Z) Z (T.e 1 Z) Z)) ?_;intro ac T
 refine gB_m2 (i:=2) (j:=8) (by kernel_rfl) ?_ ?_
 ·refine gB_i Z (by kernel_rfl:(Zpb 11 3).setIfInBounds 2 true=Zpb 11 7) Z ?_;intro T9 K hK
  replace M:=M.tp T9 0 0
  replace SA:=SA.tp T9 0
  replace SD:=SD.tp T9 0
  replace SP:=SP.tp T9 0
  refine Zod T Z Z Z Z evf (.cons (T.e 0 Z) .nil) Try.func40 Z Z ?_
  refine Calls.mono (piece_any p P pc _ (SP.rd M (Zz9 _)) (by omega)) ?_
  clear T;rintro e wc ⟨rfl,hb⟩ ac T
  replace M:=M.call hb;clear hb
  refine gB_out hK M ?_;clear hK K M;intro wc M
  replace SA:=SA.pt
  replace SD:=SD.pt
  replace SP:=SP.pt
  refine ⟨(M.mask [true,true] Z),?_⟩
  refine gB_m2 (i:=3) (j:=8) (by kernel_rfl) ?_ ?_
  ·refine gB_i Z (by kernel_rfl:(Zpb 11 7).setIfInBounds 3 true=Zpb 11 15) Z ?_;intro T9 K hK
   replace M:=M.tp T9 0 0
   replace SA:=SA.tp T9 0
   replace SD:=SD.tp T9 0
   replace SP:=SP.tp T9 0
   refine ow_bs (e:=39) [Zi (pieceE p)] M T Z Z Z Z (.cons (T.e 0 Z) .nil) (fun _=>by kernel_rfl) ?_;clear M T;intro gr1_3 wc ac M T
   refine gB_out hK M ?_;clear hK K M;intro wc M
   replace SA:=SA.pt
   replace SD:=SD.pt
   replace SP:=SP.pt
   refine ⟨(M.mask [false,true,true] Z),?_⟩
   refine gB_m2 (i:=4) (j:=8) (by kernel_rfl) ?_ ?_
   ·refine gB_ic (by kernel_rfl:(Zpb 11 15).setIfInBounds 4 true=Zpb 11 31) (opB_call (first:=[]) (cap:=[]) T Z Z Z Z Z evf (.cons (T.e 3 Z) (.cons (T.e 0 Z) .nil)) Try.func77 Z Z (known_any hP b A c D d (some ⟨gr1_3,0,none⟩) 1 [(pieceE p)] _ (SA.rd M (Zz9 _)) (SD.rd M (Zz9 _)) (fun t ht=>M.rd (hop t ht) (Nat.le_refl _)) nA nD nop (M.rdOwn (Zne (i:=0) Z) Z Z) (by first | omega | simp)) ?_ Z)
    clear T
    rintro e wc ⟨Akur1_4,ckur1_4,Ikur1_4,rfl,hckur1_4,N⟩
    refine ⟨_,Z,?_⟩
    intro ac T
    obtain ⟨lkur1_4,hlkur1_4⟩:∃ q,q=knownL b [(pieceE p)]:=⟨_,rfl⟩
    obtain ⟨ekur1_4,hekur1_4⟩:∃ q,q=knownE b [(pieceE p)]:=⟨_,rfl⟩
    rw [← hlkur1_4] at hckur1_4 T
    rw [← hekur1_4] at T
    obtain ⟨bkur1_4,okur1_4,hSkur1_4⟩:=hckur1_4.spV (l4c_length _)
    have SLkur1_4:=hSkur1_4 w noEx
    clear hSkur1_4
    replace M:=(M.join N).swapI
    clear N
    replace M:Mem w noEx wc ((gr1_3,.cells [Zi (pieceE p)])::(g2,.cells [.slice P p.length pc])::(g1,.cells [Zi b.full,Zi b.a0,Zi b.a1,.slice A b.cs.length c,.slice D b.ts.length d])::Ikur1_4):=M
    refine ⟨(M.perm [1,2] Z Z),?_⟩
    refine gB_q (T:=T) (i:=5) Z (by kernel_rfl) (by kernel_rfl:(Zpb 11 31).setIfInBounds 5 true=Zpb 11 63) (fun _=>si_U) Z Z Z Z (fun _ _ _ _ _ _=>(Zrm Z (T.e 0 Z))) ?_;intro ac T
    refine gB_q (T:=T) (i:=6) Z (by kernel_rfl) (by kernel_rfl:(Zpb 11 63).setIfInBounds 6 true=Zpb 11 127) (fun _=>si_U) Z Z Z Z (fun _ _ _ _ _ _=>(Zre Z (T.e 0 Z) Z)) ?_;intro ac T
    refine gB_q (T:=T) (i:=7) Z (by kernel_rfl) (by kernel_rfl:(Zpb 11 127).setIfInBounds 7 true=Zpb 11 255) (fun _=>si_U) Z Z Z Z (fun _ _ _ _ _ _=>(Zre Z (T.e 1 Z) Z)) ?_;intro ac T
    refine gB_w (i:=8) (by kernel_rfl) Z (by kernel_rfl:(Zpb 11 255).setIfInBounds 8 true=Zpb 11 511) Z ?_;intro T9 K hK
    replace M:=M.tp T9 0 0
    replace SA:=SA.tp T9 0
    replace SD:=SD.tp T9 0
    replace SLkur1_4:=SLkur1_4.tp T9 0
    replace SP:=SP.tp T9 0
    refine Zoa M T Z Z Z Z ?_;clear M T;intro gr1_8 wc ac M T
    refine gB_out hK M ?_;clear hK K M;intro wc M
    replace SA:=SA.pt
    replace SD:=SD.pt
    replace SLkur1_4:=SLkur1_4.pt
    replace SP:=SP.pt
    refine ⟨(M.perm [2,3] Z Z),?_⟩
    exact H2 _ _ ⟨Akur1_4,ckur1_4,Ikur1_4,lkur1_4,ekur1_4,bkur1_4,okur1_4,hlkur1_4,hekur1_4,SLkur1_4,gr1_8,gr1_3,T,M⟩
   refine gB_i Z (by kernel_rfl:(Zpb 11 15).setIfInBounds 8 true=Zpb 11 271) Z ?_;intro T9 K hK
   replace M:=M.tp T9 0 0
   replace SA:=SA.tp T9 0
   replace SD:=SD.tp T9 0
   replace SP:=SP.tp T9 0
   refine Zoa M T Z Z Z Z ?_;clear M T;intro gr1_8 wc ac M T
   refine gB_out hK M ?_;clear hK K M;intro wc M
   replace SA:=SA.pt
   replace SD:=SD.pt
   replace SP:=SP.pt
   refine ⟨(M.mask [false,false,true,true] Z),?_⟩
   exact H1 _ _ ⟨gr1_8,gr1_3,T,M⟩
  refine gB_i Z (by kernel_rfl:(Zpb 11 7).setIfInBounds 8 true=Zpb 11 263) Z ?_;intro T9 K hK
  replace M:=M.tp T9 0 0
  replace SA:=SA.tp T9 0
  replace SD:=SD.tp T9 0
  replace SP:=SP.tp T9 0
  refine Zoa M T Z Z Z Z ?_;clear M T;intro gr1_8 wc ac M T
  refine gB_out hK M ?_;clear hK K M;intro wc M
  replace SA:=SA.pt
  replace SD:=SD.pt
  replace SP:=SP.pt
  refine ⟨(M.mask [false,true,true] Z),?_⟩
  exact H0 _ _ ⟨gr1_8,T,M⟩
 refine gB_i Z (by kernel_rfl:(Zpb 11 3).setIfInBounds 8 true=Zpb 11 259) Z ?_;intro T9 K hK
 replace M:=M.tp T9 0 0
 replace SA:=SA.tp T9 0
 replace SD:=SD.tp T9 0
 replace SP:=SP.tp T9 0
 refine Zoa M T Z Z Z Z ?_;clear M T;intro gr1_8 wc ac M T
 refine gB_out hK M ?_;clear hK K M;intro wc M
 replace SA:=SA.pt
 replace SD:=SD.pt
 replace SP:=SP.pt
 refine ⟨(M.mask [false,true,true] Z),?_⟩
 refine gB_w (i:=2) (by kernel_rfl) Z (by kernel_rfl:(Zpb 11 259).setIfInBounds 2 true=Zpb 11 263) Z ?_;intro T9 K hK
 replace M:=M.tp T9 0 0
 replace SA:=SA.tp T9 0
 replace SD:=SD.tp T9 0
 replace SP:=SP.tp T9 0
 refine Zod T Z Z Z Z evf (.cons (T.e 1 Z) .nil) Try.func40 Z Z ?_
 refine Calls.mono (piece_any p P pc _ (SP.rd M (Zz9 _)) (by omega)) ?_
 clear T;rintro e wc ⟨rfl,hb⟩ ac T
 replace M:=M.call hb;clear hb
 refine gB_out hK M ?_;clear hK K M;intro wc M
 replace SA:=SA.pt
 replace SD:=SD.pt
 replace SP:=SP.pt
 refine ⟨(M.mask [false,true,true] Z),?_⟩
 exact H0 _ _ ⟨gr1_8,T.pick [1,0,2,3,4,5] Z,M⟩
end
section
open Go.RowKit Go.Proofs.Ytoheddpnnjldgaa.Bq
theorem Sl.capLe {e n size:Nat} {A:Option Addr} {c:Nat} {xs:List Value} {I:List (Nat×BA)} {w0 w:World} {ex:Nat→Prop} {L:List (Nat×BA)} (h:Sl e size (.slice A n c) n xs I) (M:Mem w0 ex w L) (hI:I.Sublist L):n≤c:=by
 rcases h with ⟨h1,h2,-,-⟩ | ⟨g,cap,h1,h2⟩
 ·omega
 ·injection h1 with _ _ h3
  subst h3
  obtain ⟨⟨-,h5⟩,h6⟩:=(M.blk (g,.row e size n xs c) (hI.subset (by rw [h2];exact Zz2))).2
  rcases h5 with ⟨h7,-⟩ | ⟨g',cap,cur,h7,-,-,h8,-⟩
  ·cases h7
  ·injection h7 with _ _ h9
   omega
theorem Sl.spV {e n c size:Nat} {A:Option Addr} {xs:List Value} {I:List (Nat×BA)} (h:Sl e size (.slice A n c) n xs I) (hl:xs.length=n * size):∃ b o,∀ (w:World) (ex:Nat→Prop),Sp w ex I A n size b o xs:=by
 rcases h with ⟨h1,rfl,rfl,rfl⟩ | ⟨g,cap,h1,rfl⟩
 ·exact ⟨0,0,fun w ex=>Sp.nil⟩
 ·injection h1 with h1 _ h2
  subst h1
  exact ⟨g,0,fun w ex=>Sp.row (by omega)⟩
theorem Mem.permL {w0 w:World} {ex:Nat→Prop} {L L':List (Nat×BA)} (M:Mem w0 ex w L) (h:L.Perm L'):Mem w0 ex w L' :=
 ⟨M.os,M.tape,M.output,M.size,M.block,fun p hp=>M.blk p (h.mem_iff.2 hp),(h.map (·.1)).nodup M.nd⟩
theorem Mem.tail3 {w0 w:World} {ex:Nat→Prop} {K A B C:List (Nat×BA)} (M:Mem w0 ex w (K++(A++B++C))):Mem w0 ex w (K++(A++C++B)) :=
 M.permL (List.Perm.append_left K (by rw [List.append_assoc,List.append_assoc];exact List.Perm.append_left A List.perm_append_comm))
def mm2 (x y:Int×Int):Int×Int:=(min x.1 y.1,max x.2 y.2)
def inn (i:Nat) (L0 ys:List (Int×Int)) (k:Nat):List (Int×Int):=if i=0 then ys.take k else (List.zipWith mm2 L0 ys).take k++L0.drop k
theorem inn_0 {L0 ys OL:List (Int×Int)} {k:Nat} {y0 y1:Int} (hO:OL=inn 0 L0 ys k) (hk:ys[k]? = some (y0,y1)) (hl:OL.length=k):(OL++[(y0,y1)]).set k (min y0 y0,max y1 y1)=inn 0 L0 ys (k+1):=by
 unfold inn at hO ⊢
 rw [if_pos rfl] at hO ⊢
 rw [List.take_add_one,hk,← hO,Int.min_self,Int.max_self,List.set_append_right _ _ (by omega)]
 simp [hl]
theorem inn_1 {L0 ys OL:List (Int×Int)} {i k:Nat} {y0 y1 z0 z1:Int} (hi:i≠0) (hll:L0.length=ys.length) (hO:OL=inn i L0 ys k) (hk:ys[k]? = some (y0,y1)) (hz:OL[k]? = some (z0,z1)):OL.set k (min z0 y0,max z1 y1)=inn i L0 ys (k+1):=by
 unfold inn at hO ⊢
 rw [if_neg hi] at hO ⊢
 have hkl:=(List.getElem?_eq_some_iff.1 hk).1
 have ht:((List.zipWith mm2 L0 ys).take k).length=k:=by rw [List.length_take,List.length_zipWith];omega
 subst hO
 rw [List.getElem?_append_right (by omega),ht,Nat.sub_self,List.getElem?_drop,Zx0] at hz
 have hd:L0.drop k=(z0,z1)::L0.drop (k+1):=by
  rw [List.drop_eq_getElem_cons (by omega)]
  rw [List.getElem?_eq_getElem (by omega)] at hz
  injection hz with hz
  rw [hz]
 have hzz:(List.zipWith mm2 L0 ys)[k]? = some (mm2 (z0,z1) (y0,y1)):=by rw [List.getElem?_zipWith,hz,hk]
 rw [List.set_append_right _ _ (by omega),ht,Nat.sub_self,hd,Zz7,List.take_add_one,hzz]
 simp [mm2]
theorem inn_end {L0 ys:List (Int×Int)} {i:Nat} (hll:i≠0→L0.length=ys.length):inn i L0 ys ys.length=if i=0 then ys else List.zipWith mm2 L0 ys:=by
 unfold inn
 split
 ·rw [List.take_length]
 ·rename_i h
  rw [List.take_of_length_le (by rw [List.length_zipWith];omega),List.drop_of_length_le (by rw [hll h];omega),Zx4]
def levF (f:Int→List (Int×Int)):List Int→List (Int×Int)
 | []=>[]
 | s::r=>r.foldl (fun acc t=>List.zipWith mm2 acc (f t)) (f s)
theorem levF_succ {f:Int→List (Int×Int)} {ss:List Int} {i:Nat} {s:Int} (h:ss[i]? = some s):levF f (ss.take (i+1))=if i=0 then f s else List.zipWith mm2 (levF f (ss.take i)) (f s):=by
 rw [List.take_add_one,h]
 cases i with
 | zero=>simp [levF]
 | succ i =>
  rw [if_neg (by omega)]
  cases ss with
  | nil=>simp at h
  | cons t r=>simp [levF,List.foldl_append]
theorem levs_len2 (s:Int):∀ (r:Int×Int) (p:List Nt) (g:List Int),g.length=p.length→(levs s r p g).length=p.length
 | _,[],_,_=>by rw [levs_nil];rfl
 | _,_::_,[],h=>by simp at h
 | r,n::p,w::ws,h=>by
  unfold levs
  have:=levs_len2 s (lv1 w r n s) p ws (by simpa using h)
  simp only [Zx1]
  omega
theorem waysE_len {p:List Nt} {g:List Int} (h:waysE p g=0):g.length=p.length:=by
 unfold waysE at h
 split at h
 ·cases h
 ·split at h
  ·cases h
  ·omega
def lvlE (b:Bw) (p:List Nt) (g:List Int):Int:=knownE b [pieceE p,waysE p g]
def lvlL (b:Bw) (p:List Nt) (g:List Int):List (Int×Int):=if lvlE b p g≠0 then [] else levF (fun s=>levs s (b.a0,b.a1) p g) (sums0 b)
def RsEPost (l:List (Int×Int)) (er:Int) (w:World) (e:Ending) (w':World):Prop:=∃ A c I,e=.returned (.tuple #[.slice A l.length c,Zi er])∧l.length≤c∧(∃ b o,∀ (w1:World) (ex:Nat→Prop),Sp w1 ex I A l.length 2 b o (rc l))∧Mem w noEx w' I
set_option maxHeartbeats 4000000 in
theorem Levels_any {J:Nat→Option Obj} (hP:FuncsOk Try.prog) (b:Bw) (A:Option Addr) (c:Nat) (D:Option Addr) (d:Nat) (p:List Nt) (P:Option Addr) (pc:Nat) (G:Option Addr) (n:Nat) (g:List Int)  (w:World) (hA:Rd w w.heap.size 2 A b.cs.length (rc b.cs)) (hD:Rd w w.heap.size 4 D b.ts.length (lkc b.ts)) (hop:∀ t∈b.ts,Rd w w.heap.size 1 t.A t.op.length (ic t.op)) (nA:b.cs.length≤1000) (nD:b.ts.length≤1000) (nop:∀ t∈b.ts,t.op.length≤1000) (hP9:Rd w w.heap.size 4 P p.length (ntc p)) (nP:p.length≤1000) (hG:Rd w w.heap.size 1 G g.length (ic g)) (nG:g.length≤1000)  :
   CallsB Try.prog J 36 #[.agg #[Zi b.full,Zi b.a0,Zi b.a1,.slice A b.cs.length c,.slice D b.ts.length d],.slice P p.length pc,.slice G g.length n] w (RsEPost (lvlL b p g) (lvlE b p g) w):=by
 obtain ⟨bA,oA,SA⟩:=Sp.old hA
 obtain ⟨bD,oD,SD⟩:=Sp.old hD
 obtain ⟨bP,oP,SP⟩:=Sp.old hP9
 obtain ⟨bG,oG,SG⟩:=Sp.old hG
 refine px_enterB hP noEx Try.func36 Z 77 Z [.agg #[Zi b.full,Zi b.a0,Zi b.a1,.slice A b.cs.length c,.slice D b.ts.length d],.slice P p.length pc,.slice G g.length n] Z Z (Mem.init w _) ?_
 intro ac wc T M
 refine wpB_seq hP ?_
 refine b_lone hP w fun T9=>?_
 replace M:=M.tp T9 0 0
 replace SA:=SA.tp T9 0
 replace SD:=SD.tp T9 0
 replace SG:=SG.tp T9 0
 replace SP:=SP.tp T9 0
 refine wp_region_lit ?_
 refine Zl2 ?_
 refine Zob M T Z Z Z Z (T.e 0 Z) Z ?_;clear M T;intro g1 wc ac M T
 refine Zg2 T (Zq (Zra Z evc)) Z (Zc Z) Z ?_;intro ac T
 refine wpList_nil ?_
 refine nqR_n M ?_;clear M;intro wc M
 replace SA:=SA.pt
 replace SD:=SD.pt
 replace SG:=SG.pt
 replace SP:=SP.pt
 replace T:=T.pick [2,4,5] rfl
 refine nm_then ?_
 refine wpB_seq hP ?_
 refine gB_start2 hP M (M.mask [true] Z) 13 (by kernel_rfl) Z (by kernel_rfl) ?_
 clear M;intro wc M
 refine gB_q (T:=T) (i:=0) Z (by kernel_rfl) (by kernel_rfl:(Zpb 13 0).setIfInBounds 0 true=Zpb 13 1) (fun _=>si_U) Z Z Z Z (fun T9 B w' hD hl hS=>(Zrr (Mem.nth (show Mem (Bq.tp w T9 0) noEx w' _ from hS) 0 Z) Z (T.e 0 Z) Z)) ?_;intro ac T
 refine gB_q (T:=T) (i:=1) Z (by kernel_rfl) (by kernel_rfl:(Zpb 13 1).setIfInBounds 1 true=Zpb 13 3) (fun _=>si_U) Z Z Z Z (fun _ _ _ _ _ _=>(Zrm Z (T.e 2 Z))) ?_;intro ac T
 refine gB_q (T:=T) (i:=3) Z (by kernel_rfl) (by kernel_rfl:(Zpb 13 3).setIfInBounds 3 true=Zpb 13 11) (fun _=>si_U) Z Z Z Z (fun _ _ _ _ _ _=>(Zrm Z (T.e 3 Z))) ?_;intro ac T
 refine gB_q (T:=T) (i:=4) Z (by kernel_rfl) (by kernel_rfl:(Zpb 13 11).setIfInBounds 4 true=Zpb 13 27) (fun _=>si_U) Z Z Z Z (fun _ _ _ _ _ _=>(Zrm Z (T.e 5 Z))) ?_;intro ac T
 refine gB_w (i:=2) (by kernel_rfl) Z (by kernel_rfl:(Zpb 13 27).setIfInBounds 2 true=Zpb 13 31) Z ?_;intro T9 K hK
 replace M:=M.tp T9 0 0
 replace SA:=SA.tp T9 0
 replace SD:=SD.tp T9 0
 replace SG:=SG.tp T9 0
 replace SP:=SP.tp T9 0
 refine Zod T Z Z Z Z evf (.cons (T.e 2 Z) .nil) Try.func40 Z Z ?_
 refine Calls.mono (piece_any p P pc _ (SP.rd M (Zz9 _)) (by omega)) ?_
 clear T;rintro e wc ⟨rfl,hb⟩ ac T
 replace M:=M.call hb;clear hb
 refine gB_out hK M ?_;clear hK K M;intro wc M
 replace SA:=SA.pt
 replace SD:=SD.pt
 replace SG:=SG.pt
 replace SP:=SP.pt
 refine ⟨(M.mask [true] Z),?_⟩
 refine gB_w (i:=5) (by kernel_rfl) Z (by kernel_rfl:(Zpb 13 31).setIfInBounds 5 true=Zpb 13 63) Z ?_;intro T9 K hK
 replace M:=M.tp T9 0 0
 replace SA:=SA.tp T9 0
 replace SD:=SD.tp T9 0
 replace SG:=SG.tp T9 0
 replace SP:=SP.tp T9 0
 refine Zod T Z Z Z Z evf (.cons (T.e 2 Z) (.cons (T.e 1 Z) .nil)) Try.func91 Z Z ?_
 refine Calls.mono (checkWays_any p P pc G n g _ (SP.rd M (Zz9 _)) (by omega) (SG.rd M (Zz9 _)) (by omega)) ?_
 clear T;rintro e wc ⟨rfl,hb⟩ ac T
 replace M:=M.call hb;clear hb
 refine gB_out hK M ?_;clear hK K M;intro wc M
 replace SA:=SA.pt
 replace SD:=SD.pt
 replace SG:=SG.pt
 replace SP:=SP.pt
 refine ⟨(M.mask [true] Z),?_⟩
 refine gB_w (i:=6) (by kernel_rfl) Z (by kernel_rfl:(Zpb 13 63).setIfInBounds 6 true=Zpb 13 127) Z ?_;intro T9 K hK
 replace M:=M.tp T9 0 0
 replace SA:=SA.tp T9 0
 replace SD:=SD.tp T9 0
 replace SG:=SG.tp T9 0
 replace SP:=SP.tp T9 0
 refine ow_bs (e:=39) [Zi (pieceE p),Zi (waysE p g)] M T Z Z Z Z (.cons (T.e 1 Z) (.cons (T.e 0 Z) .nil)) (fun _=>by kernel_rfl) ?_;clear M T;intro g2 wc ac M T
 refine gB_out hK M ?_;clear hK K M;intro wc M
 replace SA:=SA.pt
 replace SD:=SD.pt
 replace SG:=SG.pt
 replace SP:=SP.pt
 refine ⟨(M.mask [false,true] Z),?_⟩
 refine gB_one (i:=7) (by kernel_rfl) (by kernel_rfl:(Zpb 13 127).setIfInBounds 7 true=Zpb 13 255) (opB_call (first:=[]) (cap:=[]) T Z Z Z Z Z evf (.cons (T.e 6 Z) (.cons (T.e 0 Z) .nil)) Try.func77 Z Z (known_any hP b A c D d (some ⟨g2,0,none⟩) 2 [(pieceE p),(waysE p g)] _ (SA.rd M (Zz9 _)) (SD.rd M (Zz9 _)) (fun t ht=>M.rd (hop t ht) (Nat.le_refl _)) nA nD nop (M.rdOwn (Zne (i:=0) Z) Z Z) (by first | omega | simp)) ?_ Z)
 clear T
 rintro e wc ⟨Akur1_7,ckur1_7,Ikur1_7,rfl,hckur1_7,N⟩
 refine ⟨_,Z,?_⟩
 intro ac T
 obtain ⟨lkur1_7,hlkur1_7⟩:∃ q,q=knownL b [(pieceE p),(waysE p g)]:=⟨_,rfl⟩
 obtain ⟨ekur1_7,hekur1_7⟩:∃ q,q=knownE b [(pieceE p),(waysE p g)]:=⟨_,rfl⟩
 rw [← hlkur1_7] at hckur1_7 T
 rw [← hekur1_7] at T
 obtain ⟨bkur1_7,okur1_7,hSkur1_7⟩:=hckur1_7.spV (l4c_length _)
 have SLkur1_7:=hSkur1_7 w noEx
 clear hSkur1_7
 replace M:=(M.join N).swapI
 clear N
 replace M:Mem w noEx wc ((g2,.cells [Zi (pieceE p),Zi (waysE p g)])::(g1,.cells [Zi b.full,Zi b.a0,Zi b.a1,.slice A b.cs.length c,.slice D b.ts.length d])::Ikur1_7):=M
 refine ⟨(M.perm [1] Z Z),?_⟩
 refine gB_q (T:=T) (i:=8) Z (by kernel_rfl) (by kernel_rfl:(Zpb 13 255).setIfInBounds 8 true=Zpb 13 511) (fun _=>si_U) Z Z Z Z (fun _ _ _ _ _ _=>(Zrm Z (T.e 0 Z))) ?_;intro ac T
 refine gB_q (T:=T) (i:=9) Z (by kernel_rfl) (by kernel_rfl:(Zpb 13 511).setIfInBounds 9 true=Zpb 13 1023) (fun _=>si_U) Z Z Z Z (fun _ _ _ _ _ _=>(Zre Z (T.e 0 Z) Z)) ?_;intro ac T
 refine gB_q (T:=T) (i:=10) Z (by kernel_rfl) (by kernel_rfl:(Zpb 13 1023).setIfInBounds 10 true=Zpb 13 2047) (fun _=>si_U) Z Z Z Z (fun _ _ _ _ _ _=>(Zre Z (T.e 1 Z) Z)) ?_;intro ac T
 refine gB_q (T:=T) (i:=11) Z (by kernel_rfl) (by kernel_rfl:(Zpb 13 2047).setIfInBounds 11 true=Zpb 13 4095) (fun _=>si_U) Z Z Z Z (fun _ _ _ _ _ _=>(Zra Z (T.e 1 Z))) ?_;intro ac T
 refine gB_q (T:=T) (i:=12) Z (by kernel_rfl) (by kernel_rfl:(Zpb 13 4095).setIfInBounds 12 true=Zpb 13 8191) (fun _=>si_U) Z Z Z Z (fun _ _ _ _ _ _=>(Zra Z (T.e 1 Z))) ?_;intro ac T
 refine gB_done (by kernel_rfl) M ?_;clear M;intro wc M
 replace T:=T.pick [0,1,13,14,15] rfl
 replace M:=M.mask [false,true] rfl
 refine nm_then ?_
 refine b_lone hP w fun T9=>?_
 replace M:=M.tp T9 0 0
 replace SA:=SA.tp T9 0
 replace SD:=SD.tp T9 0
 replace SG:=SG.tp T9 0
 replace SLkur1_7:=SLkur1_7.tp T9 0
 replace SP:=SP.tp T9 0
 generalize hw9:Bq.tp w T9 0=w at M SA SD SG SLkur1_7 SP
 generalize Bq.tp wc T9 0=wc at M ⊢
 refine wp_seq ?_
 refine Zsr ?_
 refine Zg2 T (Zq (Zrm Z (T.e 0 Z))) Z (fun _ T=>Zq (rn_neq Z (T.e 0 Z) evc)) Z ?_;intro ac T
 replace T:=T.pick [0,2,3,4,5,6] rfl
 refine Zln ?_
 refine wp_ifn (T.e 0 Z) ?_ ?_
 ·intro h1
  refine Zsr ?_
  refine Zg3 T (Zq (Zrm Z (T.e 1 Z))) Z (Zc Z) Z (Za 1 Z Z) Z ?_;intro ac T
  refine wpList_nil ?_
  replace T:=T.pick [0,1] rfl
  replace M:=M.mask [false] rfl
  refine Znr ?_
  refine Zrt ?_
  subst hw9
  refine nqR_r M ?_;clear M;intro wc M
  refine rt_2 T Z (T.e 1 Z) (T.e 0 Z) ?_
  have hke:lvlE b p g≠0:=by unfold lvlE;rw [← hekur1_7];omega
  have e9:lvlL b p g=[]∧lvlE b p g=ekur1_7:=⟨by unfold lvlL;rw [if_pos hke],hekur1_7.symm⟩
  rw [e9.1,e9.2]
  exact ⟨none,0,[],Z,Nat.le_refl _,⟨0,0,fun w1 ex=>Sp.nil⟩,M.sub (Zz9 _)⟩
 intro h1
 have hke:knownE b [pieceE p,waysE p g]=0:=by rw [← hekur1_7];omega
 obtain ⟨hgood,hf9,hlt,hl4,hlp,hln⟩:=known_ok nop hke
 rw [← hlkur1_7] at hlt hl4 hlp hln
 obtain ⟨hpe,hwe9⟩:=first2 hf9
 have hgp:=pieceE_good hpe
 have hgb:=hgood.airs
 have h4:=hgood.n4
 have hgl:=waysE_len hwe9
 refine Zsk ?_
 refine Zsr ?_
 refine lq T (Zra Z evc) ?_;intro ac T
 replace T:=T.pick [0,3,4,5,6] rfl
 refine Zln ?_
 refine wp_seq ?_
 refine Zsr ?_
 refine Zg3 T (Zq (Zrr (Mem.nth M 0 Z) Z (T.e 2 Z) Z)) Z (Zm 2 Z Z) Z (Zm 5 Z Z) Z ?_;intro ac T
 refine Zl2 ?_
 refine Zod T Z Z Z Z evf (.cons (T.e 2 Z) (.cons (T.e 1 Z) (.cons (T.e 0 Z) (.cons evc .nil)))) Try.func85 Z Z ?_
 refine Calls.mono (playedBy_any b A c D d lkur1_7 Akur1_7 ckur1_7 p P pc none 0 [] _ (SLkur1_7.rd M (.cons _ (List.Sublist.refl _))) (by omega) hl4 h4 (⟨by simp [ic],fun h=>absurd h (by simp)⟩) (by first | omega | simp)) ?_
 clear T;rintro e wc ⟨Apu3,cpu3,Ipu3,rfl,hclu3,N⟩ ac T
 obtain ⟨svu3,hsvu3⟩:∃ q,q=sumsB (cornL b.cs.length []) lkur1_7:=⟨_,rfl⟩
 rw [← hsvu3] at hclu3 T
 have hssvu3:∀ s∈svu3,0≤s∧s≤20:=by rw [hsvu3];exact sums_bd hl4 h4
 have hnsvu3:svu3.length≤lkur1_7.length:=by rw [hsvu3];exact sumsB_len _
 obtain ⟨bpu3,opu3,Spu3⟩:=hclu3.spV (by rw [pdc_length,List.length_map])
 replace Spu3:=Spu3 w noEx
 replace M:=(M.join N).swapI
 clear N
 replace M:Mem w noEx wc ((g1,.cells [Zi b.full,Zi b.a0,Zi b.a1,.slice A b.cs.length c,.slice D b.ts.length d])::(Ikur1_7++Ipu3)):=M
 refine Zg2 T (Zq (Zrl Z Try.underlying115 (T.e 0 Z))) Z (fun _ T=>Zq (Zrm Z evc)) Z ?_;intro ac T
 refine wpList_nil ?_
 replace T:=T.pick [0,1,2,6,10] rfl
 replace M:=M.mask [false] rfl
 refine nm_then ?_
 refine wp_block ?_
 obtain ⟨LF,hLF⟩:∃ q,q=fun s=>levs s (b.a0,b.a1) p g:=⟨_,rfl⟩
 refine wp_loop_n (fun mz ac wc=>∃ (i:Nat) (L0:List (Int×Int)) (A3:Option Addr) (c3:Nat) (Io:List (Nat×BA)),mz=svu3.length - i∧(i≤svu3.length)∧(L0=levF LF (svu3.take i))∧(L0.length=if i=0 then 0 else p.length)∧(Sl 23 2 (.slice A3 L0.length c3) L0.length (rc L0) Io)∧Tm ac 77 [(2,.slice G g.length n),(10,.slice A3 L0.length c3),(32,.slice Apu3 svu3.length cpu3),(33,Zi ((svu3.length:Nat):Int)),(34,Zi (i:Int))]∧Mem w noEx wc ((Ikur1_7++Ipu3++Io))) ?_ ?_
 ·exact ⟨_,0,[],none,0,[],Z,(Nat.zero_le _),Z,Z,(Sl.nil _ _),T.pick [4,3,2,1,0] Z,(by simp only [Zx4];exact M)⟩
 clear T M
 rintro mz ac wc ⟨i,L0,A3,c3,Io,hmm1,hi,hL0,hLl,hsl,T,M⟩
 refine Zsr ?_
 refine lq T (rn_lss Z (T.e 4 Z) (T.e 3 Z)) ?_;intro ac T
 refine Zln ?_
 refine wp_seq ?_
 refine wp_if (T.e 0 Z) ?_ ?_
 ·intro h2
  obtain ⟨s,hks,-⟩:=ic_next (l:=svu3) (k:=i) (by omega)
  have hs:=hssvu3 s (List.mem_of_getElem? hks)
  have hkx:(svu3.map (mkP b A c D d P pc p))[i]? = some (mkP b A c D d P pc p s):=by rw [List.getElem?_map,hks];rfl
  refine Zsk ?_
  refine wp_seq ?_
  refine wp_block ?_
  refine Zsr ?_
  refine Zg3 (v3:=(.agg #[Zi b.full,Zi b.a0,Zi b.a1,.slice A b.cs.length c,.slice D b.ts.length d,.slice P p.length pc,Zi s])) T (Zq (Zrm Z (T.e 5 Z))) Z (fun _ T=>Zq (Zri (size:=7) i Z (T.e 4 Z) (T.e 6 Z) ⟨_,Try.underlying115,by kernel_rfl⟩ Z (by omega) (Spu3.at0 (by omega)))) Z (fun _ T=>Zq (rn_rowat (Sp.pdcR Spu3 M (subL (Zsq _ _)) hkx) Z (T.e 0 Z) Z)) Z ?_;intro ac T
  refine Zl2 ?_
  refine Zoa M T Z Z Z Z ?_;clear M T;intro g3 wc ac M T
  refine lq T (Zra Z (T.e 3 Z)) ?_;intro ac T
  refine Zl2 ?_
  refine Zot M T Z Z (T.e 1 Z) (T.e 2 Z) Z .head Z Z ?_;clear M T;intro wc ac M T
  replace T:=T.pick [0,1,6,7,8,9,10] rfl
  refine Zln ?_
  refine Zsr ?_
  refine Zg2 T (Zq (Zrr (Mem.nth M 0 Z) Z (T.e 1 Z) Z)) Z (Zm 3 Z Z) Z ?_;intro ac T
  refine Zl2 ?_
  refine Zod T Z Z Z Z evf (.cons (T.e 1 Z) (.cons (T.e 0 Z) .nil)) Try.func92 Z Z ?_
  refine Calls.mono (levels_any b A c D d p P pc s G n g _ (SP.rd M (Zz9 _)) (SG.rd M (Zz9 _)) hgp hgb (by omega) hgl) ?_
  clear T;rintro e wc ⟨Acu4,ccu4,Icu4,rfl,hclu4,N⟩ ac T
  obtain ⟨rlu4,hrlu4⟩:∃ q,q=levs s (b.a0,b.a1) p g:=⟨_,rfl⟩
  rw [← hrlu4] at hclu4 T
  obtain ⟨bRu4,oRu4,SRu4⟩:=hclu4.spV (rc_length _)
  replace SRu4:=SRu4 w noEx
  replace M:=(M.join N).swapI
  clear N
  replace M:Mem w noEx wc ((g3,.cells [Zi b.full,Zi b.a0,Zi b.a1,.slice A b.cs.length c,.slice D b.ts.length d,.slice P p.length pc,Zi s])::(Ikur1_7++Ipu3++Io++Icu4)):=M
  replace M:Mem w noEx wc ((g3,.cells [Zi b.full,Zi b.a0,Zi b.a1,.slice A b.cs.length c,.slice D b.ts.length d,.slice P p.length pc,Zi s])::(Ikur1_7++Ipu3++Icu4++Io)):=M.tail3 (K:=[(g3,.cells [Zi b.full,Zi b.a0,Zi b.a1,.slice A b.cs.length c,.slice D b.ts.length d,.slice P p.length pc,Zi s])]) (A:=Ikur1_7++Ipu3)
  refine Zg2 T (Zq (Zrl Z Try.underlying24 (T.e 0 Z))) Z (fun _ T=>Zq (Zrm Z evc)) Z ?_;intro ac T
  refine wpList_nil ?_
  replace T:=T.pick [0,1,2,5,7,8,9,10,11] rfl
  replace M:=M.mask [false] rfl
  replace M:Mem w noEx wc ((Ikur1_7++Ipu3++Icu4++Io)):=M
  refine nm_then ?_
  refine wp_block ?_
  have hrp:rlu4.length=p.length:=by rw [hrlu4];exact levs_len2 _ _ _ _ hgl
  have hll:i≠0→L0.length=rlu4.length:=fun h=>by rw [hLl,if_neg h,hrp]
  have hp6:=hgp.n6
  refine wp_loop_n (fun mz ac wc=>∃ (k:Nat) (OL:List (Int×Int)) (A4:Option Addr) (c4:Nat) (Ij:List (Nat×BA)),mz=rlu4.length - k∧(k≤rlu4.length)∧(OL=inn i L0 rlu4 k)∧(OL.length=if i=0 then k else rlu4.length)∧(Sl 23 2 (.slice A4 OL.length c4) OL.length (rc OL) Ij)∧Tm ac 77 [(2,.slice G g.length n),(10,.slice A4 OL.length c4),(11,Zi (i:Int)),(32,.slice Apu3 svu3.length cpu3),(33,Zi ((svu3.length:Nat):Int)),(34,Zi (i:Int)),(41,.slice Acu4 rlu4.length ccu4),(42,Zi ((rlu4.length:Nat):Int)),(43,Zi (k:Int))]∧Mem w noEx wc ((Ikur1_7++Ipu3++Icu4++Ij))) ?_ ?_
  ·exact ⟨_,0,L0,A3,c3,Io,Z,(Nat.zero_le _),(by unfold inn;split;exact List.eq_nil_of_length_eq_zero (by rw [hLl,if_pos (by assumption)]);rw [List.take_zero,List.drop_zero,Zx5]),(by rw [hLl];split;rfl;exact hrp.symm),hsl,T.pick [4,5,3,6,7,8,2,1,0] Z,M.mask [] Z⟩
  clear T M
  rintro mz ac wc ⟨k,OL,A4,c4,Ij,hmm2,hk,hO,hOl,hsl4,T,M⟩
  refine Zsr ?_
  refine lq T (rn_lss Z (T.e 8 Z) (T.e 7 Z)) ?_;intro ac T
  refine Zln ?_
  refine wp_seq ?_
  refine wp_if (T.e 0 Z) ?_ ?_
  ·intro h3
   obtain ⟨y0,y1,hky,-⟩:=rc_next (l:=rlu4) (k:=k) (by omega)
   have hol6:OL.length≤6:=by rw [hOl];split <;> omega
   refine Zsk ?_
   refine wp_seq ?_
   refine wp_block ?_
   refine Zsr ?_
   refine Zg3 (v3:=(.agg #[Zi y0,Zi y1])) T (Zq (Zrm Z (T.e 9 Z))) Z (fun _ T=>Zq (Zri (size:=2) k Z (T.e 8 Z) (T.e 10 Z) ⟨_,Try.underlying24,by kernel_rfl⟩ Z (by omega) (SRu4.at0 (by omega)))) Z (fun _ T=>Zq (rn_rowat (Sp.rcR SRu4 M (subL (Zsq _ _)) hky) Z (T.e 0 Z) Z)) Z ?_;intro ac T
   refine Zl2 ?_
   refine Zoa M T Z Z Z Z ?_;clear M T;intro g4 wc ac M T
   refine lq T (Zra Z (T.e 3 Z)) ?_;intro ac T
   refine Zl2 ?_
   refine Zot M T Z Z (T.e 1 Z) (T.e 2 Z) Z .head Z Z ?_;clear M T;intro wc ac M T
   replace T:=T.pick [0,1,6,7,8,9,10,11,12,13,14] rfl
   refine Zln ?_
   refine wp_seq ?_
   refine Zsr ?_
   refine Zg2 T (Zq (Zrm Z (T.e 4 Z))) Z (fun _ T=>Zq (rn_eql Z (T.e 0 Z) evc)) Z ?_;intro ac T
   replace T:=T.pick [0,2,3,4,5,6,7,8,9,10,11,12] rfl
   refine Zln ?_
   refine wp_if (T.e 0 Z) ?_ ?_
   ·intro h4
    refine wp_region_lit ?_
    refine Zg2 T (Zq (Zrm Z (T.e 4 Z))) Z (Zr M 0 3 Z Z Z Z) Z ?_;intro ac T
    refine Zl2 ?_
    refine ow_bs (e:=23) [Zi y0,Zi y1] M T Z Z Z Z (.cons (T.e 0 Z) .nil) (fun _=>by kernel_rfl) ?_;clear M T;intro g5 wc ac M T
    refine Zl2 ?_
    refine ow_app (((g5,.cells [Zi y0,Zi y1])::(g4,.cells [Zi y0,Zi y1])::(Ikur1_7++Ipu3++Icu4))) Try.info23 hsl4 M (by first | rfl | simp) T Z Z Z Z Try.underlying24 Z Z Z (by omega) (T.e 2 Z) (T.e 0 Z) (Zne (i:=0) Z) Z Z ?_;clear M T;intro ga1 cga1 wc ac M T
    refine l_q (v:=(.slice (some ⟨ga1,0,none⟩) (OL.length+1) cga1)) (T.pick [0,1,2,3,4,5,6,7,9,10,11,12,13,14,15] Z) Z Z Z Z (Zra Z (T.e 0 Z)) ?_;intro ac T
    refine wpList_nil ?_
    replace T:=T.pick [0,6,7,8,9,10,11,12,13,14,15] rfl
    replace M:=M.mask [true,false,true] rfl
    replace M:Mem w noEx wc ((ga1,.row 23 2 (OL.length+1) ((rc OL)++[Zi y0,Zi y1]) cga1)::(g4,.cells [Zi y0,Zi y1])::(Ikur1_7++Ipu3++Icu4)):=M
    refine nm_then ?_
    obtain ⟨LN,hLN⟩:∃ q,q=OL++[(y0,y1)]:=⟨_,rfl⟩
    have e9:OL.length+1=LN.length:=by rw [hLN];simp
    have e8:((rc OL)++[Zi y0,Zi y1])=rc LN:=by rw [hLN,← rc_snoc]
    rw [e9,e8] at M
    rw [e9] at T
    have hol9:OL.length=k:=by rw [hOl,if_pos (by omega)]
    have hkY:LN[k]? = some (y0,y1):=by rw [hLN,List.getElem?_append_right (by omega),hol9,Nat.sub_self];rfl
    replace M:=Mem.swapI (I:=[(ga1,.row 23 2 LN.length (rc LN) cga1)]) (L:=((g4,.cells [Zi y0,Zi y1])::(Ikur1_7++Ipu3++Icu4))) (M.permT [0,1] 2 rfl rfl rfl rfl)
    obtain ⟨Iy,hIy⟩:∃ q:List (Nat×BA),q=[(ga1,.row 23 2 LN.length (rc LN) cga1)]:=⟨_,rfl⟩
    rw [← hIy] at M
    have hslY:Sl 23 2 (.slice (some ⟨ga1,0,none⟩) LN.length cga1) LN.length (rc LN) Iy:=by rw [hIy];exact Sl.row _ _ _ _ _ _
    replace M:Mem w noEx wc ((g4,.cells [Zi y0,Zi y1])::(Ikur1_7++Ipu3++Icu4++Iy)):=M
    obtain ⟨bY,hbY,hSY⟩:=hslY.at (rc_length _) (by omega)
    have SY:=hSY w noEx
    refine Zgs M (M.perm [] Z Z) 21 (by kernel_rfl) Z (by kernel_rfl) ?_
    clear M;intro wc M
    refine g_addG 20 M ?_
    refine Zgq T 0 1 Z (fun _=>(Zrm Z (T.e 0 Z))) ?_;intro ac T
    refine Zgq T 1 3 Z (fun _=>(Zrm Z (T.e 2 Z))) ?_;intro ac T
    refine Zgq T 2 7 Z (fun _=>(Zrm Z (T.e 2 Z))) ?_;intro ac T
    refine Zgq T 3 15 Z (fun _=>(Zrm Z (T.e 4 Z))) ?_;intro ac T
    refine Zgq T 4 31 Z (fun _=>(Zri (size:=2) k Z (T.e 1 Z) (T.e 0 Z) ⟨_,Try.underlying24,by kernel_rfl⟩ Z (by omega) hbY)) ?_;intro ac T
    refine Zgq T 5 63 Z (fun _=>(Zrg 0 Z (T.e 0 Z))) ?_;intro ac T
    refine gq T 6 127 Z (fun B w' hD hl hS=>(rn_cell (Sp.rc0 SY (show Mem w noEx w' _ from ((MA.lft hS) (hD.wait (i:=6) (m:=20) (by kernel_rfl) hl))) (.cons _ (Zsq _ _)) hkY) Z (T.e 0 Z))) ?_;intro ac T
    refine Zgq (v:=(Zj g4)) T 7 255 Z (fun _=>(Zrg 0 Z (T.e 9 Z))) ?_;intro ac T
    refine gq T 8 511 Z (fun B w' hD hl hS=>(Zro (Mem.nth (show Mem w noEx w' _ from ((MA.lft hS) (hD.wait (i:=8) (m:=20) (by kernel_rfl) hl))) 0 Z) Z (T.e 0 Z) Z)) ?_;intro ac T
    refine Zgq T 9 1023 Z (fun _=>(rn_min2 Z (T.e 2 Z) (T.e 0 Z))) ?_;intro ac T
    refine Zgq T 10 2047 Z (fun _=>(Zrm Z (T.e 10 Z))) ?_;intro ac T
    refine Zgq T 11 4095 Z (fun _=>(Zrm Z (T.e 12 Z))) ?_;intro ac T
    refine Zgq T 12 8191 Z (fun _=>(Zri (size:=2) k Z (T.e 1 Z) (T.e 0 Z) ⟨_,Try.underlying24,by kernel_rfl⟩ Z (by omega) hbY)) ?_;intro ac T
    refine Zgq T 13 16383 Z (fun _=>(Zrg 1 Z (T.e 0 Z))) ?_;intro ac T
    refine gq T 14 32767 Z (fun B w' hD hl hS=>(rn_cell (Sp.rc1 SY (show Mem w noEx w' _ from ((MA.lft hS) (hD.wait (i:=14) (m:=20) (by kernel_rfl) hl))) (.cons _ (Zsq _ _)) hkY) Z (T.e 0 Z))) ?_;intro ac T
    refine Zgq (v:=(.pointer (some ⟨g4,1,none⟩))) T 15 65535 Z (fun _=>(Zrg 1 Z (T.e 17 Z))) ?_;intro ac T
    refine gq T 16 131071 Z (fun B w' hD hl hS=>(Zro (Mem.nth (show Mem w noEx w' _ from ((MA.lft hS) (hD.wait (i:=16) (m:=20) (by kernel_rfl) hl))) 0 Z) Z (T.e 0 Z) Z)) ?_;intro ac T
    refine Zgq T 17 262143 Z (fun _=>(rn_max2 Z (T.e 2 Z) (T.e 0 Z))) ?_;intro ac T
    refine Zgq (v:=(.agg #[Zi (min y0 y0),Zi (max y1 y1)])) T 18 524287 Z (fun _=>(rn_build Z (.cons (T.e 8 Z) (.cons (T.e 0 Z) .nil)) (fun _=>by kernel_rfl))) ?_;intro ac T
    refine Zgq T 19 1048575 Z (fun _=>(Zri (size:=2) k Z (T.e 18 Z) (T.e 17 Z) ⟨_,Try.underlying24,by kernel_rfl⟩ Z (by omega) hbY)) ?_;intro ac T
    refine gw 20 2097151 ?_;intro K hK
    refine ow_stSlR (((g4,.cells [Zi y0,Zi y1])::(Ikur1_7++Ipu3++Icu4))) M (by first | rfl | simp) hslY T Z Z (T.e 0 Z) hbY (T.e 1 Z) (by omega) (by omega) Z ?_;clear M T;intro Jw1 wc ac hsw1 M T
    replace M:Mem w noEx wc ((g4,.cells [Zi y0,Zi y1])::(Ikur1_7++Ipu3++Icu4++Jw1)):=M
    obtain ⟨lo1,hlo1⟩:∃ q,q=LN.set k ((min y0 y0),(max y1 y1)):=⟨_,rfl⟩
    rw [← hlo1] at hsw1
    have lhlo1:lo1.length=LN.length:=by rw [hlo1,List.length_set]
    refine Zso hK _ _ (MA.mk (fun h=>(no_of (by kernel_rfl) h).elim) (M.perm [] Z Z)) ?_;clear hK K
    refine Zgd (by kernel_rfl) ?_
    replace T:=T.pick [20,23,24,25,26,27,28,29,30] rfl
    replace M:=M.mask [false] rfl
    replace M:Mem w noEx wc ((Ikur1_7++Ipu3++Icu4++Jw1)):=M
    refine Znb ?_
    refine nm_then ?_
    refine wp_region_lit ?_
    refine lq T (rn_add Z (T.e 8 Z) evc (by omega)) ?_;intro ac T
    refine l_q (v:=(Zi ((k:Int)+1))) (T.pick [0,1,2,3,4,5,6,7,8] Z) Z Z Z Z (Zrm Z (T.e 0 Z)) ?_;intro ac T
    replace T:=T.pick [0,2,3,4,5,6,7,8,9] rfl
    refine Zln ?_
    rw [← lhlo1] at T hsw1
    exact ⟨_,by omega,k+1,lo1,some ⟨ga1,0,none⟩,cga1,Jw1,rfl,(by omega),(by rw [hlo1,hLN];obtain rfl:i=0:=(by omega);exact inn_0 hO hky (by simpa using hOl)),(by rw [lhlo1,hLN,Zx3,List.length_singleton,hOl,if_pos (by omega),if_pos (by omega)]),hsw1,T.pick [2,1,3,4,5,6,7,8,0] rfl,M.mask [] rfl⟩
   intro h4
   refine Zsk ?_
   have hol9:OL.length=rlu4.length:=by rw [hOl,if_neg (by omega)]
   obtain ⟨bY,hbY,hSY⟩:=hsl4.at (rc_length _) (by omega)
   have SY:=hSY w noEx
   obtain ⟨z0,z1,hkY,-⟩:=rc_next (l:=OL) (k:=k) (by omega)
   refine Zgs M (M.perm [] Z Z) 21 (by kernel_rfl) Z (by kernel_rfl) ?_
   clear M;intro wc M
   refine g_addG 20 M ?_
   refine Zgq T 0 1 Z (fun _=>(Zrm Z (T.e 4 Z))) ?_;intro ac T
   refine Zgq T 1 3 Z (fun _=>(Zrm Z (T.e 2 Z))) ?_;intro ac T
   refine Zgq T 2 7 Z (fun _=>(Zrm Z (T.e 6 Z))) ?_;intro ac T
   refine Zgq T 3 15 Z (fun _=>(Zrm Z (T.e 4 Z))) ?_;intro ac T
   refine Zgq T 4 31 Z (fun _=>(Zri (size:=2) k Z (T.e 1 Z) (T.e 0 Z) ⟨_,Try.underlying24,by kernel_rfl⟩ Z (by omega) hbY)) ?_;intro ac T
   refine Zgq T 5 63 Z (fun _=>(Zrg 0 Z (T.e 0 Z))) ?_;intro ac T
   refine gq T 6 127 Z (fun B w' hD hl hS=>(rn_cell (Sp.rc0 SY (show Mem w noEx w' _ from ((MA.lft hS) (hD.wait (i:=6) (m:=20) (by kernel_rfl) hl))) (.cons _ (Zsq _ _)) hkY) Z (T.e 0 Z))) ?_;intro ac T
   refine Zgq (v:=(Zj g4)) T 7 255 Z (fun _=>(Zrg 0 Z (T.e 9 Z))) ?_;intro ac T
   refine gq T 8 511 Z (fun B w' hD hl hS=>(Zro (Mem.nth (show Mem w noEx w' _ from ((MA.lft hS) (hD.wait (i:=8) (m:=20) (by kernel_rfl) hl))) 0 Z) Z (T.e 0 Z) Z)) ?_;intro ac T
   refine Zgq T 9 1023 Z (fun _=>(rn_min2 Z (T.e 2 Z) (T.e 0 Z))) ?_;intro ac T
   refine Zgq T 10 2047 Z (fun _=>(Zrm Z (T.e 14 Z))) ?_;intro ac T
   refine Zgq T 11 4095 Z (fun _=>(Zrm Z (T.e 12 Z))) ?_;intro ac T
   refine Zgq T 12 8191 Z (fun _=>(Zri (size:=2) k Z (T.e 1 Z) (T.e 0 Z) ⟨_,Try.underlying24,by kernel_rfl⟩ Z (by omega) hbY)) ?_;intro ac T
   refine Zgq T 13 16383 Z (fun _=>(Zrg 1 Z (T.e 0 Z))) ?_;intro ac T
   refine gq T 14 32767 Z (fun B w' hD hl hS=>(rn_cell (Sp.rc1 SY (show Mem w noEx w' _ from ((MA.lft hS) (hD.wait (i:=14) (m:=20) (by kernel_rfl) hl))) (.cons _ (Zsq _ _)) hkY) Z (T.e 0 Z))) ?_;intro ac T
   refine Zgq (v:=(.pointer (some ⟨g4,1,none⟩))) T 15 65535 Z (fun _=>(Zrg 1 Z (T.e 17 Z))) ?_;intro ac T
   refine gq T 16 131071 Z (fun B w' hD hl hS=>(Zro (Mem.nth (show Mem w noEx w' _ from ((MA.lft hS) (hD.wait (i:=16) (m:=20) (by kernel_rfl) hl))) 0 Z) Z (T.e 0 Z) Z)) ?_;intro ac T
   refine Zgq T 17 262143 Z (fun _=>(rn_max2 Z (T.e 2 Z) (T.e 0 Z))) ?_;intro ac T
   refine Zgq (v:=(.agg #[Zi (min z0 y0),Zi (max z1 y1)])) T 18 524287 Z (fun _=>(rn_build Z (.cons (T.e 8 Z) (.cons (T.e 0 Z) .nil)) (fun _=>by kernel_rfl))) ?_;intro ac T
   refine Zgq T 19 1048575 Z (fun _=>(Zri (size:=2) k Z (T.e 18 Z) (T.e 17 Z) ⟨_,Try.underlying24,by kernel_rfl⟩ Z (by omega) hbY)) ?_;intro ac T
   refine gw 20 2097151 ?_;intro K hK
   refine ow_stSlR (((g4,.cells [Zi y0,Zi y1])::(Ikur1_7++Ipu3++Icu4))) M (by first | rfl | simp) hsl4 T Z Z (T.e 0 Z) hbY (T.e 1 Z) (by omega) (by omega) Z ?_;clear M T;intro Jw2 wc ac hsw2 M T
   replace M:Mem w noEx wc ((g4,.cells [Zi y0,Zi y1])::(Ikur1_7++Ipu3++Icu4++Jw2)):=M
   obtain ⟨lo2,hlo2⟩:∃ q,q=OL.set k ((min z0 y0),(max z1 y1)):=⟨_,rfl⟩
   rw [← hlo2] at hsw2
   have lhlo2:lo2.length=OL.length:=by rw [hlo2,List.length_set]
   refine Zso hK _ _ (MA.mk (fun h=>(no_of (by kernel_rfl) h).elim) (M.perm [] Z Z)) ?_;clear hK K
   refine Zgd (by kernel_rfl) ?_
   replace T:=T.pick [23,24,25,26,27,28,29,30,31] rfl
   replace M:=M.mask [false] rfl
   replace M:Mem w noEx wc ((Ikur1_7++Ipu3++Icu4++Jw2)):=M
   refine Znb ?_
   refine nm_then ?_
   refine wp_region_lit ?_
   refine lq T (rn_add Z (T.e 8 Z) evc (by omega)) ?_;intro ac T
   refine l_q (v:=(Zi ((k:Int)+1))) (T.pick [0,1,2,3,4,5,6,7,8] Z) Z Z Z Z (Zrm Z (T.e 0 Z)) ?_;intro ac T
   replace T:=T.pick [0,2,3,4,5,6,7,8,9] rfl
   refine Zln ?_
   rw [← lhlo2] at T hsw2
   exact ⟨_,by omega,k+1,lo2,A4,c4,Jw2,Z,(by omega),(by rw [hlo2];exact inn_1 (by omega) (hll (by omega)) hO hky hkY),(by rw [lhlo2,hOl,if_neg (by omega),if_neg (by omega)]),hsw2,T.pick [1,2,3,4,5,6,7,8,0] Z,M.mask [] Z⟩
  intro h3
  obtain rfl:k=rlu4.length:=by omega
  refine wp_exit ?_
  refine Zet ?_
  refine Zet ?_
  refine ex_hit ?_
  refine Znb ?_
  refine nm_then ?_
  refine wp_region_lit ?_
  refine lq T (rn_add Z (T.e 6 Z) evc (by omega)) ?_;intro ac T
  refine l_q (v:=(Zi ((i:Int)+1))) (T.pick [0,1,2,3,4,5,6,8,9,10] Z) Z Z Z Z (Zrm Z (T.e 0 Z)) ?_;intro ac T
  replace T:=T.pick [0,3,4,6,7] rfl
  refine Zln ?_
  replace M:Mem w noEx wc ((Ikur1_7++Ipu3++Ij++Icu4)):=M.tail3 (K:=[]) (A:=Ikur1_7++Ipu3)
  exact ⟨_,by omega,i+1,OL,A4,c4,Ij,Z,(by omega),(by rw [hO,levF_succ hks,← hL0,show LF s=rlu4 by rw [hrlu4,hLF]];exact inn_end hll),(by rw [hOl,if_neg (by omega : ¬ i+1=0)];split <;> omega),hsl4,T.pick [1,2,3,4,0] Z,((M.mask [] Z).sub (Zsl _ _))⟩
 intro h2
 rw [List.take_of_length_le (by omega)] at hL0
 refine wp_exit ?_
 refine Zet ?_
 refine Zet ?_
 refine ex_hit ?_
 refine nm_then ?_
 refine Zsr ?_
 refine Zg3 T (Zq (Zrm Z (T.e 2 Z))) Z (Za 0 Z Z) Z (Zc Z) Z ?_;intro ac T
 replace T:=T.pick [0,1] rfl
 refine Zln ?_
 refine wp_ret ?_
 subst hw9
 refine nqR_r M ?_;clear M;intro wc M
 refine rt_2 T Z (T.e 1 Z) (T.e 0 Z) ?_
 have e8:lvlE b p g=0:=hke
 have e9:lvlL b p g=L0:=by unfold lvlL;rw [if_neg (by omega),hL0,hsvu3,hlt,hLF];rfl
 rw [e8,e9]
 have hcap:=hsl.capLe M (Zsq _ _)
 exact ⟨A3,c3,Io,Z,hcap,hsl.spV (rc_length _),M.sub ((Zsq _ _))⟩
end
section
open Go.RowKit Go.Proofs.Ytoheddpnnjldgaa.Bq
theorem rn_quo {P:Program} {op:Oper} {a:Act} {w:World} {ty ty':TypeId} {x y:Operand} {p q:Int} (ho:op.op=.binOp .quo ty x y ty') (hx:a.eval x=Zi p) (hy:a.eval y=Zi q) (hq:q≠0) (hb : -9223372036854775808≤p.tdiv q∧p.tdiv q≤9223372036854775807):Runs P op a (Zi (p.tdiv q)) w:=by
 refine rn_bin ho hx hy ?_
 rw [eqGuard_quo,binOp_quo]
 unfold Op.intDiv
 rw [if_neg (by simpa using hq)]
 show Result.ok (Value.int .i64 (IntKind.i64.wrap (p.tdiv q))) w=_
 rw [IntWalk.i64_in _ hb]
theorem truths_few {b:Bw} (h:BwVal b):(truthsB b).length≤1296:=by
 have key:∀ (r:List (Int×Int)) (k:Nat) (l:List Int),(∀ x∈r,0≤x.1∧x.1≤5∧0≤x.2∧x.2≤5)→(trs b.ts r k l).length≤6 ^ r.length:=by
  intro r
  induction r with
  | nil=>intro k l _;unfold trs;split <;> simp
  | cons x r ih =>
   intro k l hx
   obtain ⟨h1,h2,h3,h4⟩:=hx x Zz2
   unfold trs
   have hlen:(upI x.1 x.2).length≤6:=by unfold upI;simp;omega
   have:∀ (u:List Int),((u.flatMap fun n=>trs b.ts r (k+1) (l.set k n)).length)≤u.length * 6 ^ r.length:=by
    intro u
    induction u with
    | nil=>simp
    | cons n u ihu =>
     rw [List.flatMap_cons,Zx3,Zx1,Nat.succ_mul]
     have:=ih (k+1) (l.set k n) fun y hy=>hx y (Zz1 hy)
     omega
   refine Nat.le_trans (this _) ?_
   rw [Zx1,Nat.pow_succ,Nat.mul_comm]
   exact Nat.mul_le_mul_left _ hlen
 have h1:=key b.cs 0 [0,0,0,0] h.cr
 have h2:6 ^ b.cs.length≤6 ^ 4:=Nat.pow_le_pow_right (by omega) h.n4
 exact Nat.le_trans h1 (Nat.le_trans h2 (by decide))
theorem tdiv_bd {p q:Int} (hp:0≤p) (hq:0 < q):0≤p.tdiv q∧p.tdiv q≤p:=by
 rw [Int.tdiv_eq_ediv_of_nonneg hp]
 exact ⟨Int.ediv_nonneg hp (by omega),Int.ediv_le_self _ hp⟩
theorem room_bd {way x full:Int} (h0:0≤x) (h1:x≤full):0≤roomW way x full∧roomW way x full≤full:=by
 unfold roomW
 split <;> omega
def spnI (x0:Int×Int) (l:List Int):Int×Int:=l.foldl (fun a y=>(min a.1 y,max a.2 y)) x0
def spn (l:List Int):Int×Int:=spnI (l.getD 0 0,l.getD 0 0) l
theorem spnI_succ {x0:Int×Int} {l:List Int} {k:Nat} {y:Int} (h:l[k]? = some y):spnI x0 (l.take (k+1))=(min (spnI x0 (l.take k)).1 y,max (spnI x0 (l.take k)).2 y):=by
 unfold spnI
 rw [List.take_add_one,h]
 simp
def holdJ (b:Bw) (air way t:Int) (j:Nat):Int:=if 0 < air+t then min 600 (Int.tdiv (roomW way (b.a0+(j:Int)) b.full) (air+t)) else 600
def holdR (b:Bw) (air way t:Int) (j:Nat):List Int:=(List.range j).map (holdJ b air way t)
theorem holdR_succ (b:Bw) (air way t:Int) (j:Nat):holdR b air way t (j+1)=holdR b air way t j++[holdJ b air way t j]:=by unfold holdR;rw [List.range_succ,List.map_append];rfl
def airN (b:Bw):Nat:=(b.a1 - b.a0+1).toNat
def holdT (b:Bw) (air way:Int) (rest:List Int) (l:List L4):List Int:=l.flatMap fun x=>holdR b air way (totL x.l rest) (airN b)
theorem holdT_succ {b:Bw} {air way:Int} {rest:List Int} {l:List L4} {k:Nat} {x:L4} (h:l[k]? = some x):holdT b air way rest (l.take (k+1))=holdT b air way rest (l.take k)++holdR b air way (totL x.l rest) (airN b):=by
 unfold holdT
 rw [List.take_add_one,h]
 simp
def wrE (air way:Int):Int:=if withinB air 0 9=false then 1 else if withinB way 1 2=false then 8 else 0
def holE (b:Bw) (air way:Int):Int:=knownE b [wrE air way]
def holR (b:Bw) (air way:Int):Int×Int:=if holE b air way≠0 then (0,0) else spn (holdT b air way (cornL b.cs.length []) (truthsL b))
theorem wr_dead {b:Bw} {e:Int} (nop:∀ t∈b.ts,t.op.length≤1000) (h:knownE b [e]=0) (he:e≠0):False:=he (first1 (known_ok nop h).2.1)
theorem holds1_any (x:Int)  (w:World)  :
  Calls Try.prog 82 #[Zi x] w fun e w'=>e=.returned (Zi x)∧Below w.heap.size w w':=by
 refine Zpx noEx Try.func82 Z 4 Z [Zi x] Z Z (Mem.init w _) ?_
 intro ac wc T M
 refine Zsr ?_
 refine lq T (Zra Z evc) ?_;intro ac T
 replace T:=T.pick [1] rfl
 refine Zln ?_
 refine Zsr ?_
 refine Zg2 T (Zq (Zrm Z (T.e 0 Z))) Z (Za 0 Z Z) Z ?_;intro ac T
 replace T:=T.pick [0] rfl
 refine Zln ?_
 refine wp_ret ?_
 refine rt_1 T Z (T.e 0 Z) ?_
 exact ⟨rfl,M.below⟩
theorem spanI_any (G:Option Addr) (n:Nat) (g:List Int)  (w:World) (hG:Rd w w.heap.size 1 G g.length (ic g)) (nG:g.length≤1000000) (h0:0 < g.length)  :
   Calls Try.prog 81 #[.slice G g.length n,.func (.func 82) #[] #[]] w fun e w'=>e=.returned (.agg #[Zi ((spn g).1),Zi ((spn g).2)])∧Below w.heap.size w w':=by
 obtain ⟨bG,oG,SG⟩:=Sp.old hG
 obtain ⟨z,hkz,-⟩:=ic_next (l:=g) (k:=0) h0
 have hz9:spn g=spnI (z,z) g:=by unfold spn;rw [List.getD_eq_getElem?_getD,hkz];rfl
 refine Zpx noEx Try.func81 Z 40 Z [.slice G g.length n,.func (.func 82) #[] #[]] Z Z (Mem.init w _) ?_
 intro ac wc T M
 refine Zsr ?_
 refine Zl2 ?_
 refine Zoa M T Z Z Z Z ?_;clear M T;intro g1 wc ac M T
 refine Zln ?_
 refine wp_seq ?_
 refine Zgs M (M.mask [true] Z) 13 (by kernel_rfl) Z (by kernel_rfl) ?_
 clear M;intro wc M
 refine g_have (fun ac wc=>∃ (gr1_11:Nat),Tm ac 40 [(5,Zj gr1_11),(18,.agg #[Zi z,Zi z]),(17,Zi z),(12,Zi z),(16,Zi z),(15,.pointer (some ⟨bG,oG+0 * 1,none⟩)),(14,.slice G g.length n),(13,.func (.func 82) #[] #[]),(11,Zi z),(10,.pointer (some ⟨bG,oG+0 * 1,none⟩)),(9,.slice G g.length n),(8,.func (.func 82) #[] #[]),(4,Zj g1),(0,.slice G g.length n),(1,.func (.func 82) #[] #[])]∧Mem w noEx wc [(gr1_11,.cells [Zi 0,Zi 0]),(g1,.cells [Zi 0,Zi 0])]) (Zpb 13 4095) 1 ?_ ?_
 ·clear T M
  rintro ac wc ⟨gr1_11,T,M⟩
  refine gw 12 8191 ?_;intro K hK
  refine Zot M T Z Z (T.e 0 Z) (T.e 1 Z) Z .head Z Z ?_;clear M T;intro wc ac M T
  refine Zso hK _ _ (M.mask [false,true] Z) ?_;clear hK K
  refine Zgd (by kernel_rfl) ?_
  replace T:=T.pick [0,12,13,14] rfl
  refine Zns ?_
  refine Zsr ?_
  refine Zg3 T (Zq (Zrm Z (T.e 2 Z))) Z (Zl Try.underlying28 0 Z Z) Z (fun _ T=>Zq (Zrm Z evc)) Z ?_;intro ac T
  replace T:=T.pick [0,1,2,3,4,6] rfl
  refine Zln ?_
  refine wp_block ?_
  refine wp_loop_n (fun mz ac wc=>∃ (k:Nat) (m0 m1:Int),mz=g.length - k∧(k≤g.length)∧((m0,m1)=spnI (z,z) (g.take k))∧Tm ac 40 [(1,.func (.func 82) #[] #[]),(4,Zj g1),(5,Zj gr1_11),(19,.slice G g.length n),(20,Zi ((g.length:Nat):Int)),(21,Zi (k:Int))]∧Mem w noEx wc [(gr1_11,.cells [Zi m0,Zi m1]),(g1,.cells [Zi 0,Zi 0])]) ?_ ?_
  ·exact ⟨_,0,z,z,Z,(Nat.zero_le _),Z,T.pick [5,4,3,2,1,0] Z,M.mask [true,true] Z⟩
  clear T M
  rintro mz ac wc ⟨k,m0,m1,hmm1,hk,H,T,M⟩
  refine Zsr ?_
  refine lq T (rn_lss Z (T.e 5 Z) (T.e 4 Z)) ?_;intro ac T
  refine Zln ?_
  refine wp_seq ?_
  refine wp_if (T.e 0 Z) ?_ ?_
  ·intro h1
   obtain ⟨y,hky,-⟩:=ic_next (l:=g) (k:=k) (by omega)
   have hsc:=spnI_succ (x0:=(z,z)) hky
   rw [← H] at hsc
   refine Zsk ?_
   refine wp_seq ?_
   refine wp_block ?_
   refine Zsr ?_
   refine Zg3 T (Zq (Zri (size:=1) k Z (T.e 4 Z) (T.e 6 Z) ⟨_,Try.underlying28,by kernel_rfl⟩ Z (by omega) (SG.at0 (by omega)))) Z (fun _ T=>Zq (rn_cell (Sp.ic0 SG M (Zz9 _) hky) Z (T.e 0 Z))) Z (Za 0 Z Z) Z ?_;intro ac T
   replace T:=T.pick [0,4,5,6,7,8,9] rfl
   refine Zln ?_
   refine Zgs M (M.perm [1] Z Z) 14 (by kernel_rfl) Z (by kernel_rfl) ?_
   clear M;intro wc M
   refine g_addG 13 M ?_
   refine Zgq (v:=(Zj gr1_11)) T 0 1 Z (fun _=>(Zrg 0 Z (T.e 3 Z))) ?_;intro ac T
   refine gq T 1 3 Z (fun B w' hD hl hS=>(Zro (Mem.nth (show Mem w noEx w' _ from ((MA.lft hS) (hD.wait (i:=1) (m:=13) (by kernel_rfl) hl))) 0 Z) Z (T.e 0 Z) Z)) ?_;intro ac T
   refine Zgq T 2 7 Z (fun _=>(Zrm Z (T.e 3 Z))) ?_;intro ac T
   refine Zgq T 3 15 Z (fun _=>(Zrm Z (T.e 3 Z))) ?_;intro ac T
   refine Zgq (v:=(.pointer (some ⟨gr1_11,1,none⟩))) T 6 79 Z (fun _=>(Zrg 1 Z (T.e 7 Z))) ?_;intro ac T
   refine gq T 7 207 Z (fun B w' hD hl hS=>(Zro (Mem.nth (show Mem w noEx w' _ from ((MA.lft hS) (hD.wait (i:=7) (m:=13) (by kernel_rfl) hl))) 0 Z) Z (T.e 0 Z) Z)) ?_;intro ac T
   refine Zgq T 8 463 Z (fun _=>(Zrm Z (T.e 7 Z))) ?_;intro ac T
   refine Zgq T 9 975 Z (fun _=>(Zrm Z (T.e 7 Z))) ?_;intro ac T
   refine gw 4 991 ?_;intro K hK
   refine Zod T Z Z Z Z (T.e 5 Z) (.cons (T.e 4 Z) .nil) Try.func82 Z Z ?_
   refine Calls.mono (holds1_any y _) ?_
   clear T;rintro e wc ⟨rfl,hb⟩ ac T
   replace M:=M.call hb;clear hb
   refine Zso hK _ _ (MA.mk (fun _=>M.mask [true,true] Z) (M.mask [false,true] Z)) ?_;clear hK K
   refine Zgq T 5 1023 Z (fun _=>(rn_min2 Z (T.e 7 Z) (T.e 0 Z))) ?_;intro ac T
   refine gw 10 2047 ?_;intro K hK
   refine Zod T Z Z Z Z (T.e 3 Z) (.cons (T.e 2 Z) .nil) Try.func82 Z Z ?_
   refine Calls.mono (holds1_any y _) ?_
   clear T;rintro e wc ⟨rfl,hb⟩ ac T
   replace M:=M.call hb;clear hb
   refine Zso hK _ _ (MA.mk (fun _=>M.mask [true,true] Z) (M.mask [false,true] Z)) ?_;clear hK K
   refine Zgq T 11 4095 Z (fun _=>(rn_max2 Z (T.e 5 Z) (T.e 0 Z))) ?_;intro ac T
   refine Zgq (v:=(.agg #[Zi (min m0 y),Zi (max m1 y)])) T 12 8191 Z (fun _=>(rn_build Z (.cons (T.e 2 Z) (.cons (T.e 0 Z) .nil)) (fun _=>by kernel_rfl))) ?_;intro ac T
   refine gw 13 16383 ?_;intro K hK
   refine Zot M T Z Z (T.e 16 Z) (T.e 0 Z) Z .head Z Z ?_;clear M T;intro wc ac M T
   refine Zso hK _ _ (MA.mk (fun h=>(no_of (by kernel_rfl) h).elim) (M.mask [false,true] Z)) ?_;clear hK K
   refine Zgd (by kernel_rfl) ?_
   replace T:=T.pick [14,15,16,17,18,19] rfl
   refine Znb ?_
   refine nm_then ?_
   refine wp_region_lit ?_
   refine lq T (rn_add Z (T.e 5 Z) evc (by omega)) ?_;intro ac T
   refine l_q (v:=(Zi ((k:Int)+1))) (T.pick [0,1,2,3,4,5] Z) Z Z Z Z (Zrm Z (T.e 0 Z)) ?_;intro ac T
   replace T:=T.pick [0,2,3,4,5,6] rfl
   refine Zln ?_
   exact ⟨_,by omega,k+1,(min m0 y),(max m1 y),Z,(by omega),(by rw [hsc]),T.pick [1,2,3,4,5,0] Z,M.mask [true,true] Z⟩
  intro h1
  rw [List.take_of_length_le (by omega)] at H
  refine wp_exit ?_
  refine Zet ?_
  refine Zet ?_
  refine ex_hit ?_
  refine nm_then ?_
  refine Zsr ?_
  refine lq T (Zrr (Mem.nth M 0 Z) Z (T.e 3 Z) Z) ?_;intro ac T
  refine Zl2 ?_
  refine Zot M T Z Z (T.e 3 Z) (T.e 0 Z) Z (.tail .head) Z Z ?_;clear M T;intro wc ac M T
  refine wpList_nil ?_
  replace T:=T.pick [3] rfl
  replace M:=M.mask [false,true] rfl
  refine Znr ?_
  refine rt_c M T Z (T.e 0 Z) (Zne (i:=0) Z) Z ?_
  rw [hz9,← H]
  exact ⟨rfl,M.below⟩
 intro H1
 refine g_have (fun ac wc=>∃ (gr1_11:Nat),Tm ac 40 [(5,Zj gr1_11),(12,Zi z),(16,Zi z),(15,.pointer (some ⟨bG,oG+0 * 1,none⟩)),(14,.slice G g.length n),(13,.func (.func 82) #[] #[]),(11,Zi z),(10,.pointer (some ⟨bG,oG+0 * 1,none⟩)),(9,.slice G g.length n),(8,.func (.func 82) #[] #[]),(4,Zj g1),(0,.slice G g.length n),(1,.func (.func 82) #[] #[])]∧Mem w noEx wc [(gr1_11,.cells [Zi 0,Zi 0]),(g1,.cells [Zi 0,Zi 0])]) (Zpb 13 2559) 3 ?_ ?_
 ·clear T M
  rintro ac wc ⟨gr1_11,T,M⟩
  refine gw 9 3071 ?_;intro K hK
  refine Zod T Z Z Z Z (T.e 5 Z) (.cons (T.e 2 Z) .nil) Try.func82 Z Z ?_
  refine Calls.mono (holds1_any z _) ?_
  clear T;rintro e wc ⟨rfl,hb⟩ ac T
  replace M:=M.call hb;clear hb
  refine Zso hK _ _ (M.mask [false,true] Z) ?_;clear hK K
  refine Zgq (v:=(.agg #[Zi z,Zi z])) T 10 4095 Z (fun _=>(rn_build Z (.cons (T.e 2 Z) (.cons (T.e 0 Z) .nil)) (fun _=>by kernel_rfl))) ?_;intro ac T
  exact H1 _ _ ⟨gr1_11,T.pick [2,0,1,3,4,5,6,7,8,9,10,11,12,13,14] Z,M⟩
 intro H0
 refine Zgq T 0 1 Z (fun _=>(Zrm Z (T.e 2 Z))) ?_;intro ac T
 refine Zgq T 1 3 Z (fun _=>(Zrm Z (T.e 2 Z))) ?_;intro ac T
 refine Zgq T 2 7 Z (fun _=>(Zri (size:=1) 0 Z (T.e 0 Z) evc ⟨_,Try.underlying28,by kernel_rfl⟩ Z (by omega) (SG.at0 (by omega)))) ?_;intro ac T
 refine gq T 3 15 Z (fun B w' hD hl hS=>(rn_cell (Sp.ic0 SG (show Mem w noEx w' _ from hS) (Zz9 _) hkz) Z (T.e 0 Z))) ?_;intro ac T
 refine Zgq T 5 47 Z (fun _=>(Zrm Z (T.e 6 Z))) ?_;intro ac T
 refine Zgq T 6 111 Z (fun _=>(Zrm Z (T.e 6 Z))) ?_;intro ac T
 refine Zgq T 7 239 Z (fun _=>(Zri (size:=1) 0 Z (T.e 0 Z) evc ⟨_,Try.underlying28,by kernel_rfl⟩ Z (by omega) (SG.at0 (by omega)))) ?_;intro ac T
 refine gq T 8 495 Z (fun B w' hD hl hS=>(rn_cell (Sp.ic0 SG (show Mem w noEx w' _ from hS) (Zz9 _) hkz) Z (T.e 0 Z))) ?_;intro ac T
 refine g_m2 (i:=4) (j:=11) (by kernel_rfl) ?_ ?_
 ·refine gi 511 ?_;intro K hK
  refine Zod T Z Z Z Z (T.e 7 Z) (.cons (T.e 4 Z) .nil) Try.func82 Z Z ?_
  refine Calls.mono (holds1_any z _) ?_
  clear T;rintro e wc ⟨rfl,hb⟩ ac T
  replace M:=M.call hb;clear hb
  refine Zso hK _ _ (M.mask [true] Z) ?_;clear hK K
  refine g_m2 (i:=9) (j:=11) (by kernel_rfl) ?_ ?_
  ·refine gi 1023 ?_;intro K hK
   refine Zod T Z Z Z Z (T.e 4 Z) (.cons (T.e 1 Z) .nil) Try.func82 Z Z ?_
   refine Calls.mono (holds1_any z _) ?_
   clear T;rintro e wc ⟨rfl,hb⟩ ac T
   replace M:=M.call hb;clear hb
   refine Zso hK _ _ (M.mask [true] Z) ?_;clear hK K
   refine Zgq (v:=(.agg #[Zi z,Zi z])) T 10 2047 Z (fun _=>(rn_build Z (.cons (T.e 1 Z) (.cons (T.e 0 Z) .nil)) (fun _=>by kernel_rfl))) ?_;intro ac T
   refine gw 11 4095 ?_;intro K hK
   refine Zoa M T Z Z Z Z ?_;clear M T;intro gr1_11 wc ac M T
   refine Zso hK _ _ (M.mask [false,true] Z) ?_;clear hK K
   exact H1 _ _ ⟨gr1_11,T,M⟩
  refine gi 2559 ?_;intro K hK
  refine Zoa M T Z Z Z Z ?_;clear M T;intro gr1_11 wc ac M T
  refine Zso hK _ _ (M.mask [false,true] Z) ?_;clear hK K
  exact H0 _ _ ⟨gr1_11,T,M⟩
 refine gi 2543 ?_;intro K hK
 refine Zoa M T Z Z Z Z ?_;clear M T;intro gr1_11 wc ac M T
 refine Zso hK _ _ (M.mask [false,true] Z) ?_;clear hK K
 refine gw 4 2559 ?_;intro K hK
 refine Zod T Z Z Z Z (T.e 8 Z) (.cons (T.e 5 Z) .nil) Try.func82 Z Z ?_
 refine Calls.mono (holds1_any z _) ?_
 clear T;rintro e wc ⟨rfl,hb⟩ ac T
 replace M:=M.call hb;clear hb
 refine Zso hK _ _ (M.mask [false,true] Z) ?_;clear hK K
 exact H0 _ _ ⟨gr1_11,T.pick [1,0,2,3,4,5,6,7,8,9,10,11,12] Z,M⟩
set_option maxHeartbeats 4000000 in
theorem Holds_any {J:Nat→Option Obj} (hP:FuncsOk Try.prog) (b:Bw) (A:Option Addr) (c:Nat) (D:Option Addr) (d:Nat) (air way:Int)  (w:World) (hA:Rd w w.heap.size 2 A b.cs.length (rc b.cs)) (hD:Rd w w.heap.size 4 D b.ts.length (lkc b.ts)) (hop:∀ t∈b.ts,Rd w w.heap.size 1 t.A t.op.length (ic t.op)) (nA:b.cs.length≤1000) (nD:b.ts.length≤1000) (nop:∀ t∈b.ts,t.op.length≤1000)  :
   CallsB Try.prog J 22 #[.agg #[Zi b.full,Zi b.a0,Zi b.a1,.slice A b.cs.length c,.slice D b.ts.length d],Zi air,Zi way] w fun e w'=>e=.returned (.tuple #[.agg #[Zi ((holR b air way).1),Zi ((holR b air way).2)],Zi (holE b air way)])∧Below w.heap.size w w':=by
 obtain ⟨bA,oA,SA⟩:=Sp.old hA
 obtain ⟨bD,oD,SD⟩:=Sp.old hD
 refine px_enterB hP noEx Try.func22 Z 80 Z [.agg #[Zi b.full,Zi b.a0,Zi b.a1,.slice A b.cs.length c,.slice D b.ts.length d],Zi air,Zi way] Z Z (Mem.init w _) ?_
 intro ac wc T M
 refine wpB_seq hP ?_
 refine b_lone hP w fun T9=>?_
 replace M:=M.tp T9 0 0
 replace SA:=SA.tp T9 0
 replace SD:=SD.tp T9 0
 refine wp_region_lit ?_
 refine Zl2 ?_
 refine Zob M T Z Z Z Z (T.e 0 Z) Z ?_;clear M T;intro g1 wc ac M T
 refine Zl2 ?_
 refine Zoa M T Z Z Z Z ?_;clear M T;intro g2 wc ac M T
 refine lq T (Zra Z evc) ?_;intro ac T
 refine wpList_nil ?_
 refine nqR_n M ?_;clear M;intro wc M
 replace SA:=SA.pt
 replace SD:=SD.pt
 replace T:=T.pick [1,2,4,5] rfl
 refine nm_then ?_
 refine wpB_seq hP ?_
 refine b_lone hP w fun T9=>?_
 replace M:=M.tp T9 0 0
 replace SA:=SA.tp T9 0
 replace SD:=SD.tp T9 0
 refine wp_region_lit ?_
 refine lq T (Zra Z evc) ?_;intro ac T
 refine wpList_nil ?_
 refine nqR_n M ?_;clear M;intro wc M
 replace SA:=SA.pt
 replace SD:=SD.pt
 refine nm_then ?_
 refine wpB_seq hP ?_
 refine b_lone hP w fun T9=>?_
 replace M:=M.tp T9 0 0
 replace SA:=SA.tp T9 0
 replace SD:=SD.tp T9 0
 generalize hw9:Bq.tp w T9 0=w at M SA SD
 generalize Bq.tp wc T9 0=wc at M ⊢
 refine wp_block ?_
 refine Zsr ?_
 refine lq T (Zrm Z (T.e 3 Z)) ?_;intro ac T
 refine Zl2 ?_
 refine Zod T Z Z Z Z evf (.cons (T.e 0 Z) (.cons evc (.cons evc .nil))) Try.func76 Z Z ?_
 refine Calls.mono (bin_any air 0 9 _) ?_
 clear T;rintro e wc ⟨rfl,hb⟩ ac T
 replace M:=M.call hb;clear hb
 refine Zg2 T (Zq (rn_not Z (T.e 0 Z))) Z (Za 0 Z Z) Z ?_;intro ac T
 replace T:=T.pick [0,4,5,6,7,8] rfl
 refine Zln ?_
 refine wp_cond_split (T.e 0 Z) ?_ ?_
 ·intro h1
  (have h1':=h1;try simp only [Zb1,Zb2,Zb3,Zb4,Zb5,Zb6,Zb7] at h1')
  refine wp_region_lit ?_
  refine l_q (v:=(Zi 1)) (T.pick [0,2,3,4,5] Z) Z Z Z Z (Zra Z evc) ?_;intro ac T
  refine wpList_nil ?_
  replace T:=T.pick [0,2,3,4,5] rfl
  refine Znb ?_
  subst hw9
  refine nqR_n M ?_;clear M;intro wc M
  replace SA:=SA.pt
  replace SD:=SD.pt
  refine nm_then ?_
  refine wpB_seq hP ?_
  refine rB_preN hP w 3 (by decide) fun T9=>?_
  replace M:=M.tp T9 0 0
  replace SA:=SA.tp T9 0
  replace SD:=SD.tp T9 0
  refine Zg2 T (Zq (Zrr (Mem.nth M 1 Z) Z (T.e 2 Z) Z)) Z (Zm 1 Z Z) Z ?_;intro ac T
  refine Zl2 ?_
  refine ow_bs (e:=39) [Zi 1] M T Z Z Z Z (.cons (T.e 0 Z) .nil) (fun _=>by kernel_rfl) ?_;clear M T;intro g3 wc ac M T
  refine wpList_nil ?_
  refine pqR_n M ?_;clear M;intro wc M
  replace SA:=SA.pt
  replace SD:=SD.pt
  refine rB_call hP (m:=5) (first:=[]) (cap:=[]) T Z Z Z Z Z evf (.cons (T.e 2 Z) (.cons (T.e 0 Z) .nil)) Try.func77 Z Z (known_any hP b A c D d (some ⟨g3,0,none⟩) 1 [1] _ (SA.rd M (Zz9 _)) (SD.rd M (Zz9 _)) (fun t ht=>M.rd (hop t ht) (Nat.le_refl _)) nA nD nop (M.rdOwn (Zne (i:=0) Z) Z Z) (by first | omega | simp)) ?_
  clear T
  rintro e wc ⟨Aku2,cku2,Iku2,rfl,hcku2,N⟩
  refine ⟨_,Z,?_⟩
  intro ac T
  obtain ⟨lku2,hlku2⟩:∃ q,q=knownL b [1]:=⟨_,rfl⟩
  obtain ⟨eku2,heku2⟩:∃ q,q=knownE b [1]:=⟨_,rfl⟩
  rw [← hlku2] at hcku2 T
  rw [← heku2] at T
  obtain ⟨bku2,oku2,hSku2⟩:=hcku2.spV (l4c_length _)
  have SLku2:=hSku2 w noEx
  clear hSku2
  replace M:=(M.join N).swapI
  clear N
  replace M:Mem w noEx wc ((g3,.cells [Zi 1])::(g2,.cells [Zi 0,Zi 0])::(g1,.cells [Zi b.full,Zi b.a0,Zi b.a1,.slice A b.cs.length c,.slice D b.ts.length d])::Iku2):=M
  refine rB_moreN hP w 5 0 Z (by decide) fun T9=>?_
  replace M:=M.tp T9 0 0
  replace SA:=SA.tp T9 0
  replace SD:=SD.tp T9 0
  replace SLku2:=SLku2.tp T9 0
  refine Zg5 T (Zq (Zrm Z (T.e 0 Z))) Z (Ze 0 Z Z Z) Z (Ze 1 Z Z Z) Z (Za 1 Z Z) Z (Za 1 Z Z) Z ?_;intro ac T
  refine wpList_nil ?_
  refine pqR_n M ?_;clear M;intro wc M
  replace SA:=SA.pt
  replace SD:=SD.pt
  replace SLku2:=SLku2.pt
  refine rB_nil hP ?_
  replace T:=T.pick [0,1,10,11,12,13] rfl
  replace M:=M.mask [false,true,true] rfl
  refine nm_then ?_
  refine b_lone hP w fun T9=>?_
  replace M:=M.tp T9 0 0
  replace SA:=SA.tp T9 0
  replace SD:=SD.tp T9 0
  replace SLku2:=SLku2.tp T9 0
  generalize hw9:Bq.tp w T9 0=w at M SA SD SLku2
  generalize Bq.tp wc T9 0=wc at M ⊢
  refine wp_seq ?_
  refine Zsr ?_
  refine Zg2 T (Zq (Zrm Z (T.e 0 Z))) Z (fun _ T=>Zq (rn_neq Z (T.e 0 Z) evc)) Z ?_;intro ac T
  replace T:=T.pick [0,2,3,4,5,6,7] rfl
  refine Zln ?_
  refine wp_ifn (T.e 0 Z) ?_ ?_
  ·intro h2
   refine Zsr ?_
   refine Zg2 (v1:=(.agg #[Zi 0,Zi 0])) T (Zq (rn_build Z .nil (fun _=>by kernel_rfl))) Z (Zm 2 Z Z) Z ?_;intro ac T
   refine Zl2 ?_
   refine Zot M T Z Z (T.e 5 Z) (T.e 1 Z) Z .head Z Z ?_;clear M T;intro wc ac M T
   refine lq T (Zra Z (T.e 0 Z)) ?_;intro ac T
   refine wpList_nil ?_
   replace T:=T.pick [0,6] rfl
   replace M:=M.mask [true,false] rfl
   refine Znr ?_
   refine Zrt ?_
   subst hw9
   refine nqR_r M ?_;clear M;intro wc M
   refine rt_ct M T Z (T.e 1 Z) (T.e 0 Z) (Zne (i:=0) Z) Z ?_
   have hke:holE b air way=eku2:=by unfold holE wrE;rw [heku2];congr 2;(repeat' split) <;> first | rfl | (simp_all;done)
   have hne:holE b air way≠0:=by rw [hke];omega
   have e9:holR b air way=(0,0):=by unfold holR;rw [if_pos hne]
   rw [e9,hke]
   exact ⟨rfl,M.below⟩
  intro h2
  exfalso
  exact wr_dead (b:=b) (e:=1) nop (by rw [← heku2];omega) (by omega)
 intro h1
 (have h1':=h1;try simp only [Zb1,Zb2,Zb3,Zb4,Zb5,Zb6,Zb7] at h1')
 refine Zsr ?_
 refine lq T (Zrm Z (T.e 5 Z)) ?_;intro ac T
 refine Zl2 ?_
 refine Zod T Z Z Z Z evf (.cons (T.e 0 Z) (.cons evc (.cons evc .nil))) Try.func76 Z Z ?_
 refine Calls.mono (bin_any way 1 2 _) ?_
 clear T;rintro e wc ⟨rfl,hb⟩ ac T
 replace M:=M.call hb;clear hb
 refine Zg2 T (Zq (rn_not Z (T.e 0 Z))) Z (Za 0 Z Z) Z ?_;intro ac T
 replace T:=T.pick [0,5,6,7,8,9] rfl
 refine Zln ?_
 refine wp_cond_split (T.e 0 Z) ?_ ?_
 ·intro h3
  (have h3':=h3;try simp only [Zb1,Zb2,Zb3,Zb4,Zb5,Zb6,Zb7] at h3')
  refine wp_region_lit ?_
  refine l_q (v:=(Zi 8)) (T.pick [0,2,3,4,5] Z) Z Z Z Z (Zra Z evc) ?_;intro ac T
  refine wpList_nil ?_
  replace T:=T.pick [0,2,3,4,5] rfl
  refine Znb ?_
  subst hw9
  refine nqR_n M ?_;clear M;intro wc M
  replace SA:=SA.pt
  replace SD:=SD.pt
  refine nm_then ?_
  refine wpB_seq hP ?_
  refine rB_preN hP w 3 (by decide) fun T9=>?_
  replace M:=M.tp T9 0 0
  replace SA:=SA.tp T9 0
  replace SD:=SD.tp T9 0
  refine Zg2 T (Zq (Zrr (Mem.nth M 1 Z) Z (T.e 2 Z) Z)) Z (Zm 1 Z Z) Z ?_;intro ac T
  refine Zl2 ?_
  refine ow_bs (e:=39) [Zi 8] M T Z Z Z Z (.cons (T.e 0 Z) .nil) (fun _=>by kernel_rfl) ?_;clear M T;intro g4 wc ac M T
  refine wpList_nil ?_
  refine pqR_n M ?_;clear M;intro wc M
  replace SA:=SA.pt
  replace SD:=SD.pt
  refine rB_call hP (m:=5) (first:=[]) (cap:=[]) T Z Z Z Z Z evf (.cons (T.e 2 Z) (.cons (T.e 0 Z) .nil)) Try.func77 Z Z (known_any hP b A c D d (some ⟨g4,0,none⟩) 1 [8] _ (SA.rd M (Zz9 _)) (SD.rd M (Zz9 _)) (fun t ht=>M.rd (hop t ht) (Nat.le_refl _)) nA nD nop (M.rdOwn (Zne (i:=0) Z) Z Z) (by first | omega | simp)) ?_
  clear T
  rintro e wc ⟨Aku4,cku4,Iku4,rfl,hcku4,N⟩
  refine ⟨_,Z,?_⟩
  intro ac T
  obtain ⟨lku4,hlku4⟩:∃ q,q=knownL b [8]:=⟨_,rfl⟩
  obtain ⟨eku4,heku4⟩:∃ q,q=knownE b [8]:=⟨_,rfl⟩
  rw [← hlku4] at hcku4 T
  rw [← heku4] at T
  obtain ⟨bku4,oku4,hSku4⟩:=hcku4.spV (l4c_length _)
  have SLku4:=hSku4 w noEx
  clear hSku4
  replace M:=(M.join N).swapI
  clear N
  replace M:Mem w noEx wc ((g4,.cells [Zi 8])::(g2,.cells [Zi 0,Zi 0])::(g1,.cells [Zi b.full,Zi b.a0,Zi b.a1,.slice A b.cs.length c,.slice D b.ts.length d])::Iku4):=M
  refine rB_moreN hP w 5 0 Z (by decide) fun T9=>?_
  replace M:=M.tp T9 0 0
  replace SA:=SA.tp T9 0
  replace SD:=SD.tp T9 0
  replace SLku4:=SLku4.tp T9 0
  refine Zg5 T (Zq (Zrm Z (T.e 0 Z))) Z (Ze 0 Z Z Z) Z (Ze 1 Z Z Z) Z (Za 1 Z Z) Z (Za 1 Z Z) Z ?_;intro ac T
  refine wpList_nil ?_
  refine pqR_n M ?_;clear M;intro wc M
  replace SA:=SA.pt
  replace SD:=SD.pt
  replace SLku4:=SLku4.pt
  refine rB_nil hP ?_
  replace T:=T.pick [0,1,10,11,12,13] rfl
  replace M:=M.mask [false,true,true] rfl
  refine nm_then ?_
  refine b_lone hP w fun T9=>?_
  replace M:=M.tp T9 0 0
  replace SA:=SA.tp T9 0
  replace SD:=SD.tp T9 0
  replace SLku4:=SLku4.tp T9 0
  generalize hw9:Bq.tp w T9 0=w at M SA SD SLku4
  generalize Bq.tp wc T9 0=wc at M ⊢
  refine wp_seq ?_
  refine Zsr ?_
  refine Zg2 T (Zq (Zrm Z (T.e 0 Z))) Z (fun _ T=>Zq (rn_neq Z (T.e 0 Z) evc)) Z ?_;intro ac T
  replace T:=T.pick [0,2,3,4,5,6,7] rfl
  refine Zln ?_
  refine wp_ifn (T.e 0 Z) ?_ ?_
  ·intro h4
   refine Zsr ?_
   refine Zg2 (v1:=(.agg #[Zi 0,Zi 0])) T (Zq (rn_build Z .nil (fun _=>by kernel_rfl))) Z (Zm 2 Z Z) Z ?_;intro ac T
   refine Zl2 ?_
   refine Zot M T Z Z (T.e 5 Z) (T.e 1 Z) Z .head Z Z ?_;clear M T;intro wc ac M T
   refine lq T (Zra Z (T.e 0 Z)) ?_;intro ac T
   refine wpList_nil ?_
   replace T:=T.pick [0,6] rfl
   replace M:=M.mask [true,false] rfl
   refine Znr ?_
   refine Zrt ?_
   subst hw9
   refine nqR_r M ?_;clear M;intro wc M
   refine rt_ct M T Z (T.e 1 Z) (T.e 0 Z) (Zne (i:=0) Z) Z ?_
   have hke:holE b air way=eku4:=by unfold holE wrE;rw [heku4];congr 2;(repeat' split) <;> first | rfl | (simp_all;done)
   have hne:holE b air way≠0:=by rw [hke];omega
   have e9:holR b air way=(0,0):=by unfold holR;rw [if_pos hne]
   rw [e9,hke]
   exact ⟨rfl,M.below⟩
  intro h4
  exfalso
  exact wr_dead (b:=b) (e:=8) nop (by rw [← heku4];omega) (by omega)
 intro h3
 (have h3':=h3;try simp only [Zb1,Zb2,Zb3,Zb4,Zb5,Zb6,Zb7] at h3')
 refine wp_skip ?_
 refine Znb ?_
 subst hw9
 refine nqR_n M ?_;clear M;intro wc M
 replace SA:=SA.pt
 replace SD:=SD.pt
 refine nm_then ?_
 refine wpB_seq hP ?_
 refine rB_preN hP w 3 (by decide) fun T9=>?_
 replace M:=M.tp T9 0 0
 replace SA:=SA.tp T9 0
 replace SD:=SD.tp T9 0
 refine Zg2 T (Zq (Zrr (Mem.nth M 1 Z) Z (T.e 3 Z) Z)) Z (Zm 2 Z Z) Z ?_;intro ac T
 refine Zl2 ?_
 refine ow_bs (e:=39) [Zi 0] M T Z Z Z Z (.cons (T.e 0 Z) .nil) (fun _=>by kernel_rfl) ?_;clear M T;intro g5 wc ac M T
 refine wpList_nil ?_
 refine pqR_n M ?_;clear M;intro wc M
 replace SA:=SA.pt
 replace SD:=SD.pt
 refine rB_call hP (m:=5) (first:=[]) (cap:=[]) T Z Z Z Z Z evf (.cons (T.e 2 Z) (.cons (T.e 0 Z) .nil)) Try.func77 Z Z (known_any hP b A c D d (some ⟨g5,0,none⟩) 1 [0] _ (SA.rd M (Zz9 _)) (SD.rd M (Zz9 _)) (fun t ht=>M.rd (hop t ht) (Nat.le_refl _)) nA nD nop (M.rdOwn (Zne (i:=0) Z) Z Z) (by first | omega | simp)) ?_
 clear T
 rintro e wc ⟨Aku5,cku5,Iku5,rfl,hcku5,N⟩
 refine ⟨_,Z,?_⟩
 intro ac T
 obtain ⟨lku5,hlku5⟩:∃ q,q=knownL b [0]:=⟨_,rfl⟩
 obtain ⟨eku5,heku5⟩:∃ q,q=knownE b [0]:=⟨_,rfl⟩
 rw [← hlku5] at hcku5 T
 rw [← heku5] at T
 obtain ⟨bku5,oku5,hSku5⟩:=hcku5.spV (l4c_length _)
 have SLku5:=hSku5 w noEx
 clear hSku5
 replace M:=(M.join N).swapI
 clear N
 replace M:Mem w noEx wc ((g5,.cells [Zi 0])::(g2,.cells [Zi 0,Zi 0])::(g1,.cells [Zi b.full,Zi b.a0,Zi b.a1,.slice A b.cs.length c,.slice D b.ts.length d])::Iku5):=M
 refine rB_moreN hP w 5 0 Z (by decide) fun T9=>?_
 replace M:=M.tp T9 0 0
 replace SA:=SA.tp T9 0
 replace SD:=SD.tp T9 0
 replace SLku5:=SLku5.tp T9 0
 refine Zg5 T (Zq (Zrm Z (T.e 0 Z))) Z (Ze 0 Z Z Z) Z (Ze 1 Z Z Z) Z (Za 1 Z Z) Z (Za 1 Z Z) Z ?_;intro ac T
 refine wpList_nil ?_
 refine pqR_n M ?_;clear M;intro wc M
 replace SA:=SA.pt
 replace SD:=SD.pt
 replace SLku5:=SLku5.pt
 refine rB_nil hP ?_
 replace T:=T.pick [0,1,11,12,13,14] rfl
 replace M:=M.mask [false,true,true] rfl
 refine nm_then ?_
 refine b_lone hP w fun T9=>?_
 replace M:=M.tp T9 0 0
 replace SA:=SA.tp T9 0
 replace SD:=SD.tp T9 0
 replace SLku5:=SLku5.tp T9 0
 generalize hw9:Bq.tp w T9 0=w at M SA SD SLku5
 generalize Bq.tp wc T9 0=wc at M ⊢
 refine wp_seq ?_
 refine Zsr ?_
 refine Zg2 T (Zq (Zrm Z (T.e 0 Z))) Z (fun _ T=>Zq (rn_neq Z (T.e 0 Z) evc)) Z ?_;intro ac T
 replace T:=T.pick [0,2,3,4,5,6,7] rfl
 refine Zln ?_
 refine wp_ifn (T.e 0 Z) ?_ ?_
 ·intro h5
  refine Zsr ?_
  refine Zg2 (v1:=(.agg #[Zi 0,Zi 0])) T (Zq (rn_build Z .nil (fun _=>by kernel_rfl))) Z (Zm 2 Z Z) Z ?_;intro ac T
  refine Zl2 ?_
  refine Zot M T Z Z (T.e 5 Z) (T.e 1 Z) Z .head Z Z ?_;clear M T;intro wc ac M T
  refine lq T (Zra Z (T.e 0 Z)) ?_;intro ac T
  refine wpList_nil ?_
  replace T:=T.pick [0,6] rfl
  replace M:=M.mask [true,false] rfl
  refine Znr ?_
  refine Zrt ?_
  subst hw9
  refine nqR_r M ?_;clear M;intro wc M
  refine rt_ct M T Z (T.e 1 Z) (T.e 0 Z) (Zne (i:=0) Z) Z ?_
  have hke:holE b air way=eku5:=by unfold holE wrE;rw [heku5];congr 2;(repeat' split) <;> first | rfl | (simp_all;done)
  have hne:holE b air way≠0:=by rw [hke];omega
  have e9:holR b air way=(0,0):=by unfold holR;rw [if_pos hne]
  rw [e9,hke]
  exact ⟨rfl,M.below⟩
 intro h5
 have hw1:withinB air 0 9=true:=by simpa using h1
 have hw2:withinB way 1 2=true:=by simpa using h3
 have hwr:wrE air way=0:=by unfold wrE;rw [hw1,hw2];rfl
 have hke:knownE b [(0:Int)]=0:=by rw [← heku5];omega
 obtain ⟨hgood,hf9,hlt,hl4,hlp,hln⟩:=known_ok nop hke
 rw [← hlku5] at hlt hl4 hlp hln
 have hgb:=hgood.airs
 have h4:=hgood.n4
 have ha9:0≤air∧air≤9:=withinB_iff.1 hw1
 have hcs:=hgood.n4
 refine Zsk ?_
 refine Zsr ?_
 refine lq T (Zra Z evc) ?_;intro ac T
 replace T:=T.pick [0,3,4,5,6,7] rfl
 refine Zln ?_
 refine Zsr ?_
 refine lq T (Zrr (Mem.nth M 1 Z) Z (T.e 3 Z) Z) ?_;intro ac T
 refine Zl2 ?_
 refine Zod T Z Z Z Z evf (.cons (T.e 0 Z) (.cons evc .nil)) Try.func78 Z Z ?_
 refine Calls.mono (corners_any b A c D d none 0 [] _ (by omega) ⟨by simp [ic],fun h=>absurd h (by simp)⟩ (by simp)) ?_
 clear T;rintro e wc ⟨Acu6,ccu6,Icu6,rfl,hclu6,N⟩ ac T
 obtain ⟨rlu6,hrlu6⟩:∃ q,q=cornL b.cs.length []:=⟨_,rfl⟩
 rw [← hrlu6] at hclu6 T
 have hnrlu6:rlu6.length≤b.cs.length:=by rw [hrlu6];exact cornL_len _ _
 have hgrlu6:∀ c∈rlu6,0≤c∧c < 4:=fun c hc=>by rw [hrlu6] at hc;have:=cornL_mem hc;omega
 obtain ⟨bRu6,oRu6,SRu6⟩:=hclu6.spV (by simp [ic_length])
 replace SRu6:=SRu6 w noEx
 replace M:=(M.join N).swapI
 clear N
 replace M:Mem w noEx wc ((g2,.cells [Zi 0,Zi 0])::(g1,.cells [Zi b.full,Zi b.a0,Zi b.a1,.slice A b.cs.length c,.slice D b.ts.length d])::(Iku5++Icu6)):=M
 refine lq T (Zra Z (T.e 0 Z)) ?_;intro ac T
 replace T:=T.pick [0,3,4,5,6,7,8] rfl
 refine Zln ?_
 refine wp_seq ?_
 refine Zsr ?_
 refine Zg3 T (Zq (Zrm Z (T.e 2 Z))) Z (Zl Try.underlying104 0 Z Z) Z (fun _ T=>Zq (Zrm Z evc)) Z ?_;intro ac T
 replace T:=T.pick [0,1,2,3,4,6,7,8,9] rfl
 refine Zln ?_
 refine wp_block ?_
 have hlf:lku5.length≤1296:=by rw [hlt];unfold truthsL;rw [List.length_map];exact truths_few (hgood.val nop)
 have hgb1:=hgb.full
 have hgb2:=hgb.air
 have hgrl:=hgrlu6
 refine wp_loop_n (fun mz ac wc=>∃ (k:Nat) (OL:List Int) (A3:Option Addr) (c3:Nat) (Io:List (Nat×BA)),mz=lku5.length - k∧(k≤lku5.length)∧(OL=holdT b air way rlu6 (lku5.take k))∧(OL.length=k * airN b)∧(Sl 3 1 (.slice A3 OL.length c3) OL.length (ic OL) Io)∧Tm ac 80 [(1,Zi air),(2,Zi way),(3,Zj g1),(6,Zj g2),(11,.slice A3 OL.length c3),(12,.slice Acu6 rlu6.length ccu6),(39,.slice Aku5 lku5.length cku5),(40,Zi ((lku5.length:Nat):Int)),(41,Zi (k:Int))]∧Mem w noEx wc ((g2,.cells [Zi 0,Zi 0])::(g1,.cells [Zi b.full,Zi b.a0,Zi b.a1,.slice A b.cs.length c,.slice D b.ts.length d])::(Iku5++Icu6++Io))) ?_ ?_
 ·exact ⟨_,0,[],none,0,[],Z,(Nat.zero_le _),Z,(by simp),(Sl.nil _ _),T.pick [7,8,6,5,4,3,2,1,0] Z,(by simp only [Zx4];exact M)⟩
 clear T M
 rintro mz ac wc ⟨k,OL,A3,c3,Io,hmm1,hk,hO,hOl,hsl,T,M⟩
 refine Zsr ?_
 refine lq T (rn_lss Z (T.e 8 Z) (T.e 7 Z)) ?_;intro ac T
 refine Zln ?_
 refine wp_seq ?_
 refine wp_if (T.e 0 Z) ?_ ?_
 ·intro h6
  obtain ⟨x,hkx,-⟩:=l4c_next (l:=lku5) (k:=k) (by omega)
  have hxx:=hl4 x (List.mem_of_getElem? hkx)
  have hB9:=totL_bound (op:=rlu6) hxx.all
  refine Zsk ?_
  refine wp_seq ?_
  refine wp_block ?_
  refine Zsr ?_
  refine Zg2 (v2:=(.agg #[Zi x.a,Zi x.b,Zi x.c,Zi x.d])) T (Zq (Zri (size:=4) k Z (T.e 7 Z) (T.e 9 Z) ⟨_,Try.underlying104,by kernel_rfl⟩ Z (by omega) (SLku5.at0 (by omega)))) Z (fun _ T=>Zq (rn_rowat (Sp.l4cR SLku5 M (.cons _ (.cons _ (subL (subL (List.Sublist.refl _))))) hkx) Z (T.e 0 Z) Z)) Z ?_;intro ac T
  refine Zl2 ?_
  refine Zoa M T Z Z Z Z ?_;clear M T;intro g6 wc ac M T
  refine Zl2 ?_
  refine Zot M T Z Z (T.e 0 Z) (T.e 1 Z) Z .head Z Z ?_;clear M T;intro wc ac M T
  replace T:=T.pick [0,4,5,6,7,8,9,10,11,12] rfl
  refine Zln ?_
  refine Zsr ?_
  refine Zg4 (v1:=(.pointer (some ⟨g1,1,none⟩))) (v2:=(.pointer (some ⟨g1,1,none⟩))) T (Zq (Zrg 1 Z (T.e 3 Z))) Z (Zf 0 0 Z Z) Z (Zo M 2 0 Z Z Z Z) Z (Za 0 Z Z) Z ?_;intro ac T
  replace T:=T.pick [0,4,5,6,7,8,9,10,11,12,13] rfl
  refine Zln ?_
  refine wp_block ?_
  have han:airN b=(b.a1 - b.a0+1).toNat:=rfl
  have hkn:k * airN b≤1296 * 201:=Nat.mul_le_mul (by omega) (by omega)
  rw [show b.a0=b.a0+((0:Nat):Int) by omega] at T
  refine wp_loop_n (fun mz ac wc=>∃ (j:Nat) (OM:List Int) (A4:Option Addr) (c4:Nat) (Ij:List (Nat×BA)),mz=airN b - j∧(j≤airN b)∧(OM=OL++holdR b air way (totL x.l rlu6) j)∧(OM.length=OL.length+j)∧(Sl 3 1 (.slice A4 OM.length c4) OM.length (ic OM) Ij)∧Tm ac 80 [(1,Zi air),(2,Zi way),(3,Zj g1),(6,Zj g2),(11,.slice A4 OM.length c4),(12,.slice Acu6 rlu6.length ccu6),(14,Zj g6),(15,Zi (b.a0+(j:Int))),(39,.slice Aku5 lku5.length cku5),(40,Zi ((lku5.length:Nat):Int)),(41,Zi (k:Int))]∧Mem w noEx wc ((g6,.cells [Zi x.a,Zi x.b,Zi x.c,Zi x.d])::(g2,.cells [Zi 0,Zi 0])::(g1,.cells [Zi b.full,Zi b.a0,Zi b.a1,.slice A b.cs.length c,.slice D b.ts.length d])::(Iku5++Icu6++Ij))) ?_ ?_
  ·exact ⟨_,0,OL,A3,c3,Io,Z,(Nat.zero_le _),(by unfold holdR;simp),Z,hsl,T.pick [2,3,4,5,6,7,1,0,8,9,10] Z,M.mask [true,true,true] Z⟩
  clear T M
  rintro mz ac wc ⟨j,OM,A4,c4,Ij,hmm2,hj,hM,hMl,hsl4,T,M⟩
  refine wp_seq ?_
  refine Zsr ?_
  refine Zg5 (v2:=(.pointer (some ⟨g1,1,none⟩))) (v3:=(.pointer (some ⟨g1,2,none⟩))) T (Zq (Zrm Z (T.e 7 Z))) Z (Zf 1 3 Z Z) Z (Zf 1 0 Z Z) Z (Zo M 2 0 Z Z Z Z) Z (fun _ T=>Zq (rn_leq Z (T.e 3 Z) (T.e 0 Z))) Z ?_;intro ac T
  replace T:=T.pick [0,5,6,7,8,9,10,11,12,13,14,15] rfl
  refine Zln ?_
  refine wp_if (T.e 0 Z) ?_ ?_
  ·intro h7
   have hrm:=room_bd (way:=way) (x:=b.a0+(j:Int)) (full:=b.full) (by omega) (by omega)
   have hqd:0 < air+(totL x.l rlu6)→0≤Int.tdiv (roomW way (b.a0+(j:Int)) b.full) (air+(totL x.l rlu6))∧Int.tdiv (roomW way (b.a0+(j:Int)) b.full) (air+(totL x.l rlu6))≤roomW way (b.a0+(j:Int)) b.full:=fun h=>tdiv_bd hrm.1 h
   refine Zsk ?_
   refine wp_seq ?_
   refine wp_block ?_
   refine Zsr ?_
   refine lq T (Zra Z evc) ?_;intro ac T
   replace T:=T.pick [0,2,3,4,5,6,7,8,9,10,11,12] rfl
   refine Zln ?_
   refine wp_seq ?_
   refine Zsr ?_
   refine Zg3 T (Zq (Zrm Z (T.e 1 Z))) Z (Zr M 0 8 Z Z Z Z) Z (Zm 8 Z Z) Z ?_;intro ac T
   refine Zl2 ?_
   refine Zod T Z Z Z Z evf (.cons (T.e 1 Z) (.cons (T.e 0 Z) .nil)) Try.func79 Z Z ?_
   refine Calls.mono (total_any x Acu6 ccu6 rlu6 _ hxx (SRu6.rd M (.cons _ (.cons _ (.cons _ (subL (Zsq _ _)))))) (by omega) hgrl) ?_
   clear T;rintro e wc ⟨rfl,hb⟩ ac T
   replace M:=M.call hb;clear hb
   refine Zg2 T (Zq (rn_add Z (T.e 3 Z) (T.e 0 Z) (by omega))) Z (Za 0 Z Z) Z ?_;intro ac T
   replace T:=T.pick [0,6,7,8,9,10,11,12,13,14,15,16,17] rfl
   refine Zln ?_
   refine Zsr ?_
   refine Zg2 T (Zq (Zrm Z (T.e 0 Z))) Z (fun _ T=>Zq (rn_gtr Z (T.e 0 Z) evc)) Z ?_;intro ac T
   replace T:=T.pick [0,2,3,4,5,6,7,8,9,10,11,12,13,14] rfl
   refine Zln ?_
   refine wp_if (T.e 0 Z) ?_ ?_
   ·intro h8
    refine Zgs M (M.mask [true,true,true] Z) 12 (by kernel_rfl) Z (by kernel_rfl) ?_
    clear M;intro wc M
    refine Zgq T 0 1 Z (fun _=>(Zrm Z (T.e 2 Z))) ?_;intro ac T
    refine Zgq T 1 3 Z (fun _=>(Zrm Z (T.e 5 Z))) ?_;intro ac T
    refine Zgq T 4 19 Z (fun _=>(Zrm Z (T.e 12 Z))) ?_;intro ac T
    refine Zgq (v:=(Zj g1)) T 5 51 Z (fun _=>(Zrg 0 Z (T.e 8 Z))) ?_;intro ac T
    refine gq T 6 115 Z (fun B w' hD hl hS=>(Zro (Mem.nth (show Mem w noEx w' _ from hS) 2 Z) Z (T.e 0 Z) Z)) ?_;intro ac T
    refine Zgq T 8 371 Z (fun _=>(Zrm Z (T.e 6 Z))) ?_;intro ac T
    refine gw 2 375 ?_;intro K hK
    refine Zod T Z Z Z Z evf (.cons (T.e 4 Z) .nil) Try.func80 Z Z ?_
    refine Calls.mono (works_fn way _) ?_
    clear T;rintro e wc ⟨FAu8,FRu8,rfl,hfau8,hfru8,hb⟩ ac T
    replace M:=M.call hb;clear hb
    obtain ⟨fau8,ha1u8,ha2u8,ha3u8,ha4u8⟩:=hfau8
    obtain ⟨fru8,hr1u8,hr2u8,hr3u8,hr4u8⟩:=hfru8
    refine Zso hK _ _ (M.mask [true,true,true] Z) ?_;clear hK K
    refine Zgq (v:=(.func (.func FRu8) #[] [].toArray)) T 3 383 Z (fun _=>(rn_field Z (T.e 0 Z) (by kernel_rfl))) ?_;intro ac T
    refine gw 7 511 ?_;intro K hK
    refine Zod T Z Z Z Z (T.e 0 Z) (.cons (T.e 5 Z) (.cons (T.e 3 Z) .nil)) hr1u8 hr2u8 hr3u8 ?_
    refine Calls.mono (hr4u8 (b.a0+(j:Int)) b.full _ (by omega)) ?_
    clear T;rintro e wc ⟨rfl,hb⟩ ac T
    replace M:=M.call hb;clear hb
    refine Zso hK _ _ (M.mask [true,true,true] Z) ?_;clear hK K
    refine Zgq T 9 1023 Z (fun _=>(rn_quo Z (T.e 0 Z) (T.e 3 Z) (by omega) (by omega))) ?_;intro ac T
    refine Zgq T 10 2047 Z (fun _=>(rn_min2 Z (T.e 9 Z) (T.e 0 Z))) ?_;intro ac T
    refine g_q (v:=(Zi (min 600 (Int.tdiv (roomW way (b.a0+(j:Int)) b.full) (air+(totL x.l rlu6)))))) (T:=T.pick [0,1,2,3,4,5,6,7,8,9,10,11,12,14,15,16,17,18,19,20,21,22,23,24] Z) (i:=11) Z (by kernel_rfl) (by kernel_rfl:(Zpb 12 2047).setIfInBounds 11 true=Zpb 12 4095) si_U (fun _ _ _ h=>h) Z Z Z Z (fun _ _ _ _ _=>(Zra Z (T.e 0 Z))) ?_;intro ac T
    refine Zgd (by kernel_rfl) ?_
    replace T:=T.pick [0,14,15,16,17,18,19,20,21,22,23,24] rfl
    refine nm_then ?_
    refine wp_region_lit ?_
    refine Zg2 T (Zq (Zrm Z (T.e 5 Z))) Z (Zm 1 Z Z) Z ?_;intro ac T
    refine Zl2 ?_
    refine ow_bs (e:=3) [Zi (min 600 (Int.tdiv (roomW way (b.a0+(j:Int)) b.full) (air+(totL x.l rlu6))))] M T Z Z Z Z (.cons (T.e 0 Z) .nil) (fun _=>by kernel_rfl) ?_;clear M T;intro g7 wc ac M T
    refine Zl2 ?_
    refine ow_app (((g7,.cells [Zi (min 600 (Int.tdiv (roomW way (b.a0+(j:Int)) b.full) (air+(totL x.l rlu6))))])::(g6,.cells [Zi x.a,Zi x.b,Zi x.c,Zi x.d])::(g2,.cells [Zi 0,Zi 0])::(g1,.cells [Zi b.full,Zi b.a0,Zi b.a1,.slice A b.cs.length c,.slice D b.ts.length d])::(Iku5++Icu6))) Try.info3 hsl4 M (by first | rfl | simp) T Z Z Z Z Try.underlying28 Z Z Z (by omega) (T.e 2 Z) (T.e 0 Z) (Zne (i:=0) Z) Z Z ?_;clear M T;intro ga1 cga1 wc ac M T
    refine l_q (v:=(.slice (some ⟨ga1,0,none⟩) (OM.length+1) cga1)) (T.pick [0,1,2,3,4,5,6,7,8,10,11,12,13,14,15] Z) Z Z Z Z (Zra Z (T.e 0 Z)) ?_;intro ac T
    refine wpList_nil ?_
    replace T:=T.pick [0,6,7,8,9,10,11,12,13,14,15] rfl
    replace M:=M.mask [true,false,true,true,true] rfl
    refine Znb ?_
    refine nm_then ?_
    refine wp_region_lit ?_
    refine Zg2 T (Zq (Zrm Z (T.e 7 Z))) Z (fun _ T=>Zq (rn_add Z (T.e 0 Z) evc (by omega))) Z ?_;intro ac T
    refine l_q (v:=(Zi ((b.a0+(j:Int))+1))) (T.pick [0,1,2,3,4,5,6,7,8,10,11,12] Z) Z Z Z Z (Zra Z (T.e 0 Z)) ?_;intro ac T
    replace T:=T.pick [0,3,4,5,6,7,8,9,10,11,12] rfl
    refine Zln ?_
    have e9:OM.length+1=(OM++[((min 600 (Int.tdiv (roomW way (b.a0+(j:Int)) b.full) (air+(totL x.l rlu6)))):Int)]).length:=by simp
    have e8:((ic OM)++[Zi (min 600 (Int.tdiv (roomW way (b.a0+(j:Int)) b.full) (air+(totL x.l rlu6))))])=ic (OM++[((min 600 (Int.tdiv (roomW way (b.a0+(j:Int)) b.full) (air+(totL x.l rlu6)))):Int)]):=by rw [← ic_snoc]
    rw [e9,e8] at M
    rw [e9,show b.a0+(j:Int)+1=b.a0+((j+1:Nat):Int) by omega] at T
    clear e9 e8
    exact ⟨_,by omega,j+1,(OM++[((min 600 (Int.tdiv (roomW way (b.a0+(j:Int)) b.full) (air+(totL x.l rlu6)))):Int)]),_,_,[(ga1,.row 3 1 (OM++[((min 600 (Int.tdiv (roomW way (b.a0+(j:Int)) b.full) (air+(totL x.l rlu6)))):Int)]).length (ic (OM++[((min 600 (Int.tdiv (roomW way (b.a0+(j:Int)) b.full) (air+(totL x.l rlu6)))):Int)])) cga1)],Z,(by omega),(by rw [holdR_succ,← List.append_assoc,← hM];unfold holdJ;first | rw [if_pos (by omega)] | rw [if_neg (by omega)]),(by simp [hMl];omega),(Sl.row _ _ _ _ _ _),T.pick [2,3,4,5,1,6,7,0,8,9,10] Z,(Mem.swapI (I:=[(ga1,.row 3 1 (OM++[((min 600 (Int.tdiv (roomW way (b.a0+(j:Int)) b.full) (air+(totL x.l rlu6)))):Int)]).length (ic (OM++[((min 600 (Int.tdiv (roomW way (b.a0+(j:Int)) b.full) (air+(totL x.l rlu6)))):Int)])) cga1)]) (L:=((g6,.cells [Zi x.a,Zi x.b,Zi x.c,Zi x.d])::(g2,.cells [Zi 0,Zi 0])::(g1,.cells [Zi b.full,Zi b.a0,Zi b.a1,.slice A b.cs.length c,.slice D b.ts.length d])::(Iku5++Icu6))) (M.permT [0,1,2,3] 4 Z Z Z Z))⟩
   intro h8
   refine Zsk ?_
   refine wp_region_lit ?_
   refine Zg2 T (Zq (Zrm Z (T.e 7 Z))) Z (Zm 3 Z Z) Z ?_;intro ac T
   refine Zl2 ?_
   refine ow_bs (e:=3) [Zi 600] M T Z Z Z Z (.cons (T.e 0 Z) .nil) (fun _=>by kernel_rfl) ?_;clear M T;intro g8 wc ac M T
   refine Zl2 ?_
   refine ow_app (((g8,.cells [Zi 600])::(g6,.cells [Zi x.a,Zi x.b,Zi x.c,Zi x.d])::(g2,.cells [Zi 0,Zi 0])::(g1,.cells [Zi b.full,Zi b.a0,Zi b.a1,.slice A b.cs.length c,.slice D b.ts.length d])::(Iku5++Icu6))) Try.info3 hsl4 M (by first | rfl | simp) T Z Z Z Z Try.underlying28 Z Z Z (by omega) (T.e 2 Z) (T.e 0 Z) (Zne (i:=0) Z) Z Z ?_;clear M T;intro ga2 cga2 wc ac M T
   refine l_q (v:=(.slice (some ⟨ga2,0,none⟩) (OM.length+1) cga2)) (T.pick [0,1,2,3,4,5,6,7,8,9,10,12,13,14,15,16,17] Z) Z Z Z Z (Zra Z (T.e 0 Z)) ?_;intro ac T
   refine wpList_nil ?_
   replace T:=T.pick [0,8,9,10,11,12,13,14,15,16,17] rfl
   replace M:=M.mask [true,false,true,true,true] rfl
   refine Znb ?_
   refine nm_then ?_
   refine wp_region_lit ?_
   refine Zg2 T (Zq (Zrm Z (T.e 7 Z))) Z (fun _ T=>Zq (rn_add Z (T.e 0 Z) evc (by omega))) Z ?_;intro ac T
   refine l_q (v:=(Zi ((b.a0+(j:Int))+1))) (T.pick [0,1,2,3,4,5,6,7,8,10,11,12] Z) Z Z Z Z (Zra Z (T.e 0 Z)) ?_;intro ac T
   replace T:=T.pick [0,3,4,5,6,7,8,9,10,11,12] rfl
   refine Zln ?_
   have e9:OM.length+1=(OM++[(600:Int)]).length:=by simp
   have e8:((ic OM)++[Zi 600])=ic (OM++[(600:Int)]):=by rw [← ic_snoc]
   rw [e9,e8] at M
   rw [e9,show b.a0+(j:Int)+1=b.a0+((j+1:Nat):Int) by omega] at T
   clear e9 e8
   exact ⟨_,by omega,j+1,(OM++[(600:Int)]),_,_,[(ga2,.row 3 1 (OM++[(600:Int)]).length (ic (OM++[(600:Int)])) cga2)],Z,(by omega),(by rw [holdR_succ,← List.append_assoc,← hM];unfold holdJ;first | rw [if_pos (by omega)] | rw [if_neg (by omega)]),(by simp [hMl];omega),(Sl.row _ _ _ _ _ _),T.pick [2,3,4,5,1,6,7,0,8,9,10] Z,(Mem.swapI (I:=[(ga2,.row 3 1 (OM++[(600:Int)]).length (ic (OM++[(600:Int)])) cga2)]) (L:=((g6,.cells [Zi x.a,Zi x.b,Zi x.c,Zi x.d])::(g2,.cells [Zi 0,Zi 0])::(g1,.cells [Zi b.full,Zi b.a0,Zi b.a1,.slice A b.cs.length c,.slice D b.ts.length d])::(Iku5++Icu6))) (M.permT [0,1,2,3] 4 Z Z Z Z))⟩
  intro h7
  obtain rfl:j=airN b:=by omega
  refine wp_exit ?_
  refine Zet ?_
  refine Zet ?_
  refine ex_hit ?_
  refine Znb ?_
  refine nm_then ?_
  refine wp_region_lit ?_
  refine lq T (rn_add Z (T.e 11 Z) evc (by omega)) ?_;intro ac T
  refine l_q (v:=(Zi ((k:Int)+1))) (T.pick [0,1,2,3,4,5,6,7,8,9,10,11] Z) Z Z Z Z (Zrm Z (T.e 0 Z)) ?_;intro ac T
  refine wpList_nil ?_
  replace T:=T.pick [0,3,4,5,6,7,8,11,12] rfl
  replace M:=M.mask [false,true,true] rfl
  replace M:Mem w noEx wc ((g2,.cells [Zi 0,Zi 0])::(g1,.cells [Zi b.full,Zi b.a0,Zi b.a1,.slice A b.cs.length c,.slice D b.ts.length d])::(Iku5++Icu6++Ij)):=M
  refine nm_then ?_
  exact ⟨_,by omega,k+1,OM,A4,c4,Ij,Z,(by omega),(by rw [hM,holdT_succ hkx,← hO]),(by rw [hMl,hOl,Nat.succ_mul]),hsl4,T.pick [1,2,3,4,5,6,7,8,0] Z,(M.mask [true,true] Z)⟩
 intro h6
 rw [List.take_of_length_le (by omega)] at hO
 have hk9:k=lku5.length:=by omega
 rw [hk9] at hOl
 have hp9:0 < lku5.length * airN b:=Nat.mul_pos (by omega) (by unfold airN;omega)
 have hp8:lku5.length * airN b≤1296 * 201:=Nat.mul_le_mul (by omega) (by unfold airN;omega)
 obtain ⟨bO,oO,hSO⟩:=hsl.spV (by simp [ic_length])
 have SO9:=hSO w noEx
 refine wp_exit ?_
 refine Zet ?_
 refine Zet ?_
 refine ex_hit ?_
 refine nm_then ?_
 refine Zsr ?_
 refine lq T (Zrm Z (T.e 5 Z)) ?_;intro ac T
 refine Zl2 ?_
 refine Zod T Z Z Z Z evf (.cons (T.e 0 Z) (.cons evf .nil)) Try.func81 Z Z ?_
 refine Calls.mono (spanI_any A3 c3 OL _ (SO9.rd M (.cons _ (.cons _ (Zsq _ _)))) (by omega) (by omega)) ?_
 clear T;rintro e wc ⟨rfl,hb⟩ ac T
 replace M:=M.call hb;clear hb
 refine Zl2 ?_
 refine Zot M T Z Z (T.e 6 Z) (T.e 0 Z) Z .head Z Z ?_;clear M T;intro wc ac M T
 refine lq T (Zra Z evc) ?_;intro ac T
 refine wpList_nil ?_
 replace T:=T.pick [0,7] rfl
 replace M:=M.mask [true,false] rfl
 replace M:Mem w noEx wc ((g2,.cells [Zi ((spn OL).1),Zi ((spn OL).2)])::(Iku5++Icu6++Io)):=M
 refine Znr ?_
 subst hw9
 refine nqR_r M ?_;clear M;intro wc M
 refine rt_ct M T Z (T.e 1 Z) (T.e 0 Z) (Zne (i:=0) Z) Z ?_
 have hke2:holE b air way=0:=by unfold holE;rw [hwr];exact hke
 have e9:holR b air way=spn OL:=by unfold holR;rw [if_neg (by omega),hO,← hlt];rw [show rlu6=cornL b.cs.length [] by assumption]
 rw [e9,hke2]
 exact ⟨rfl,M.below⟩
end
open Go.RowKit
open Go.RowKit
open Go.RowKit
open Go.RowKit
theorem eqT23 {x y:Operand} {a0 a1 b0 b1:Int} {w:World}:(do eqGuard .eql 23 x y (.agg #[Zi a0,Zi a1]) (.agg #[Zi b0,Zi b1]);binOp .eql 23 (.agg #[Zi a0,Zi a1]) (.agg #[Zi b0,Zi b1]):Sem Value).run Try.prog w=.ok (.bool ((decide (a0=b0) && decide (a1=b1)))) w:=by
 go_simp
 (repeat' split) <;> simp_all
theorem same_start {α:Type} [DecidableEq α] (l r:List α):decide (l=r)=(decide ((l.length:Int)=(r.length:Int)) && decide (l.drop 0=r.drop 0)):=by
 by_cases h:l=r
 · subst h;simp
 · simp [h]
theorem same_next {x y x' y':Int} {l r:List (Int×Int)}:decide ((x,y)::l=(x',y')::r)=((decide (x=x') && decide (y=y')) && decide (l=r)):=by
 by_cases h1:x=x' <;> by_cases h2:y=y' <;> simp [h1,h2]
theorem sameRanges_any (A D:Option Addr) (n m c d:Nat) (l r:List (Int×Int)) (w:World) (hr:Rd w w.heap.size 2 A n (rc l)) (hs:Rd w w.heap.size 2 D m (rc r)) (hn:n≤9223372036854775807) (hm:m≤9223372036854775807) :
   Calls Try.prog 42 #[.slice A n c,.slice D m d] w fun e w'=>e=.returned (.bool (decide (l=r)))∧Below w.heap.size w w':=by
 have hl:=hr.len2
 have hl2:=hs.len2
 obtain ⟨bJ,oJ,SJ⟩:=Sp.old hr
 obtain ⟨bI,oI,SI⟩:=Sp.old hs
 refine Zpx noEx Try.func42 Z 31 Z [.slice A n c,.slice D m d] Z Z (Mem.init w _) ?_
 intro ac wc T M
 refine Zsr ?_
 refine lq T (Zra Z evc) ?_;intro ac T
 replace T:=T.pick [1,2] rfl
 refine Zln ?_
 refine Zsr ?_
 refine Zg6 T (Zq (Zrm Z (T.e 0 Z))) Z (Zl Try.underlying24 0 Z Z) Z (Zm 3 Z Z) Z (Zl Try.underlying24 0 Z Z) Z (fun _ T=>Zq (rn_eql Z (T.e 2 Z) (T.e 0 Z))) Z (Za 0 Z Z) Z ?_;intro ac T
 replace T:=T.pick [0,6,7] rfl
 refine Zln ?_
 refine wp_seq ?_
 refine Zsr ?_
 refine lq T (Zra Z evc) ?_;intro ac T
 refine Zln ?_
 refine wp_block ?_
 refine wp_loop_n (fun mz ac wc=>∃ (k:Nat) (b:Bool),mz=n - k∧(k≤n)∧(b=true→n=m)∧(decide (l=r)=(b && decide (l.drop k=r.drop k)))∧Tm ac 31 [(0,.slice A n c),(1,.slice D m d),(5,.bool b),(6,Zi (k:Int))]∧Mem w noEx wc []) ?_ ?_
 ·exact ⟨_,0,_,Z,(by omega),(fun h=>by have:=of_decide_eq_true h;omega),(by rw [same_start l r,hl,hl2]),T.pick [2,3,1,0] Z,M.mask [] Z⟩
 clear T M
 rintro mz ac wc ⟨k,b,hmm1,hk,hb,H,T,M⟩
 refine wp_seq ?_
 refine cut_seq (fun ac wc=>Tm ac 31 [(0,.slice A n c),(1,.slice D m d),(5,.bool b),(6,Zi (k:Int)),(18,.bool (b && (decide ((k:Int) < ((n:Nat):Int)))))]∧Mem w noEx wc []) ?_ ?_
 ·refine wp_region_lit ?_
  refine Zg2 T (Zq (Zrm Z (T.e 2 Z))) Z (Zm 0 Z Z) Z ?_;intro ac T
  rcases Zx9 b with h1 | h1
  ·refine Zg5 T (Zw (Zwy Z Z (T.e 0 Z) h1) (Zrm Z (T.e 5 Z))) Z (fun _ T=>Zw (Zwy Z Z (T.e 1 Z) h1) (Zrm Z (T.e 3 Z))) Z (fun _ T=>Zw (Zwy Z Z (T.e 2 Z) h1) (Zrl Z Try.underlying24 (T.e 0 Z))) Z (fun _ T=>Zw (Zwy Z Z (T.e 3 Z) h1) (rn_lss Z (T.e 2 Z) (T.e 0 Z))) Z (fun _ T=>Zq (Zr1 Z (T.e 4 Z) h1 (T.e 0 Z))) Z ?_;intro ac T
   refine wpList_nil ?_
   replace T:=T.pick [0,1,2,3,4,7,8,9,10] rfl
   exact ⟨(T.pick (E':=[(0,.slice A n c),(1,.slice D m d),(5,.bool b),(6,Zi (k:Int)),(18,.bool (decide ((k:Int) < ((n:Nat):Int))))]) [5,6,7,8,0] Z).as (by (try rw [show b=true from h1]);(try rfl)),M.mask [] Z⟩
  refine Zg5 T (Zp (Zwn Z Z (T.e 0 Z) h1)) Z (fun _ T=>Zp (Zwn Z Z (T.e 1 Z) h1)) Z (fun _ T=>Zp (Zwn Z Z (T.e 2 Z) h1)) Z (fun _ T=>Zp (Zwn Z Z (T.e 3 Z) h1)) Z (fun _ T=>Zq (Zr0 Z (T.e 4 Z) h1 evc)) Z ?_;intro ac T
  refine wpList_nil ?_
  replace T:=T.pick [0,1,2,3,4,7,8,9,10] rfl
  exact ⟨(T.pick (E':=[(0,.slice A n c),(1,.slice D m d),(5,.bool b),(6,Zi (k:Int)),(18,.bool false)]) [5,6,7,8,0] Z).as (by (try rw [show b=false from h1]);(try rfl)),M.mask [] Z⟩
 clear T M
 rintro ac wc ⟨T,M⟩
 refine wp_cond_split (T.e 4 Z) ?_ ?_
 ·intro h2
  (have h2':=h2;try simp only [Zb1,Zb2,Zb3,Zb4,Zb5,Zb6,Zb7] at h2')
  have h1:b=true∧(k:Int) < (n:Int):=by simpa using h2
  have hnm:=hb h1.1
  obtain ⟨x0,x1,hk1,hd⟩:=rc_next (l:=l) (k:=k) (by omega)
  obtain ⟨y0,y1,hk2,hd2⟩:=rc_next (l:=r) (k:=k) (by omega)
  rw [hd,hd2,h1.1,Bool.true_and,same_next] at H
  refine Zsk ?_
  refine wp_seq ?_
  refine wp_block ?_
  refine Zgs M (M.mask [] Z) 10 (by kernel_rfl) Z (by kernel_rfl) ?_
  clear M;intro wc M
  refine Zgq T 0 1 Z (fun _=>(Zrm Z (T.e 0 Z))) ?_;intro ac T
  refine Zgq T 1 3 Z (fun _=>(Zrm Z (T.e 4 Z))) ?_;intro ac T
  refine Zgq T 2 7 Z (fun _=>(Zri (size:=2) k Z (T.e 1 Z) (T.e 0 Z) ⟨_,Try.underlying24,by kernel_rfl⟩ Z (by omega) (SJ.at0 (by omega)))) ?_;intro ac T
  refine gq (v:=(.agg #[Zi x0,Zi x1])) T 3 15 Z (fun B w' hD hl hS=>(rn_rowat (Sp.rcR SJ (show Mem w noEx w' _ from hS) (Zz9 _) hk1) Z (T.e 0 Z) Z)) ?_;intro ac T
  refine Zgq T 4 31 Z (fun _=>(Zrm Z (T.e 5 Z))) ?_;intro ac T
  refine Zgq T 5 63 Z (fun _=>(Zrm Z (T.e 8 Z))) ?_;intro ac T
  refine Zgq T 6 127 Z (fun _=>(Zri (size:=2) k Z (T.e 1 Z) (T.e 0 Z) ⟨_,Try.underlying24,by kernel_rfl⟩ Z (by omega) (SI.at0 (by omega)))) ?_;intro ac T
  refine gq (v:=(.agg #[Zi y0,Zi y1])) T 7 255 Z (fun B w' hD hl hS=>(rn_rowat (Sp.rcR SI (show Mem w noEx w' _ from hS) (Zz9 _) hk2) Z (T.e 0 Z) Z)) ?_;intro ac T
  refine Zgq (v:=(.bool ((decide (x0=y0)) && (decide (x1=y1))))) T 8 511 Z (fun _=>(rn_bin Z (T.e 4 Z) (T.e 0 Z) eqT23)) ?_;intro ac T
  refine g_q (v:=(.bool ((decide (x0=y0)) && (decide (x1=y1))))) (T:=T.pick [0,1,2,3,4,5,6,7,8,9,10,12,13] Z) (i:=9) Z (by kernel_rfl) (by kernel_rfl:(Zpb 10 511).setIfInBounds 9 true=Zpb 10 1023) si_U (fun _ _ _ h=>h) Z Z Z Z (fun _ _ _ _ _=>(Zra Z (T.e 0 Z))) ?_;intro ac T
  refine Zgd (by kernel_rfl) ?_
  replace T:=T.pick [0,10,11,12] rfl
  refine Znb ?_
  refine nm_then ?_
  refine wp_region_lit ?_
  refine Zg2 T (Zq (Zrm Z (T.e 3 Z))) Z (fun _ T=>Zq (rn_add Z (T.e 0 Z) evc (by omega))) Z ?_;intro ac T
  refine l_q (v:=(Zi ((k:Int)+1))) (T.pick [0,1,2,3,4] Z) Z Z Z Z (Zra Z (T.e 0 Z)) ?_;intro ac T
  replace T:=T.pick [0,3,4,5] rfl
  refine Zln ?_
  exact ⟨_,by omega,k+1,_,Z,(by omega),(fun _=>hnm),H,T.pick [2,3,1,0] Z,M.mask [] Z⟩
 intro h2
 (have h2':=h2;try simp only [Zb1,Zb2,Zb3,Zb4,Zb5,Zb6,Zb7] at h2')
 refine wp_exit ?_
 refine Zet ?_
 refine Zet ?_
 refine ex_hit ?_
 refine nm_then ?_
 refine Zsr ?_
 refine Zg2 T (Zq (Zrm Z (T.e 2 Z))) Z (Za 0 Z Z) Z ?_;intro ac T
 replace T:=T.pick [0] rfl
 refine Zln ?_
 refine wp_ret ?_
 refine rt_1 T Z (T.e 0 Z) ?_
 refine ⟨ret_bool ?_,M.below⟩
 rw [H]
 rcases Zx9 b with hb1 | hb1
 · have hnm:=hb hb1
   have : ¬ ((k:Int) < (n:Int)):=by intro hc;simp [hb1,hc] at h2
   rw [List.drop_of_length_le (by omega),List.drop_of_length_le (by omega)]
   simp [hb1]
 · simp [hb1]
theorem sameRanges_same (A D:Option Addr) (n m c d:Nat) (l:List (Int×Int)) (w:World) (hr:Rd w w.heap.size 2 A n (rc l)) (hs:Rd w w.heap.size 2 D m (rc l)) (hn:n≤9223372036854775807) (hm:m≤9223372036854775807) :
  Calls Try.prog 42 #[.slice A n c,.slice D m d] w fun e w'=>e=.returned (.bool true)∧Below w.heap.size w w':=by
 have:=sameRanges_any A D n m c d l l w hr hs hn hm
 simpa using this
section
open Go.RowKit Go.Proofs.Ytoheddpnnjldgaa.Bq
structure BwIn (b:Bw) (A:Option Addr) (c:Nat) (D:Option Addr) (d:Nat) (I:List (Nat×BA)):Prop where
 cs:∃ g o,∀ (w:World) (ex:Nat→Prop),Sp w ex I A b.cs.length 2 g o (rc b.cs)
 ts:∃ g o,∀ (w:World) (ex:Nat→Prop),Sp w ex I D b.ts.length 4 g o (lkc b.ts)
 op:∀ t∈b.ts,∃ g o,∀ (w:World) (ex:Nat→Prop),Sp w ex I t.A t.op.length 1 g o (ic t.op)
 few:b.cs.length≤1000∧b.ts.length≤1000∧∀ t∈b.ts,t.op.length≤1000
theorem BwIn.rd {b:Bw} {A:Option Addr} {c:Nat} {D:Option Addr} {d:Nat} {I L:List (Nat×BA)} {w0 w:World} {ex:Nat→Prop} (h:BwIn b A c D d I) (M:Mem w0 ex w L) (hI:I.Sublist L) :
  Rd w w.heap.size 2 A b.cs.length (rc b.cs)∧Rd w w.heap.size 4 D b.ts.length (lkc b.ts)∧∀ t∈b.ts,Rd w w.heap.size 1 t.A t.op.length (ic t.op):=by
 obtain ⟨g,o,h1⟩:=h.cs
 obtain ⟨g',o',h2⟩:=h.ts
 exact ⟨(h1 w0 ex).rd M hI,(h2 w0 ex).rd M hI,fun t ht=>by obtain ⟨g,o,h3⟩:=h.op t ht;exact (h3 w0 ex).rd M hI⟩
def fBw (X:Option Addr) (xc:Nat):Bw:=⟨100,40,40,[(0,2),(1,3)],[⟨X,xc,[0,1],10,25,30⟩]⟩
def pT (r:Bool):List Nt:=[⟨4,2,3,false⟩,⟨5,3,3,r⟩,⟨6,1,2,false⟩]
def FoldsPost (w:World) (e:Ending) (w':World):Prop:=∃ A c D d X xc I,e=.returned (.agg #[Zi (fBw X xc).full,Zi (fBw X xc).a0,Zi (fBw X xc).a1,.slice A (fBw X xc).cs.length c,.slice D (fBw X xc).ts.length d])∧BwIn (fBw X xc) A c D d I∧Mem w noEx w' I
def PiecePost (r:Bool) (w:World) (e:Ending) (w':World):Prop:=∃ g,e=.returned (.slice (some ⟨g,0,none⟩) (pT r).length 3)∧Mem w noEx w' [(g,.cells (ntc (pT r)))]
theorem to_any (x y:Int)  (w:World)  :
  Calls Try.prog 48 #[Zi x,Zi y] w fun e w'=>e=.returned (.agg #[Zi x,Zi y])∧Below w.heap.size w w':=by
 refine Zpx noEx Try.func48 Z 8 Z [Zi x,Zi y] Z Z (Mem.init w _) ?_
 intro ac wc T M
 refine Zsr ?_
 refine Zl2 ?_
 refine Zoa M T Z Z Z Z ?_;clear M T;intro g1 wc ac M T
 refine Zln ?_
 refine Zsr ?_
 refine Zg3 (v3:=(.agg #[Zi x,Zi y])) T (Zq (Zrm Z (T.e 1 Z))) Z (Zm 3 Z Z) Z (fun _ T=>Zq (rn_build Z (.cons (T.e 1 Z) (.cons (T.e 0 Z) .nil)) (fun _=>by kernel_rfl))) Z ?_;intro ac T
 refine Zl2 ?_
 refine Zot M T Z Z (T.e 3 Z) (T.e 0 Z) Z .head Z Z ?_;clear M T;intro wc ac M T
 replace T:=T.pick [3] rfl
 refine Zln ?_
 refine wp_ret ?_
 refine rt_c M T Z (T.e 0 Z) (Zne (i:=0) Z) Z ?_
 exact ⟨rfl,M.below⟩
theorem note_any (s lo hi:Int) (r:Bool)  (w:World)  :
  Calls Try.prog 44 #[Zi s,Zi lo,Zi hi,.bool r] w fun e w'=>e=.returned (.agg #[Zi s,Zi lo,Zi hi,.bool r])∧Below w.heap.size w w':=by
 refine Zpx noEx Try.func44 Z 15 Z [Zi s,Zi lo,Zi hi,.bool r] Z Z (Mem.init w _) ?_
 intro ac wc T M
 refine Zsr ?_
 refine Zl2 ?_
 refine Zoa M T Z Z Z Z ?_;clear M T;intro g1 wc ac M T
 refine Zln ?_
 refine Zsr ?_
 refine Zg3 T (Zq (Zrm Z (T.e 1 Z))) Z (Zm 3 Z Z) Z (Zm 5 Z Z) Z ?_;intro ac T
 refine Zl2 ?_
 refine Zod T Z Z Z Z evf (.cons (T.e 1 Z) (.cons (T.e 0 Z) .nil)) Try.func48 Z Z ?_
 refine Calls.mono (to_any lo hi _) ?_
 clear T;rintro e wc ⟨rfl,hb⟩ ac T
 replace M:=M.call hb;clear hb
 refine Zg2 (v2:=(.agg #[Zi s,Zi lo,Zi hi,.bool r])) T (Zq (Zrm Z (T.e 8 Z))) Z (fun _ T=>Zq (rn_build Z (.cons (T.e 4 Z) (.cons (T.e 1 Z) (.cons (T.e 0 Z) .nil))) (fun _=>by kernel_rfl))) Z ?_;intro ac T
 refine Zl2 ?_
 refine Zot M T Z Z (T.e 6 Z) (T.e 0 Z) Z .head Z Z ?_;clear M T;intro wc ac M T
 replace T:=T.pick [6] rfl
 refine Zln ?_
 refine wp_ret ?_
 refine rt_c M T Z (T.e 0 Z) (Zne (i:=0) Z) Z ?_
 exact ⟨rfl,M.below⟩
theorem folds_any  (w:World)  :
  Calls Try.prog 70 #[] w (FoldsPost w):=by
 refine Zpx noEx Try.func70 Z 10 Z [] Z Z (Mem.init w _) ?_
 intro ac wc T M
 refine Zsr ?_
 refine Zl2 ?_
 refine Zoa M T Z Z Z Z ?_;clear M T;intro g1 wc ac M T
 refine Zln ?_
 refine Zsr ?_
 refine Zl2 ?_
 refine Zod T Z Z Z Z evf (.cons evc (.cons evc .nil)) Try.func48 Z Z ?_
 refine Calls.mono (to_any 40 40 _) ?_
 clear T;rintro e wc ⟨rfl,hb⟩ ac T
 replace M:=M.call hb;clear hb
 refine Zl2 ?_
 refine Zod T Z Z Z Z evf (.cons evc (.cons evc .nil)) Try.func48 Z Z ?_
 refine Calls.mono (to_any 0 2 _) ?_
 clear T;rintro e wc ⟨rfl,hb⟩ ac T
 replace M:=M.call hb;clear hb
 refine Zl2 ?_
 refine Zod T Z Z Z Z evf (.cons evc (.cons evc .nil)) Try.func48 Z Z ?_
 refine Calls.mono (to_any 1 3 _) ?_
 clear T;rintro e wc ⟨rfl,hb⟩ ac T
 replace M:=M.call hb;clear hb
 refine Zl2 ?_
 refine ow_bs (e:=23) [Zi 0,Zi 2,Zi 1,Zi 3] M T Z Z Z Z (.cons (T.e 1 Z) (.cons (T.e 0 Z) .nil)) (fun _=>by kernel_rfl) ?_;clear M T;intro g2 wc ac M T
 refine Zl2 ?_
 refine ow_bs (e:=3) [Zi 0,Zi 1] M T Z Z Z Z (.cons evc (.cons evc .nil)) (fun _=>by kernel_rfl) ?_;clear M T;intro g3 wc ac M T
 refine Zl2 ?_
 refine Zod T Z Z Z Z evf (.cons evc (.cons evc .nil)) Try.func48 Z Z ?_
 refine Calls.mono (to_any 25 30 _) ?_
 clear T;rintro e wc ⟨rfl,hb⟩ ac T
 replace M:=M.call hb;clear hb
 refine lq (v:=(.agg #[.slice (some ⟨g3,0,none⟩) 2 2,Zi 10,Zi 25,Zi 30])) T (rn_build Z (.cons (T.e 1 Z) (.cons evc (.cons (T.e 0 Z) .nil))) (fun _=>by kernel_rfl)) ?_;intro ac T
 refine Zl2 ?_
 refine ow_bs (e:=75) [.slice (some ⟨g3,0,none⟩) 2 2,Zi 10,Zi 25,Zi 30] M T Z Z Z Z (.cons (T.e 0 Z) .nil) (fun _=>by kernel_rfl) ?_;clear M T;intro g4 wc ac M T
 refine lq (v:=(.agg #[Zi 100,Zi 40,Zi 40,.slice (some ⟨g2,0,none⟩) 2 2,.slice (some ⟨g4,0,none⟩) 1 1])) T (rn_build Z (.cons evc (.cons (T.e 7 Z) (.cons (T.e 4 Z) (.cons (T.e 0 Z) .nil)))) (fun _=>by kernel_rfl)) ?_;intro ac T
 refine Zl2 ?_
 refine Zos M T Z Z (T.e 9 Z) (T.e 0 Z) Z (.tail (.tail (.tail .head))) Z (by simp) Z (by kernel_rfl) ?_;clear M T;intro wc ac M T
 replace T:=T.pick [9] rfl
 refine Zln ?_
 refine wp_ret ?_
 refine rt_c M T Z (T.e 0 Z) (Zne (i:=3) Z) Z ?_
 refine ⟨some ⟨g2,0,none⟩,2,some ⟨g4,0,none⟩,1,some ⟨g3,0,none⟩,2,_,Z,⟨⟨g2,0,fun w ex=>(Sp.cells (g:=g2) (xs:=rc [(0,2),(1,3)]) (n:=2) (size:=2) (by rfl)).mono (.cons _ (.cons _ (List.Sublist.cons_cons _ (Zz9 _))))⟩,⟨g4,0,fun w ex=>(Sp.cells (g:=g4) (xs:=lkc (fBw (some ⟨g3,0,none⟩) 2).ts) (n:=1) (size:=4) (by rfl)).mono (List.Sublist.cons_cons _ (Zz9 _))⟩,fun t ht=>?_,by show 2≤1000;omega,by show 1≤1000;omega,fun t ht=>?_⟩,M⟩
 ·rw [List.mem_singleton.1 ht]
  exact ⟨g3,0,fun w ex=>(Sp.cells (g:=g3) (xs:=ic [0,1]) (n:=2) (size:=1) (by rfl)).mono (.cons _ (List.Sublist.cons_cons _ (Zz9 _)))⟩
 ·rw [List.mem_singleton.1 ht]
  show 2≤1000
  omega
theorem piece4_any (r:Bool)  (w:World)  :
  Calls Try.prog 71 #[.bool r] w (PiecePost r w):=by
 refine Zpx noEx Try.func71 Z 8 Z [.bool r] Z Z (Mem.init w _) ?_
 intro ac wc T M
 refine Zsr ?_
 refine lq T (Zra Z evc) ?_;intro ac T
 replace T:=T.pick [1] rfl
 refine Zln ?_
 refine Zsr ?_
 refine Zl2 ?_
 refine Zod T Z Z Z Z evf (.cons evc (.cons evc (.cons evc (.cons evc .nil)))) Try.func44 Z Z ?_
 refine Calls.mono (note_any 4 2 3 false _) ?_
 clear T;rintro e wc ⟨rfl,hb⟩ ac T
 replace M:=M.call hb;clear hb
 refine lq T (Zrm Z (T.e 1 Z)) ?_;intro ac T
 refine Zl2 ?_
 refine Zod T Z Z Z Z evf (.cons evc (.cons evc (.cons evc (.cons (T.e 0 Z) .nil)))) Try.func44 Z Z ?_
 refine Calls.mono (note_any 5 3 3 r _) ?_
 clear T;rintro e wc ⟨rfl,hb⟩ ac T
 replace M:=M.call hb;clear hb
 refine Zl2 ?_
 refine Zod T Z Z Z Z evf (.cons evc (.cons evc (.cons evc (.cons evc .nil)))) Try.func44 Z Z ?_
 refine Calls.mono (note_any 6 1 2 false _) ?_
 clear T;rintro e wc ⟨rfl,hb⟩ ac T
 replace M:=M.call hb;clear hb
 refine Zl2 ?_
 refine ow_bs (e:=70) [Zi 4,Zi 2,Zi 3,.bool false,Zi 5,Zi 3,Zi 3,.bool r,Zi 6,Zi 1,Zi 2,.bool false] M T Z Z Z Z (.cons (T.e 3 Z) (.cons (T.e 1 Z) (.cons (T.e 0 Z) .nil))) (fun _=>by kernel_rfl) ?_;clear M T;intro g1 wc ac M T
 refine lq T (Zra Z (T.e 0 Z)) ?_;intro ac T
 replace T:=T.pick [0] rfl
 refine Zln ?_
 refine wp_ret ?_
 refine rt_1 T Z (T.e 0 Z) ?_
 exact ⟨_,Z,M.mask [true] Z⟩
theorem air_l (X:Option Addr) (xc:Nat):lvlL (fBw X xc) (pT true) [1,2,2]=[(16,20),(46,50),(70,80)]∧lvlE (fBw X xc) (pT true) [1,2,2]=0:=⟨by kernel_rfl,by kernel_rfl⟩
theorem air_t (X:Option Addr) (xc:Nat):turL (fBw X xc) (pT true)=[1,2,2]∧turE (fBw X xc) (pT true)=0:=⟨by kernel_rfl,by kernel_rfl⟩
theorem air_m (X:Option Addr) (xc:Nat):menL (fBw X xc) (pT false)=[0,1]∧menE (fBw X xc) (pT false)=0:=⟨by kernel_rfl,by kernel_rfl⟩
theorem air_h (X:Option Addr) (xc:Nat):holR (fBw X xc) 2 2=(12,12)∧holE (fBw X xc) 2 2=0:=⟨by kernel_rfl,by kernel_rfl⟩
end
section
open Go.RowKit Go.Proofs.Ytoheddpnnjldgaa.Bq
theorem sameInts_same (A B:Option Addr) (n m c d:Nat) (l:List Int) (w:World) (ha:Rd w w.heap.size 1 A n (ic l)) (hb:Rd w w.heap.size 1 B m (ic l)) (hn:n≤9223372036854775807) (hm:m≤9223372036854775807) :
  Calls Try.prog 31 #[.slice A n c,.slice B m d] w fun e w'=>e=.returned (.bool true)∧Below w.heap.size w w':=by
 have:=sameInts_any A B n m c d l l w ha hb hn hm
 simpa using this
set_option maxHeartbeats 4000000 in
theorem airy_any {J:Nat→Option Obj} (hP:FuncsOk Try.prog)  (w:World)  :
  CallsB Try.prog J 16 #[] w fun e w'=>e=.returned (.bool true)∧Below w.heap.size w w':=by
 refine px_enterB hP noEx Try.func16 Z 76 Z [] Z Z (Mem.init w _) ?_
 intro ac wc T M
 refine wpB_seq hP ?_
 refine b_lone hP w fun T9=>?_
 replace M:=M.tp T9 0 0
 refine wp_region_lit ?_
 refine lq T (Zra Z evc) ?_;intro ac T
 refine wpList_nil ?_
 refine nqR_n M ?_;clear M;intro wc M
 replace T:=T.pick [] rfl
 refine nm_then ?_
 refine wpB_seq hP ?_
 refine rB_preN hP w 3 (by decide) fun T9=>?_
 replace M:=M.tp T9 0 0
 refine Zl2 ?_
 refine Zod T Z Z Z Z evf .nil Try.func70 Z Z ?_
 refine Calls.mono (folds_any _) ?_
 clear T;rintro e wc ⟨Abu1,cbu1,Dbu1,dbu1,Xu1,xcu1,Ifu1,rfl,hInu1,N⟩ ac T
 replace M:=(M.join N).swapI
 clear N
 replace M:Mem (Bq.tp w T9 0) noEx wc (Ifu1):=M
 refine Zl2 ?_
 refine Zod T Z Z Z Z evf (.cons evc .nil) Try.func71 Z Z ?_
 refine Calls.mono (piece4_any true _) ?_
 clear T;rintro e wc ⟨gpu2,rfl,N⟩ ac T
 have SPu2:=Sp.cells (w:=(Bq.tp w T9 0)) (ex:=noEx) (g:=gpu2) (xs:=ntc (pT true)) (n:=3) (size:=4) (by rfl)
 replace M:=M.join N
 clear N
 replace M:Mem (Bq.tp w T9 0) noEx wc ((gpu2,.cells (ntc (pT true)))::Ifu1):=M
 refine Zl2 ?_
 refine ow_bs (e:=3) [Zi 1,Zi 2,Zi 2] M T Z Z Z Z (.cons evc (.cons evc (.cons evc .nil))) (fun _=>by kernel_rfl) ?_;clear M T;intro g1 wc ac M T
 refine wpList_nil ?_
 refine pqR_n M ?_;clear M;intro wc M
 replace SPu2:=SPu2.pt
 obtain ⟨hA9,hD9,hop9⟩:=hInu1.rd M (.cons _ (.cons _ (List.Sublist.refl _)))
 obtain ⟨nA9,nD9,nop9⟩:=hInu1.few
 refine rB_call hP (m:=5) (first:=[]) (cap:=[]) T Z Z Z Z Z evf (.cons (T.e 2 Z) (.cons (T.e 1 Z) (.cons (T.e 0 Z) .nil))) Try.func36 Z Z (Levels_any hP (fBw Xu1 xcu1) Abu1 cbu1 Dbu1 dbu1 (pT true) (some ⟨gpu2,0,none⟩) 3 (some ⟨g1,0,none⟩) 3 ([1,2,2]) _ hA9 hD9 hop9 nA9 nD9 nop9 (SPu2.rd M (.cons _ (List.Sublist.cons_cons _ (Zz9 _)))) (by decide) (M.rdOwn (Zne (i:=0) Z) Z Z) (by decide)) ?_
 clear T
 rintro e wc ⟨Aru3,cru3,Iru3,rfl,hrcu3,⟨bru3,oru3,hSru3⟩,N⟩
 refine ⟨_,Z,?_⟩
 intro ac T
 rw [(air_l Xu1 xcu1).1] at T hSru3
 rw [(air_l Xu1 xcu1).2] at T
 replace M:=(M.join N).swapI
 clear N
 replace M:Mem w noEx wc ((g1,.cells [Zi 1,Zi 2,Zi 2])::(gpu2,.cells (ntc (pT true)))::(Ifu1++Iru3)):=M
 have Sru3:=hSru3 w noEx
 refine rB_moreN hP w 5 0 Z (by decide) fun T9=>?_
 replace M:=M.tp T9 0 0
 replace SPu2:=SPu2.tp T9 0
 replace Sru3:=Sru3.tp T9 0
 refine Zg5 T (Zq (Zrm Z (T.e 0 Z))) Z (Ze 0 Z Z Z) Z (Ze 1 Z Z Z) Z (Za 1 Z Z) Z (Za 1 Z Z) Z ?_;intro ac T
 refine wpList_nil ?_
 refine pqR_n M ?_;clear M;intro wc M
 replace SPu2:=SPu2.pt
 replace Sru3:=Sru3.pt
 refine rB_nil hP ?_
 replace T:=T.pick [0,1] rfl
 replace M:=M.mask [false,true] rfl
 refine nm_then ?_
 refine wpB_seq hP ?_
 refine rB_preN hP w 2 (by decide) fun T9=>?_
 replace M:=M.tp T9 0 0
 replace SPu2:=SPu2.tp T9 0
 replace Sru3:=Sru3.tp T9 0
 refine Zl2 ?_
 refine Zod T Z Z Z Z evf .nil Try.func70 Z Z ?_
 refine Calls.mono (folds_any _) ?_
 clear T;rintro e wc ⟨Abu4,cbu4,Dbu4,dbu4,Xu4,xcu4,Ifu4,rfl,hInu4,N⟩ ac T
 replace M:=(M.join N).swapI
 clear N
 replace M:Mem (Bq.tp w T9 0) noEx wc ((gpu2,.cells (ntc (pT true)))::(Ifu1++Iru3++Ifu4)):=M
 refine Zl2 ?_
 refine Zod T Z Z Z Z evf (.cons evc .nil) Try.func71 Z Z ?_
 refine Calls.mono (piece4_any true _) ?_
 clear T;rintro e wc ⟨gpu5,rfl,N⟩ ac T
 have SPu5:=Sp.cells (w:=(Bq.tp w T9 0)) (ex:=noEx) (g:=gpu5) (xs:=ntc (pT true)) (n:=3) (size:=4) (by rfl)
 replace M:=M.join N
 clear N
 replace M:Mem (Bq.tp w T9 0) noEx wc ((gpu5,.cells (ntc (pT true)))::(gpu2,.cells (ntc (pT true)))::(Ifu1++Iru3++Ifu4)):=M
 refine wpList_nil ?_
 refine pqR_n M ?_;clear M;intro wc M
 replace SPu2:=SPu2.pt
 replace SPu5:=SPu5.pt
 replace Sru3:=Sru3.pt
 obtain ⟨hA9,hD9,hop9⟩:=hInu4.rd M (.cons _ (.cons _ (Zsq _ _)))
 obtain ⟨nA9,nD9,nop9⟩:=hInu4.few
 refine rB_call hP (m:=7) (first:=[]) (cap:=[]) T Z Z Z Z Z evf (.cons (T.e 1 Z) (.cons (T.e 0 Z) .nil)) Try.func27 Z Z (Turns_any hP (fBw Xu4 xcu4) Abu4 cbu4 Dbu4 dbu4 (pT true) (some ⟨gpu5,0,none⟩) 3 _ hA9 hD9 hop9 nA9 nD9 nop9 (SPu5.rd M (List.Sublist.cons_cons _ (Zz9 _))) (by decide)) ?_
 clear T
 rintro e wc ⟨Atu6,ctu6,Itu6,rfl,htcu6,⟨btu6,otu6,hStu6⟩,N⟩
 refine ⟨_,Z,?_⟩
 intro ac T
 rw [(air_t Xu4 xcu4).1] at T hStu6
 rw [(air_t Xu4 xcu4).2] at T
 rw [show turnW [1,2,2]=1 from rfl] at T
 replace M:=(M.join N).swapI
 clear N
 replace M:Mem w noEx wc ((gpu5,.cells (ntc (pT true)))::(gpu2,.cells (ntc (pT true)))::(Ifu1++Iru3++Ifu4++Itu6)):=M
 have Stu6:=hStu6 w noEx
 refine rB_moreN hP w 7 0 Z (by decide) fun T9=>?_
 replace M:=M.tp T9 0 0
 replace SPu2:=SPu2.tp T9 0
 replace SPu5:=SPu5.tp T9 0
 replace Sru3:=Sru3.tp T9 0
 replace Stu6:=Stu6.tp T9 0
 refine Zg7 T (Zq (Zrm Z (T.e 0 Z))) Z (Ze 0 Z Z Z) Z (Ze 1 Z Z Z) Z (Ze 2 Z Z Z) Z (Za 2 Z Z) Z (Za 2 Z Z) Z (Za 2 Z Z) Z ?_;intro ac T
 refine wpList_nil ?_
 refine pqR_n M ?_;clear M;intro wc M
 replace SPu2:=SPu2.pt
 replace SPu5:=SPu5.pt
 replace Sru3:=Sru3.pt
 replace Stu6:=Stu6.pt
 refine rB_nil hP ?_
 replace T:=T.pick [0,1,2,10,11] rfl
 refine nm_then ?_
 refine wpB_seq hP ?_
 refine rB_preN hP w 2 (by decide) fun T9=>?_
 replace M:=M.tp T9 0 0
 replace SPu2:=SPu2.tp T9 0
 replace SPu5:=SPu5.tp T9 0
 replace Sru3:=Sru3.tp T9 0
 replace Stu6:=Stu6.tp T9 0
 refine Zl2 ?_
 refine Zod T Z Z Z Z evf .nil Try.func70 Z Z ?_
 refine Calls.mono (folds_any _) ?_
 clear T;rintro e wc ⟨Abu7,cbu7,Dbu7,dbu7,Xu7,xcu7,Ifu7,rfl,hInu7,N⟩ ac T
 replace M:=(M.join N).swapI
 clear N
 replace M:Mem (Bq.tp w T9 0) noEx wc ((gpu5,.cells (ntc (pT true)))::(gpu2,.cells (ntc (pT true)))::(Ifu1++Iru3++Ifu4++Itu6++Ifu7)):=M
 refine Zl2 ?_
 refine Zod T Z Z Z Z evf (.cons evc .nil) Try.func71 Z Z ?_
 refine Calls.mono (piece4_any false _) ?_
 clear T;rintro e wc ⟨gpu8,rfl,N⟩ ac T
 have SPu8:=Sp.cells (w:=(Bq.tp w T9 0)) (ex:=noEx) (g:=gpu8) (xs:=ntc (pT false)) (n:=3) (size:=4) (by rfl)
 replace M:=M.join N
 clear N
 replace M:Mem (Bq.tp w T9 0) noEx wc ((gpu8,.cells (ntc (pT false)))::(gpu5,.cells (ntc (pT true)))::(gpu2,.cells (ntc (pT true)))::(Ifu1++Iru3++Ifu4++Itu6++Ifu7)):=M
 refine wpList_nil ?_
 refine pqR_n M ?_;clear M;intro wc M
 replace SPu2:=SPu2.pt
 replace SPu5:=SPu5.pt
 replace SPu8:=SPu8.pt
 replace Sru3:=Sru3.pt
 replace Stu6:=Stu6.pt
 obtain ⟨hA9,hD9,hop9⟩:=hInu7.rd M (.cons _ (.cons _ (.cons _ (Zsq _ _))))
 obtain ⟨nA9,nD9,nop9⟩:=hInu7.few
 refine rB_call hP (m:=5) (first:=[]) (cap:=[]) T Z Z Z Z Z evf (.cons (T.e 1 Z) (.cons (T.e 0 Z) .nil)) Try.func72 Z Z (Mend_any hP (fBw Xu7 xcu7) Abu7 cbu7 Dbu7 dbu7 (pT false) (some ⟨gpu8,0,none⟩) 3 _ hA9 hD9 hop9 nA9 nD9 nop9 (SPu8.rd M (List.Sublist.cons_cons _ (Zz9 _))) (by decide)) ?_
 clear T
 rintro e wc ⟨Amu9,cmu9,Imu9,rfl,hmcu9,⟨bmu9,omu9,hSmu9⟩,N⟩
 refine ⟨_,Z,?_⟩
 intro ac T
 rw [(air_m Xu7 xcu7).1] at T hSmu9
 rw [(air_m Xu7 xcu7).2] at T
 replace M:=(M.join N).swapI
 clear N
 replace M:Mem w noEx wc ((gpu8,.cells (ntc (pT false)))::(gpu5,.cells (ntc (pT true)))::(gpu2,.cells (ntc (pT true)))::(Ifu1++Iru3++Ifu4++Itu6++Ifu7++Imu9)):=M
 have Smu9:=hSmu9 w noEx
 refine rB_moreN hP w 5 0 Z (by decide) fun T9=>?_
 replace M:=M.tp T9 0 0
 replace SPu2:=SPu2.tp T9 0
 replace SPu5:=SPu5.tp T9 0
 replace SPu8:=SPu8.tp T9 0
 replace Smu9:=Smu9.tp T9 0
 replace Sru3:=Sru3.tp T9 0
 replace Stu6:=Stu6.tp T9 0
 refine Zg5 T (Zq (Zrm Z (T.e 0 Z))) Z (Ze 0 Z Z Z) Z (Ze 1 Z Z Z) Z (Za 1 Z Z) Z (Za 1 Z Z) Z ?_;intro ac T
 refine wpList_nil ?_
 refine pqR_n M ?_;clear M;intro wc M
 replace SPu2:=SPu2.pt
 replace SPu5:=SPu5.pt
 replace SPu8:=SPu8.pt
 replace Smu9:=Smu9.pt
 replace Sru3:=Sru3.pt
 replace Stu6:=Stu6.pt
 refine rB_nil hP ?_
 replace T:=T.pick [0,1,8,9,10,11,12] rfl
 refine nm_then ?_
 refine wpB_seq hP ?_
 refine rB_preN hP w 1 (by decide) fun T9=>?_
 replace M:=M.tp T9 0 0
 replace SPu2:=SPu2.tp T9 0
 replace SPu5:=SPu5.tp T9 0
 replace SPu8:=SPu8.tp T9 0
 replace Smu9:=Smu9.tp T9 0
 replace Sru3:=Sru3.tp T9 0
 replace Stu6:=Stu6.tp T9 0
 refine Zl2 ?_
 refine Zod T Z Z Z Z evf .nil Try.func70 Z Z ?_
 refine Calls.mono (folds_any _) ?_
 clear T;rintro e wc ⟨Abu10,cbu10,Dbu10,dbu10,Xu10,xcu10,Ifu10,rfl,hInu10,N⟩ ac T
 replace M:=(M.join N).swapI
 clear N
 replace M:Mem (Bq.tp w T9 0) noEx wc ((gpu8,.cells (ntc (pT false)))::(gpu5,.cells (ntc (pT true)))::(gpu2,.cells (ntc (pT true)))::(Ifu1++Iru3++Ifu4++Itu6++Ifu7++Imu9++Ifu10)):=M
 refine wpList_nil ?_
 refine pqR_n M ?_;clear M;intro wc M
 replace SPu2:=SPu2.pt
 replace SPu5:=SPu5.pt
 replace SPu8:=SPu8.pt
 replace Smu9:=Smu9.pt
 replace Sru3:=Sru3.pt
 replace Stu6:=Stu6.pt
 obtain ⟨hA9,hD9,hop9⟩:=hInu10.rd M (.cons _ (.cons _ (.cons _ (Zsq _ _))))
 obtain ⟨nA9,nD9,nop9⟩:=hInu10.few
 refine rB_call hP (m:=6) (first:=[]) (cap:=[]) T Z Z Z Z Z evf (.cons (T.e 0 Z) (.cons evc (.cons evc .nil))) Try.func22 Z Z (Holds_any hP (fBw Xu10 xcu10) Abu10 cbu10 Dbu10 dbu10 2 2 _ hA9 hD9 hop9 nA9 nD9 nop9 ) ?_
 clear T
 rintro e wc ⟨rfl,hb⟩
 refine ⟨_,Z,?_⟩
 intro ac T
 rw [(air_h Xu10 xcu10).1,(air_h Xu10 xcu10).2] at T
 replace M:=M.call hb;clear hb
 refine rB_moreN hP w 6 0 Z (by decide) fun T9=>?_
 replace M:=M.tp T9 0 0
 replace SPu2:=SPu2.tp T9 0
 replace SPu5:=SPu5.tp T9 0
 replace SPu8:=SPu8.tp T9 0
 replace Smu9:=Smu9.tp T9 0
 replace Sru3:=Sru3.tp T9 0
 replace Stu6:=Stu6.tp T9 0
 refine Zg3 T (Zq (Zrm Z (T.e 0 Z))) Z (Ze 0 Z Z Z) Z (Ze 1 Z Z Z) Z ?_;intro ac T
 refine Zl2 ?_
 refine Zoa M T Z Z Z Z ?_;clear M T;intro g2 wc ac M T
 refine Zl2 ?_
 refine Zot M T Z Z (T.e 0 Z) (T.e 2 Z) Z .head Z Z ?_;clear M T;intro wc ac M T
 refine lq T (Zra Z (T.e 1 Z)) ?_;intro ac T
 refine wpList_nil ?_
 refine pqR_n M ?_;clear M;intro wc M
 replace SPu2:=SPu2.pt
 replace SPu5:=SPu5.pt
 replace SPu8:=SPu8.pt
 replace Smu9:=Smu9.pt
 replace Sru3:=Sru3.pt
 replace Stu6:=Stu6.pt
 refine rB_nil hP ?_
 replace T:=T.pick [0,1,7,8,9,10,11,12,13] rfl
 refine nm_then ?_
 refine wpB_seq hP ?_
 refine b_lone hP w fun T9=>?_
 replace M:=M.tp T9 0 0
 replace SPu2:=SPu2.tp T9 0
 replace SPu5:=SPu5.tp T9 0
 replace SPu8:=SPu8.tp T9 0
 replace Smu9:=Smu9.tp T9 0
 replace Sru3:=Sru3.tp T9 0
 replace Stu6:=Stu6.tp T9 0
 refine Zgs M (M.mask [true,true,true,true] Z) 42 (by kernel_rfl) Z (by kernel_rfl) ?_
 clear M;intro wc M
 refine Zgq T 0 1 Z (fun _=>(Zrm Z (T.e 7 Z))) ?_;intro ac T
 refine Zgq (v:=(.bool true)) T 1 3 Z (fun _=>(Zrq (rn_eql Z (T.e 0 Z) evc) (by simp))) ?_;intro ac T
 refine Zgq T 2 7 Z (fun _=>(Zrm Z (T.e 0 Z))) ?_;intro ac T
 refine g_q (T:=T) (i:=3) Z (by kernel_rfl) (by kernel_rfl:(Zpb 42 7).setIfInBounds 3 true=Zpb 42 15) si_U (fun _ _ _ h=>h) (Zwy Z Z (T.e 0 Z) Z) Z Z Z (fun _ _ _ _ _=>(Zrm Z (T.e 7 Z))) ?_;intro ac T
 refine g_q (v:=(.bool true)) (T:=T) (i:=4) Z (by kernel_rfl) (by kernel_rfl:(Zpb 42 15).setIfInBounds 4 true=Zpb 42 31) si_U (fun _ _ _ h=>h) (Zwy Z Z (T.e 1 Z) Z) Z Z Z (fun _ _ _ _ _=>(Zrq (rn_eql Z (T.e 0 Z) evc) (by simp))) ?_;intro ac T
 refine Zgq T 5 63 Z (fun _=>(Zr1 Z (T.e 2 Z) Z (T.e 0 Z))) ?_;intro ac T
 refine Zgq T 6 127 Z (fun _=>(Zrm Z (T.e 0 Z))) ?_;intro ac T
 refine g_q (T:=T) (i:=7) Z (by kernel_rfl) (by kernel_rfl:(Zpb 42 127).setIfInBounds 7 true=Zpb 42 255) si_U (fun _ _ _ h=>h) (Zwy Z Z (T.e 0 Z) Z) Z Z Z (fun _ _ _ _ _=>(Zrm Z (T.e 9 Z))) ?_;intro ac T
 refine g_q (v:=(.bool true)) (T:=T) (i:=8) Z (by kernel_rfl) (by kernel_rfl:(Zpb 42 255).setIfInBounds 8 true=Zpb 42 511) si_U (fun _ _ _ h=>h) (Zwy Z Z (T.e 1 Z) Z) Z Z Z (fun _ _ _ _ _=>(Zrq (rn_eql Z (T.e 0 Z) evc) (by simp))) ?_;intro ac T
 refine Zgq T 9 1023 Z (fun _=>(Zr1 Z (T.e 2 Z) Z (T.e 0 Z))) ?_;intro ac T
 refine Zgq T 10 2047 Z (fun _=>(Zrm Z (T.e 0 Z))) ?_;intro ac T
 refine g_q (T:=T) (i:=11) Z (by kernel_rfl) (by kernel_rfl:(Zpb 42 2047).setIfInBounds 11 true=Zpb 42 4095) si_U (fun _ _ _ h=>h) (Zwy Z Z (T.e 0 Z) Z) Z Z Z (fun _ _ _ _ _=>(Zrm Z (T.e 11 Z))) ?_;intro ac T
 refine g_q (v:=(.bool true)) (T:=T) (i:=12) Z (by kernel_rfl) (by kernel_rfl:(Zpb 42 4095).setIfInBounds 12 true=Zpb 42 8191) si_U (fun _ _ _ h=>h) (Zwy Z Z (T.e 1 Z) Z) Z Z Z (fun _ _ _ _ _=>(Zrq (rn_eql Z (T.e 0 Z) evc) (by simp))) ?_;intro ac T
 refine Zgq T 13 16383 Z (fun _=>(Zr1 Z (T.e 2 Z) Z (T.e 0 Z))) ?_;intro ac T
 refine Zgq T 14 32767 Z (fun _=>(Zrm Z (T.e 0 Z))) ?_;intro ac T
 refine g_q (T:=T) (i:=15) Z (by kernel_rfl) (by kernel_rfl:(Zpb 42 32767).setIfInBounds 15 true=Zpb 42 65535) si_U (fun _ _ _ h=>h) (Zwy Z Z (T.e 0 Z) Z) Z Z Z (fun _ _ _ _ _=>(Zrm Z (T.e 20 Z))) ?_;intro ac T
 refine g_q (v:=(.bool true)) (T:=T) (i:=16) Z (by kernel_rfl) (by kernel_rfl:(Zpb 42 65535).setIfInBounds 16 true=Zpb 42 131071) si_U (fun _ _ _ h=>h) (Zwy Z Z (T.e 1 Z) Z) Z Z Z (fun _ _ _ _ _=>(Zrq (rn_eql Z (T.e 0 Z) evc) (by simp))) ?_;intro ac T
 refine Zgq T 17 262143 Z (fun _=>(Zr1 Z (T.e 2 Z) Z (T.e 0 Z))) ?_;intro ac T
 refine Zgq T 18 524287 Z (fun _=>(Zrm Z (T.e 0 Z))) ?_;intro ac T
 refine g_q (T:=T) (i:=19) Z (by kernel_rfl) (by kernel_rfl:(Zpb 42 524287).setIfInBounds 19 true=Zpb 42 1048575) si_U (fun _ _ _ h=>h) (Zwy Z Z (T.e 0 Z) Z) Z Z Z (fun B w' hD hl hS=>(Zrr (Mem.nth (show Mem (Bq.tp w T9 0) noEx w' _ from hS) 0 Z) Z (T.e 20 Z) Z)) ?_;intro ac T
 refine g_w (i:=20) (by kernel_rfl) Z (by kernel_rfl:(Zpb 42 1048575).setIfInBounds 20 true=Zpb 42 2097151) (Zwy Z Z (T.e 1 Z) Z) ?_;intro K hK
 refine Zod T Z Z Z Z evf (.cons evc (.cons evc .nil)) Try.func48 Z Z ?_
 refine Calls.mono (to_any 12 12 _) ?_
 clear T;rintro e wc ⟨rfl,hb⟩ ac T
 replace M:=M.call hb;clear hb
 refine Zso hK _ _ (M.mask [true,true,true,true] Z) ?_;clear hK K
 refine g_q (v:=(.bool true)) (T:=T) (i:=21) Z (by kernel_rfl) (by kernel_rfl:(Zpb 42 2097151).setIfInBounds 21 true=Zpb 42 4194303) si_U (fun _ _ _ h=>h) (Zwy Z Z (T.e 2 Z) Z) Z Z Z (fun _ _ _ _ _=>(Zrq (rn_bin Z (T.e 1 Z) (T.e 0 Z) eqT23) (by simp))) ?_;intro ac T
 refine Zgq T 22 8388607 Z (fun _=>(Zr1 Z (T.e 3 Z) Z (T.e 0 Z))) ?_;intro ac T
 refine Zgq T 23 16777215 Z (fun _=>(Zrm Z (T.e 0 Z))) ?_;intro ac T
 refine g_q (T:=T) (i:=24) Z (by kernel_rfl) (by kernel_rfl:(Zpb 42 16777215).setIfInBounds 24 true=Zpb 42 33554431) si_U (fun _ _ _ h=>h) (Zwy Z Z (T.e 0 Z) Z) Z Z Z (fun _ _ _ _ _=>(Zrm Z (T.e 30 Z))) ?_;intro ac T
 refine g_w (i:=25) (by kernel_rfl) Z (by kernel_rfl:(Zpb 42 33554431).setIfInBounds 25 true=Zpb 42 67108863) (Zwy Z Z (T.e 1 Z) Z) ?_;intro K hK
 refine ow_bs (e:=3) [Zi 1,Zi 2,Zi 2] M T Z Z Z Z (.cons evc (.cons evc (.cons evc .nil))) (fun _=>by kernel_rfl) ?_;clear M T;intro g3 wc ac M T
 refine Zso hK _ _ (M.mask [false,true,true,true,true] Z) ?_;clear hK K
 refine g_w (i:=26) (by kernel_rfl) Z (by kernel_rfl:(Zpb 42 67108863).setIfInBounds 26 true=Zpb 42 134217727) (Zwy Z Z (T.e 2 Z) Z) ?_;intro K hK
 refine Zod T Z Z Z Z evf (.cons (T.e 1 Z) (.cons (T.e 0 Z) .nil)) Try.func31 Z Z ?_
 refine Calls.mono (sameInts_same _ _ _ _ _ _ ([1,2,2]) _ (Stu6.rd M (.cons _ (.cons _ (.cons _ (.cons _ (.cons _ (subL (subL (subL (Zsq _ _)))))))))) (M.rdOwn (Zne (i:=0) Z) Z Z) (by first | omega | decide | (simp;omega)) (by first | omega | decide | (simp;omega))) ?_
 clear T;rintro e wc ⟨rfl,hb⟩ ac T
 replace M:=M.call hb;clear hb
 refine Zso hK _ _ (M.mask [false,true,true,true,true] Z) ?_;clear hK K
 refine Zgq T 27 268435455 Z (fun _=>(Zr1 Z (T.e 3 Z) Z (T.e 0 Z))) ?_;intro ac T
 refine Zgq T 28 536870911 Z (fun _=>(Zrm Z (T.e 0 Z))) ?_;intro ac T
 refine g_q (T:=T) (i:=29) Z (by kernel_rfl) (by kernel_rfl:(Zpb 42 536870911).setIfInBounds 29 true=Zpb 42 1073741823) si_U (fun _ _ _ h=>h) (Zwy Z Z (T.e 0 Z) Z) Z Z Z (fun _ _ _ _ _=>(Zrm Z (T.e 32 Z))) ?_;intro ac T
 refine g_w (i:=30) (by kernel_rfl) Z (by kernel_rfl:(Zpb 42 1073741823).setIfInBounds 30 true=Zpb 42 2147483647) (Zwy Z Z (T.e 1 Z) Z) ?_;intro K hK
 refine ow_bs (e:=3) [Zi 0,Zi 1] M T Z Z Z Z (.cons evc (.cons evc .nil)) (fun _=>by kernel_rfl) ?_;clear M T;intro g4 wc ac M T
 refine Zso hK _ _ (M.mask [false,false,true,true,true,true] Z) ?_;clear hK K
 refine g_w (i:=31) (by kernel_rfl) Z (by kernel_rfl:(Zpb 42 2147483647).setIfInBounds 31 true=Zpb 42 4294967295) (Zwy Z Z (T.e 2 Z) Z) ?_;intro K hK
 refine Zod T Z Z Z Z evf (.cons (T.e 1 Z) (.cons (T.e 0 Z) .nil)) Try.func31 Z Z ?_
 refine Calls.mono (sameInts_same _ _ _ _ _ _ ([0,1]) _ (Smu9.rd M (.cons _ (.cons _ (.cons _ (.cons _ (.cons _ (.cons _ (subL (Zsq _ _))))))))) (M.rdOwn (Zne (i:=0) Z) Z Z) (by first | omega | decide | (simp;omega)) (by first | omega | decide | (simp;omega))) ?_
 clear T;rintro e wc ⟨rfl,hb⟩ ac T
 replace M:=M.call hb;clear hb
 refine Zso hK _ _ (M.mask [false,false,true,true,true,true] Z) ?_;clear hK K
 refine Zgq T 32 8589934591 Z (fun _=>(Zr1 Z (T.e 3 Z) Z (T.e 0 Z))) ?_;intro ac T
 refine Zgq T 33 17179869183 Z (fun _=>(Zrm Z (T.e 0 Z))) ?_;intro ac T
 refine g_q (T:=T) (i:=34) Z (by kernel_rfl) (by kernel_rfl:(Zpb 42 17179869183).setIfInBounds 34 true=Zpb 42 34359738367) si_U (fun _ _ _ h=>h) (Zwy Z Z (T.e 0 Z) Z) Z Z Z (fun _ _ _ _ _=>(Zrm Z (T.e 42 Z))) ?_;intro ac T
 refine g_w (i:=35) (by kernel_rfl) Z (by kernel_rfl:(Zpb 42 34359738367).setIfInBounds 35 true=Zpb 42 68719476735) (Zwy Z Z (T.e 1 Z) Z) ?_;intro K hK
 refine Zod T Z Z Z Z evf (.cons evc (.cons evc .nil)) Try.func48 Z Z ?_
 refine Calls.mono (to_any 16 20 _) ?_
 clear T;rintro e wc ⟨rfl,hb⟩ ac T
 replace M:=M.call hb;clear hb
 refine Zso hK _ _ (M.mask [false,false,true,true,true,true] Z) ?_;clear hK K
 refine g_w (i:=36) (by kernel_rfl) Z (by kernel_rfl:(Zpb 42 68719476735).setIfInBounds 36 true=Zpb 42 137438953471) (Zwy Z Z (T.e 2 Z) Z) ?_;intro K hK
 refine Zod T Z Z Z Z evf (.cons evc (.cons evc .nil)) Try.func48 Z Z ?_
 refine Calls.mono (to_any 46 50 _) ?_
 clear T;rintro e wc ⟨rfl,hb⟩ ac T
 replace M:=M.call hb;clear hb
 refine Zso hK _ _ (M.mask [false,false,true,true,true,true] Z) ?_;clear hK K
 refine g_w (i:=37) (by kernel_rfl) Z (by kernel_rfl:(Zpb 42 137438953471).setIfInBounds 37 true=Zpb 42 274877906943) (Zwy Z Z (T.e 3 Z) Z) ?_;intro K hK
 refine Zod T Z Z Z Z evf (.cons evc (.cons evc .nil)) Try.func48 Z Z ?_
 refine Calls.mono (to_any 70 80 _) ?_
 clear T;rintro e wc ⟨rfl,hb⟩ ac T
 replace M:=M.call hb;clear hb
 refine Zso hK _ _ (M.mask [false,false,true,true,true,true] Z) ?_;clear hK K
 refine g_w (i:=38) (by kernel_rfl) Z (by kernel_rfl:(Zpb 42 274877906943).setIfInBounds 38 true=Zpb 42 549755813887) (Zwy Z Z (T.e 4 Z) Z) ?_;intro K hK
 refine ow_bs (e:=23) [Zi 16,Zi 20,Zi 46,Zi 50,Zi 70,Zi 80] M T Z Z Z Z (.cons (T.e 2 Z) (.cons (T.e 1 Z) (.cons (T.e 0 Z) .nil))) (fun _=>by kernel_rfl) ?_;clear M T;intro g5 wc ac M T
 refine Zso hK _ _ (M.mask [false,false,false,true,true,true,true] Z) ?_;clear hK K
 refine g_w (i:=39) (by kernel_rfl) Z (by kernel_rfl:(Zpb 42 549755813887).setIfInBounds 39 true=Zpb 42 1099511627775) (Zwy Z Z (T.e 5 Z) Z) ?_;intro K hK
 refine Zod T Z Z Z Z evf (.cons (T.e 4 Z) (.cons (T.e 0 Z) .nil)) Try.func42 Z Z ?_
 refine Calls.mono (sameRanges_same _ _ _ _ _ _ [(16,20),(46,50),(70,80)] _ (Sru3.rd M (.cons _ (.cons _ (.cons _ (.cons _ (.cons _ (.cons _ (.cons _ (subL (subL (subL (subL (subL (Zsq _ _)))))))))))))) (M.rdOwn (Zne (i:=0) Z) Z Z) (by first | omega | decide) (by first | omega | decide)) ?_
 clear T;rintro e wc ⟨rfl,hb⟩ ac T
 replace M:=M.call hb;clear hb
 refine Zso hK _ _ (M.mask [false,false,false,true,true,true,true] Z) ?_;clear hK K
 refine Zgq T 40 2199023255551 Z (fun _=>(Zr1 Z (T.e 6 Z) Z (T.e 0 Z))) ?_;intro ac T
 refine Zgq T 41 4398046511103 Z (fun _=>(Zra Z (T.e 0 Z))) ?_;intro ac T
 refine Zgd (by kernel_rfl) ?_
 refine nqR_n M ?_;clear M;intro wc M
 replace SPu2:=SPu2.pt
 replace SPu5:=SPu5.pt
 replace SPu8:=SPu8.pt
 replace Smu9:=Smu9.pt
 replace Sru3:=Sru3.pt
 replace Stu6:=Stu6.pt
 replace T:=T.pick [0] rfl
 replace M:=M.mask [false,false,false,false,true,true,true] rfl
 replace M:Mem w noEx wc ((gpu8,.cells (ntc (pT false)))::(gpu5,.cells (ntc (pT true)))::(gpu2,.cells (ntc (pT true)))::(Ifu1++Iru3++Ifu4++Itu6++Ifu7++Imu9++Ifu10)):=M
 refine nm_then ?_
 refine wpB_ret hP ?_
 refine rt_1 T Z (T.e 0 Z) ?_
 exact ⟨rfl,M.below⟩
end
theorem Mem.joinW {w0 w w':World} {ex:Nat→Prop} {L L' I:List (Nat×BA)} {g:Nat} {p p':BA} (M:Mem w0 ex w L) (hu:Upd L g p p' L') (N:Mem w (fun b=>b=g) w' (I++[(g,p')])):Mem w0 ex w' (I++L'):=by
 have hg:=M.blk _ hu.mem
 have hgl:=BA.lt hg.2
 have hnd:=N.nd
 rw [List.map_append] at hnd
 obtain ⟨n1,n2,n3⟩:=List.nodup_append.1 hnd
 have hI:∀ q∈I,w.heap.size≤q.1:=fun q hq=>by
  rcases (N.blk q (List.mem_append_left _ hq)).1 with h | h
  ·exact h
  ·exact absurd h (n3 q.1 (List.mem_map.2 ⟨q,hq,Z⟩) g (by simp))
 refine ⟨N.os.trans M.os,N.tape.trans M.tape,N.output.trans M.output,Nat.le_trans M.size N.size,fun b hb hx=>?_,fun q hq=>?_,?_⟩
 ·refine (N.block b (Nat.lt_of_lt_of_le hb M.size) fun e=>?_).trans (M.block b hb hx)
  have e:b=g:=e
  subst e
  rcases hg.1 with h | h
  ·have h:w0.heap.size≤b:=h
   omega
  ·exact hx h
 ·rcases List.mem_append.1 hq with hq | hq
  ·exact ⟨.inl (Nat.le_trans M.size (hI q hq)),(N.blk q (List.mem_append_left _ hq)).2⟩
  ·rcases hu.all M.nd q hq with rfl | ⟨h1,h2⟩
   ·exact ⟨hg.1,(N.blk _ (List.mem_append_right _ Zz2)).2⟩
   ·have h3:=M.blk q h1
    exact ⟨h3.1,BA.same h3.2 N.size (N.block _ (BA.lt h3.2) h2)⟩
 ·rw [List.map_append,hu.keys]
  refine List.nodup_append.2 ⟨n1,M.nd,fun a ha b hb e=>?_⟩
  obtain ⟨q,hq,rfl⟩:=List.mem_map.1 ha
  obtain ⟨r,hr,rfl⟩:=List.mem_map.1 hb
  have h1:=hI q hq
  have h2:=BA.lt (M.blk r hr).2
  omega
theorem Mem.joinW2 {w0 w w':World} {ex:Nat→Prop} {L L' I:List (Nat×BA)} {g:Nat} {p p':BA} (M:Mem w0 ex w L) (hu:Upd L g p p' L') (N:Mem w (fun b=>b=g) w' ((g,p')::I)):Mem w0 ex w' (I++L') :=
 M.joinW hu (Mem.swapI (I:=[(g,p')]) (L:=I) N)
def OddsPost (bp:Nat) (w:World) (e:Ending) (w':World):Prop:=∃ (b:Bool) (s':Int),u64ok s'∧e=.returned (.bool b)∧w.grownBy w' (some bp)∧Bk w' bp #[.int .u64 s']
def Asc (n:Int) (l:List Int):Prop:=(∀ x∈l,0≤x∧x < n)∧l.Pairwise (· < ·)
theorem Asc.nil (n:Int):Asc n []:=⟨fun x h=>(by cases h),List.Pairwise.nil⟩
theorem Asc.more {n m:Int} {l:List Int} (h:Asc n l) (hn:n≤m):Asc m l:=⟨fun x hx=>by have:=h.1 x hx;omega,h.2⟩
theorem Asc.snoc {n m:Int} {l:List Int} (h:Asc n l) (h0:0≤n) (hm:n < m):Asc m (l++[n]) :=
 ⟨fun x hx=>by
   rcases List.mem_append.1 hx with hx | hx
   · have:=h.1 x hx;omega
   · rw [List.mem_singleton.1 hx];omega,
  List.pairwise_append.2 ⟨h.2,List.pairwise_singleton _ _,fun a ha b hb=>by
   have:=h.1 a ha
   rw [List.mem_singleton] at hb
   omega⟩⟩
theorem Asc.opE {n:Int}:∀ {l:List Int} {p:Option Int},Asc n l→(∀ q c,p=some q→c∈l→q < c)→opE n l p=0
 | [],_,_,_=>rfl
 | c::r,p,h,hp=>by
  have h1:=h.1 c Zz2
  have h2:=List.pairwise_cons.1 h.2
  unfold Go.Proofs.Ytoheddpnnjldgaa.opE
  rw [if_neg (by rw [withinB_iff.2 (by omega)];simp),if_neg ?_]
  ·exact Asc.opE ⟨fun x hx=>h.1 x (Zz1 hx),h2.2⟩ fun q x hq hx=>by injection hq with hq;rw [← hq];exact h2.1 x hx
  ·cases p with
   | none=>simp [leP]
   | some q=>have:=hp q c rfl Zz2;simp [leP];omega
def IdxPost (bp:Nat) (P:List Int→Prop) (w:World) (e:Ending) (w':World):Prop:=∃ (l:List Int) (A:Option Addr) (c:Nat) (s:Int) (I:List (Nat×BA)),e=.returned (.slice A l.length c)∧P l∧u64ok s∧l.length≤c∧(∃ b o,∀ (w:World) (ex:Nat→Prop),Sp w ex I A l.length 1 b o (ic l))∧Mem w (fun b=>b=bp) w' ((bp,.cells [.int .u64 s])::I)
structure LkTrue (g:List Int) (t:Lk):Prop where
 ne:t.op.length≠0
 asc:Asc g.length t.op
 sec:1≤t.sec∧t.sec≤20
 lost:0≤t.lo∧t.lo≤totL g t.op * t.sec∧totL g t.op * t.sec≤t.hi∧t.hi≤400
def LkOfPost (bp:Nat) (g:List Int) (w:World) (e:Ending) (w':World):Prop:=∃ (t:Lk) (s:Int) (I:List (Nat×BA)),e=.returned (.agg #[.slice t.A t.op.length t.c,Zi t.sec,Zi t.lo,Zi t.hi])∧LkTrue g t∧u64ok s∧(∃ b o,∀ (w:World) (ex:Nat→Prop),Sp w ex I t.A t.op.length 1 b o (ic t.op))∧Mem w (fun b=>b=bp) w' ((bp,.cells [.int .u64 s])::I)
theorem Asc.len {n:Nat} {l:List Int} (h:Asc n l):l.length≤n:=by
 have h1:∀ (l:List Int) (m:Int),(∀ x∈l,m≤x∧x < n)→l.Pairwise (· < ·)→l≠[]→m+(l.length:Int)≤n:=fun l=>by
   induction l with
   | nil=>intro m _ _ h;exact absurd rfl h
   | cons x r ih =>
     intro m hm hp _
     obtain ⟨k1,k2⟩:=List.pairwise_cons.1 hp
     have hx:=hm x Zz2
     cases r with
     | nil=>simp;omega
     | cons y r =>
       have:=ih (x+1) (fun z hz=>⟨by have:=k1 z hz;omega,(hm z (Zz1 hz)).2⟩) k2 (by simp)
       simp only [Zx1] at this ⊢
       push_cast at this ⊢
       omega
 cases l with
 | nil=>simp
 | cons x r =>
   have:=h1 (x::r) 0 h.1 h.2 (by simp)
   omega
def NtTrue (q:Nt) (a:Int):Prop:=(1≤q.sec∧q.sec≤8)∧0≤q.lo∧q.lo≤a∧a≤q.hi∧q.hi≤9
def NtsTrue:List Nt→List Int→Prop
 | [],[]=>True
 | q::p,a::aa=>NtTrue q a∧NtsTrue p aa
 | _,_=>False
theorem NtsTrue.snoc:∀ {p:List Nt} {aa:List Int} {q:Nt} {a:Int},NtsTrue p aa→NtTrue q a→NtsTrue (p++[q]) (aa++[a])
 | [],[],_,_,_,h=>⟨h,trivial⟩
 | _::_,_::_,_,_,h,k=>⟨h.1,NtsTrue.snoc h.2 k⟩
 | [],_::_,_,_,h,_=>h.elim
 | _::_,[],_,_,h,_=>h.elim
theorem NtsTrue.good:∀ {p:List Nt} {aa:List Int},NtsTrue p aa→∀ q∈p,(1≤q.sec∧q.sec≤20)∧0≤q.lo∧q.lo≤q.hi∧q.hi≤9
 | [],_,_,q,h=>by cases h
 | x::p,[],h,_,_=>h.elim
 | x::p,a::aa,h,q,hq=>by
  rcases Zx7.1 hq with rfl | hq
  ·have:=h.1;unfold NtTrue at this;omega
  ·exact NtsTrue.good h.2 q hq
theorem nts_of {p:List Nt} (h:∀ q∈p,(1≤q.sec∧q.sec≤20)∧0≤q.lo∧q.lo≤q.hi∧q.hi≤9):ntsE p=0:=by
 induction p with
 | nil=>rfl
 | cons x p ih =>
  have hx:=h x Zz2
  have h1:ntE x=0:=by
   unfold ntE chkR
   rw [withinB_iff.2 hx.1,if_neg (by simp),withinB_iff.2 (by omega),withinB_iff.2 (by omega)]
   simp
   omega
  unfold ntsE
  rw [if_pos h1]
  exact ih fun q hq=>h q (Zz1 hq)
theorem pieceE_of {p:List Nt} (h:NtGood p):pieceE p=0:=by
 unfold pieceE
 rw [if_neg (by have:=h.n6;omega)]
 exact nts_of h.ok
def PcPost (bp:Nat) (m:Int) (w:World) (e:Ending) (w':World):Prop:=∃ (l:List Nt) (aa:List Int) (A:Option Addr) (c:Nat) (B:Option Addr) (d:Nat) (s:Int) (I:List (Nat×BA)),e=.returned (.tuple #[.slice A l.length c,.slice B aa.length d])∧NtsTrue l aa∧aa.length=l.length∧(l.length:Int)≤m∧l.length≤c∧u64ok s∧(∃ b o,∀ (w:World) (ex:Nat→Prop),Sp w ex I A l.length 4 b o (ntc l))∧(∃ b o,∀ (w:World) (ex:Nat→Prop),Sp w ex I B aa.length 1 b o (ic aa))∧Mem w (fun b=>b=bp) w' ((bp,.cells [.int .u64 s])::I)
theorem odds_any (s:Int) (bp:Nat) (n m:Int) (w:World) (hn:0≤n∧n≤1000) (hm:1≤m∧m≤1000) (hp:Bk w bp #[.int .u64 s]) (hs:u64ok s) :
  Calls Try.prog 46 #[Zj bp,Zi n,Zi m] w (OddsPost bp w):=by
 refine Zpx (fun b=>b=bp) Try.func46 Z 13 Z [Zj bp,Zi n,Zi m] Z Z (Mem.initEx (p:=.cells [.int .u64 s]) hp) ?_
 intro ac wc T M
 refine Zsr ?_
 refine lq T (Zra Z evc) ?_;intro ac T
 replace T:=T.pick [1,2,3] rfl
 refine Zln ?_
 refine Zsr ?_
 refine Zg3 T (Zq (Zrm Z (T.e 0 Z))) Z (Zm 3 Z Z) Z (fun _ T=>Zq (rn_sub Z (T.e 0 Z) evc (by omega))) Z ?_;intro ac T
 refine Zl2 ?_
 refine Zod T Z Z Z Z evf (.cons (T.e 2 Z) (.cons (T.e 0 Z) .nil)) Try.func19 Z Z ?_
 refine Calls.mono (upto_any _ bp (m - 1) _ (by omega) (by omega) (M.nth 0 Z) hs) ?_
 clear T;rintro e wc ⟨xu1,su1,hxu1,hsu1,rfl,hgr,hbk⟩ ac T
 replace M:=M.callC (cs':=[.int .u64 su1]) .head hgr hbk
 clear hgr hbk
 refine Zg3 T (Zq (Zrm Z (T.e 5 Z))) Z (fun _ T=>Zq (rn_lss Z (T.e 1 Z) (T.e 0 Z))) Z (Za 0 Z Z) Z ?_;intro ac T
 replace T:=T.pick [0] rfl
 refine Zln ?_
 refine wp_ret ?_
 refine rt_1 T Z (T.e 0 Z) ?_
 exact ⟨_,_,hsu1,Z,M.grown,M.nth 0 Z⟩
theorem pick_any (s:Int) (bp:Nat) (n:Int) (w:World) (hn:0≤n∧n≤1000) (hp:Bk w bp #[.int .u64 s]) (hs:u64ok s) :
   Calls Try.prog 102 #[Zj bp,Zi n] w (IdxPost bp (Asc n) w):=by
 refine Zpx (fun b=>b=bp) Try.func102 Z 19 Z [Zj bp,Zi n] Z Z (Mem.initEx (p:=.cells [.int .u64 s]) hp) ?_
 intro ac wc T M
 refine Zsr ?_
 refine lq T (Zra Z evc) ?_;intro ac T
 replace T:=T.pick [1,2] rfl
 refine Zln ?_
 refine Zsr ?_
 refine lq T (Zra Z evc) ?_;intro ac T
 refine Zln ?_
 refine wp_seq ?_
 refine Zsr ?_
 refine lq T (Zra Z evc) ?_;intro ac T
 refine Zln ?_
 refine wp_block ?_
 refine wp_loop_n (fun mz ac wc=>∃ (i:Int) (ol:List Int) (A3:Option Addr) (c3:Nat) (s:Int) (Io:List (Nat×BA)),mz=(n - i).toNat∧(0≤i∧i≤n)∧(Asc i ol)∧((ol.length:Int)≤i)∧(u64ok s)∧(Sl 3 1 (.slice A3 ol.length c3) ol.length (ic ol) Io)∧Tm ac 19 [(0,Zj bp),(1,Zi n),(5,.slice A3 ol.length c3),(6,Zi i)]∧Mem w (fun b=>b=bp) wc ((bp,.cells [.int .u64 s])::Io)) ?_ ?_
 ·exact ⟨_,0,[],none,0,_,[],Z,(by omega),(Asc.nil _),(by simp),hs,(Sl.nil _ _),T.pick [2,3,1,0] Z,M.mask [true] Z⟩
 clear T M
 rintro mz ac wc ⟨i,ol,A3,c3,s,Io,hmm1,hi,ha,hol,hs,hsl,T,M⟩
 refine wp_seq ?_
 refine Zsr ?_
 refine Zg3 T (Zq (Zrm Z (T.e 3 Z))) Z (Zm 2 Z Z) Z (fun _ T=>Zq (rn_lss Z (T.e 1 Z) (T.e 0 Z))) Z ?_;intro ac T
 replace T:=T.pick [0,3,4,5,6] rfl
 refine Zln ?_
 refine wp_if (T.e 0 Z) ?_ ?_
 ·intro h1
  refine Zsk ?_
  refine wp_seq ?_
  refine wp_block ?_
  refine Zsr ?_
  refine lq T (Zrm Z (T.e 1 Z)) ?_;intro ac T
  refine Zl2 ?_
  refine Zod T Z Z Z Z evf (.cons (T.e 0 Z) (.cons evc (.cons evc .nil))) Try.func46 Z Z ?_
  refine Calls.mono (odds_any _ bp 1 2 _ (by omega) (by omega) (M.nth 0 Z) hs) ?_
  clear T;rintro e wc ⟨bu1,su1,hsu1,rfl,hgr,hbk⟩ ac T
  replace M:=M.callC (cs':=[.int .u64 su1]) .head hgr hbk
  clear hgr hbk
  replace T:=T.pick [0,3,4,5,6] rfl
  refine Zln ?_
  refine wp_cond_split (T.e 0 Z) ?_ ?_
  ·intro h2
   refine wp_region_lit ?_
   refine Zg2 T (Zq (Zrm Z (T.e 3 Z))) Z (Zm 5 Z Z) Z ?_;intro ac T
   refine Zl2 ?_
   refine ow_bs (e:=3) [Zi i] M T Z Z Z Z (.cons (T.e 0 Z) .nil) (fun _=>by kernel_rfl) ?_;clear M T;intro g1 wc ac M T
   refine Zl2 ?_
   refine ow_app ([(g1,.cells [Zi i]),(bp,.cells [.int .u64 su1])]) Try.info3 hsl M (by first | rfl | simp) T Z Z Z Z Try.underlying28 Z Z Z (by omega) (T.e 2 Z) (T.e 0 Z) (Zne (i:=0) Z) Z Z ?_;clear M T;intro ga1 cga1 wc ac M T
   refine l_q (v:=(.slice (some ⟨ga1,0,none⟩) (ol.length+1) cga1)) (T.pick [0,1,2,3,4,5,6,8] Z) Z Z Z Z (Zra Z (T.e 0 Z)) ?_;intro ac T
   refine wpList_nil ?_
   replace T:=T.pick [0,6,7,8] rfl
   replace M:=M.mask [true,false,true] rfl
   refine Znb ?_
   refine nm_then ?_
   refine wp_region_lit ?_
   refine Zg2 T (Zq (Zrm Z (T.e 3 Z))) Z (fun _ T=>Zq (rn_add Z (T.e 0 Z) evc (by omega))) Z ?_;intro ac T
   refine l_q (v:=(Zi (i+1))) (T.pick [0,1,2,3,4] Z) Z Z Z Z (Zra Z (T.e 0 Z)) ?_;intro ac T
   replace T:=T.pick [0,3,4,5] rfl
   refine Zln ?_
   have e9:ol.length+1=(ol++[i]).length:=by simp
   have e8:((ic ol)++[Zi i])=ic (ol++[i]):=by rw [← ic_snoc]
   rw [e9,e8] at M
   rw [e9] at T
   clear e9 e8
   exact ⟨_,by omega,(i+1),(ol++[i]),_,_,su1,[(ga1,.row 3 1 (ol++[i]).length (ic (ol++[i])) cga1)],Z,(by omega),(ha.snoc (by omega) (by omega)),(by simp only [Zx3,Zx1,Zx2];omega),hsu1,(Sl.row _ _ _ _ _ _),T.pick [2,3,1,0] Z,M.perm [1,0] Z Z⟩
  intro h2
  refine wp_skip ?_
  refine Znb ?_
  refine nm_then ?_
  refine wp_region_lit ?_
  refine Zg2 T (Zq (Zrm Z (T.e 4 Z))) Z (fun _ T=>Zq (rn_add Z (T.e 0 Z) evc (by omega))) Z ?_;intro ac T
  refine l_q (v:=(Zi (i+1))) (T.pick [0,1,2,3,4,5] Z) Z Z Z Z (Zra Z (T.e 0 Z)) ?_;intro ac T
  replace T:=T.pick [0,4,5,6] rfl
  refine Zln ?_
  exact ⟨_,by omega,(i+1),ol,_,_,su1,Io,Z,(by omega),(ha.more (by omega)),(by omega),hsu1,hsl,T.pick [1,2,3,0] Z,M.permT [0] 1 Z Z Z Z⟩
 intro h1
 refine wp_exit ?_
 refine Zet ?_
 refine Zet ?_
 refine ex_hit ?_
 refine nm_then ?_
 refine Zsr ?_
 refine Zg2 T (Zq (Zrm Z (T.e 3 Z))) Z (Za 0 Z Z) Z ?_;intro ac T
 replace T:=T.pick [0] rfl
 refine Zln ?_
 refine wp_ret ?_
 refine rt_1 T Z (T.e 0 Z) ?_
 obtain ⟨b9,o9,h9⟩:=hsl.spV (by rw [ic_length];omega)
 have hcap:=hsl.capLe M (.cons _ (List.Sublist.refl _))
 exact ⟨ol,A3,c3,_,Io,Z,ha.more (by omega),hs,hcap,⟨b9,o9,h9⟩,M.mask [true] Z⟩
theorem secK {a s:Int} (ha:0≤a∧a≤12) (hs:1≤s∧s≤20):0≤a * s∧a * s≤240 :=
 ⟨Int.mul_nonneg ha.1 (by omega),by
  have h1:=Int.mul_le_mul ha.2 hs.2 (by omega) (by omega)
  omega⟩
set_option maxHeartbeats 2000000 in
theorem leakageOf_any (s:Int) (bp:Nat) (G:Option Addr) (n:Nat) (g:List Int)  (w:World) (hG:Rd w w.heap.size 1 G g.length (ic g)) (hne:∀ b o,G=some ⟨b,o,none⟩→b≠bp) (n4:g.length≤4) (h0:0 < g.length) (hg:∀ v∈g,0≤v∧v≤3) (hp:Bk w bp #[.int .u64 s]) (hs:u64ok s) :
   Calls Try.prog 47 #[Zj bp,.slice G g.length n] w (LkOfPost bp g w):=by
 obtain ⟨bG,oG,SG⟩:=Sp.oldEx hG hne
 refine Zpx (fun b=>b=bp) Try.func47 Z 53 Z [Zj bp,.slice G g.length n] Z Z (Mem.initEx (p:=.cells [.int .u64 s]) hp) ?_
 intro ac wc T M
 refine Zsr ?_
 refine Zl2 ?_
 refine Zoa M T Z Z Z Z ?_;clear M T;intro g1 wc ac M T
 refine Zln ?_
 refine Zsr ?_
 refine Zg3 T (Zq (Zrm Z (T.e 1 Z))) Z (Zm 3 Z Z) Z (Zl Try.underlying28 0 Z Z) Z ?_;intro ac T
 refine Zl2 ?_
 refine Zod T Z Z Z Z evf (.cons (T.e 2 Z) (.cons (T.e 0 Z) .nil)) Try.func102 Z Z ?_
 refine Calls.mono (pick_any _ bp ((g.length:Nat):Int) _ (by omega) (M.nth 1 Z) hs) ?_
 clear T;rintro e wc ⟨lu1,Au1,cu1,su1,Iu1,rfl,hlu1,hsu1,hlcu1,⟨bu1,ou1,hSlu1⟩,N⟩ ac T
 have SLu1:=hSlu1 w (fun b=>b=bp)
 replace M:=(M.joinW2 (.tail .head) N).swapI
 clear N
 replace M:Mem w (fun b=>b=bp) wc ((g1,.cells [.slice none 0 0,Zi 0,Zi 0,Zi 0])::(bp,.cells [.int .u64 su1])::Iu1):=M
 refine lq T (Zrm Z (T.e 5 Z)) ?_;intro ac T
 refine Zl2 ?_
 refine Zod T Z Z Z Z evf (.cons (T.e 0 Z) (.cons evc (.cons evc .nil))) Try.func20 Z Z ?_
 refine Calls.mono (within_pot _ bp 1 20 _ (by omega) (by omega) (by omega) (M.nth 1 Z) hsu1) ?_
 clear T;rintro e wc ⟨xu2,su2,hxu2,hsu2,rfl,hgr,hbk⟩ ac T
 replace M:=M.callC (cs':=[.int .u64 su2]) (.tail .head) hgr hbk
 clear hgr hbk
 refine lq (v:=(.agg #[.slice Au1 lu1.length cu1,Zi xu2,Zi 0,Zi 0])) T (rn_build Z (.cons (T.e 2 Z) (.cons (T.e 0 Z) .nil)) (fun _=>by kernel_rfl)) ?_;intro ac T
 refine Zl2 ?_
 refine Zoa M T Z Z Z Z ?_;clear M T;intro g2 wc ac M T
 refine Zl2 ?_
 refine Zot M T Z Z (T.e 0 Z) (T.e 1 Z) Z .head Z Z ?_;clear M T;intro wc ac M T
 replace T:=T.pick [0,8,9,10] rfl
 refine Zln ?_
 refine wp_seq ?_
 refine Zsr ?_
 refine Zg4 (v1:=(Zj g2)) T (Zq (Zrg 0 Z (T.e 0 Z))) Z (Zo M 0 0 Z Z Z Z) Z (Zl Try.underlying28 0 Z Z) Z (fun _ T=>Zq (rn_eql Z (T.e 0 Z) evc)) Z ?_;intro ac T
 replace T:=T.pick [0,4,5,6,7] rfl
 refine Zln ?_
 refine wp_if (T.e 0 Z) ?_ ?_
 ·intro h1
  refine wp_region_lit ?_
  refine Zg4 T (Zq (Zrm Z (T.e 3 Z))) Z (Zm 5 Z Z) Z (Zl Try.underlying28 0 Z Z) Z (fun _ T=>Zq (rn_sub Z (T.e 0 Z) evc (by omega))) Z ?_;intro ac T
  refine Zl2 ?_
  refine Zod T Z Z Z Z evf (.cons (T.e 3 Z) (.cons (T.e 0 Z) .nil)) Try.func19 Z Z ?_
  refine Calls.mono (upto_any _ bp (((g.length:Nat):Int) - 1) _ (by omega) (by omega) (M.nth 2 Z) hsu2) ?_
  clear T;rintro e wc ⟨xu3,su3,hxu3,hsu3,rfl,hgr,hbk⟩ ac T
  replace M:=M.callC (cs':=[.int .u64 su3]) (.tail (.tail .head)) hgr hbk
  clear hgr hbk
  refine Zl2 ?_
  refine ow_bs (e:=3) [Zi xu3] M T Z Z Z Z (.cons (T.e 0 Z) .nil) (fun _=>by kernel_rfl) ?_;clear M T;intro g3 wc ac M T
  refine lq (v:=(Zj g2)) T (Zrg 0 Z (T.e 7 Z)) ?_;intro ac T
  refine Zl2 ?_
  refine Zot M T Z Z (T.e 0 Z) (T.e 1 Z) Z (.tail .head) Z Z ?_;clear M T;intro wc ac M T
  replace T:=T.pick [8,9,10,11] rfl
  refine Zln ?_
  refine wp_seq ?_
  have SX:=Sp.cells (w:=w) (ex:=(fun b=>b=bp)) (g:=g3) (xs:=ic [xu3]) (n:=1) (size:=1) (by rfl)
  have hac:Asc g.length [xu3]:=⟨fun y hy=>by rw [List.mem_singleton.1 hy];omega,List.pairwise_singleton _ _⟩
  refine wp_region_lit ?_
  refine lq T (Zra Z evc) ?_;intro ac T
  refine Zln ?_
  refine wp_seq ?_
  refine Zsr ?_
  refine lq T (Zra Z evc) ?_;intro ac T
  refine Zln ?_
  refine wp_block ?_
  refine wp_loop_n (fun mz ac wc=>∃ (k:Nat) (s9:Int),mz=1 - k∧(k≤1)∧(s9=totL g (([xu3]).take k))∧(0≤s9∧s9≤3 * (k:Int))∧Tm ac 53 [(0,Zj bp),(1,.slice G g.length n),(4,Zj g1),(5,Zj g2),(6,Zi s9),(7,Zi (k:Int))]∧Mem w (fun b=>b=bp) wc ((g3,.cells [Zi xu3])::(g2,.cells [.slice (some ⟨g3,0,none⟩) 1 1,Zi xu2,Zi 0,Zi 0])::(g1,.cells [.slice none 0 0,Zi 0,Zi 0,Zi 0])::(bp,.cells [.int .u64 su3])::Iu1)) ?_ ?_
  ·exact ⟨_,0,0,Z,(Nat.zero_le _),Z,(by omega),T.pick [4,5,3,2,1,0] Z,M.mask [true,true,true,true] Z⟩
  clear T M
  rintro mz ac wc ⟨k,s9,hmm1,hk,H,hs9,T,M⟩
  refine wp_seq ?_
  refine Zsr ?_
  refine Zg5 (v2:=(Zj g2)) (v4:=(Zi 1)) T (Zq (Zrm Z (T.e 5 Z))) Z (Zf 0 4 Z Z) Z (Zo M 1 0 Z Z Z Z) Z (Zl Try.underlying28 0 Z Z) Z (fun _ T=>Zq (rn_lss Z (T.e 3 Z) (T.e 0 Z))) Z ?_;intro ac T
  replace T:=T.pick [0,5,6,7,8,9,10] rfl
  refine Zln ?_
  refine wp_if (T.e 0 Z) ?_ ?_
  ·intro h2
   obtain ⟨c,hkc,-⟩:=ic_next (l:=([xu3])) (k:=k) (by first | omega | (simp;omega))
   have hc4:=hac.1 c (List.mem_of_getElem? hkc)
   obtain ⟨v,hkv,-⟩:=ic_next (l:=g) (k:=c.toNat) (by omega)
   have hv3:=hg v (List.mem_of_getElem? hkv)
   have htk:=totL_succ g ([xu3]) hkc
   have hgv:g.getD c.toNat 0=v:=by rw [List.getD_eq_getElem?_getD,hkv];rfl
   have hl9:=hac.len
   refine Zsk ?_
   refine wp_seq ?_
   refine wp_block ?_
   refine wp_region_lit ?_
   refine Zg8 (v3:=(Zj g2)) T (Zq (Zrm Z (T.e 5 Z))) Z (Zm 3 Z Z) Z (Zf 0 6 Z Z) Z (Zo M 1 0 Z Z Z Z) Z (Zm 10 Z Z) Z (fun _ T=>Zq (Zri (size:=1) k Z (T.e 1 Z) (T.e 0 Z) ⟨_,Try.underlying28,by kernel_rfl⟩ Z (by omega) (SX.at0 (by omega)))) Z (fun _ T=>Zq (rn_cell (Sp.ic0 SX M (List.Sublist.cons_cons _ (Zz9 _)) hkc) Z (T.e 0 Z))) Z (fun _ T=>Zq (Zri (size:=1) c.toNat Z (T.e 5 Z) (T.e 0 Z) ⟨_,Try.underlying28,by kernel_rfl⟩ (by omega) (by omega) (SG.at0 (by omega)))) Z ?_;intro ac T
   refine Zg2 T (Zq (rn_cell (Sp.ic0 SG M (Zz9 _) hkv) Z (T.e 0 Z))) Z (fun _ T=>Zq (rn_add Z (T.e 8 Z) (T.e 0 Z) (by omega))) Z ?_;intro ac T
   refine l_q (v:=(Zi (s9+v))) (T.pick [0,1,2,3,4,5,6,7,8,9,10,11,12,13,14,16] Z) Z Z Z Z (Zra Z (T.e 0 Z)) ?_;intro ac T
   refine wpList_nil ?_
   replace T:=T.pick [0,12,13,14,15,16] rfl
   refine Znb ?_
   refine nm_then ?_
   refine wp_region_lit ?_
   refine Zg2 T (Zq (Zrm Z (T.e 5 Z))) Z (fun _ T=>Zq (rn_add Z (T.e 0 Z) evc (by omega))) Z ?_;intro ac T
   refine l_q (v:=(Zi ((k:Int)+1))) (T.pick [0,1,2,3,4,5,6] Z) Z Z Z Z (Zra Z (T.e 0 Z)) ?_;intro ac T
   replace T:=T.pick [0,3,4,5,6,7] rfl
   refine Zln ?_
   exact ⟨_,by omega,k+1,(s9+v),Z,(by first | omega | (simp;omega)),(by rw [htk,hgv,← H]),(by push_cast;omega),T.pick [2,3,4,5,1,0] Z,M.mask [true,true,true,true] Z⟩
  intro h2
  rw [List.take_of_length_le (by first | omega | (simp;omega))] at H
  have hl9:=hac.len
  have hm9:=secK (a:=s9) (s:=xu2) (by omega) (by omega)
  refine wp_exit ?_
  refine Zet ?_
  refine Zet ?_
  refine ex_hit ?_
  refine nm_then ?_
  refine Zsr ?_
  refine Zg7 (v3:=(.pointer (some ⟨g2,1,none⟩))) (v6:=(.pointer (some ⟨g2,1,none⟩))) T (Zq (Zrm Z (T.e 1 Z))) Z (Zm 6 Z Z) Z (Zf 1 6 Z Z) Z (Zo M 1 0 Z Z Z Z) Z (fun _ T=>Zq (rn_mul Z (T.e 2 Z) (T.e 0 Z) (by omega))) Z (Zf 1 9 Z Z) Z (Zo M 1 0 Z Z Z Z) Z ?_;intro ac T
  refine Zl2 ?_
  refine Zod T Z Z Z Z evf (.cons (T.e 6 Z) (.cons (T.e 2 Z) (.cons evc (.cons evc (.cons (T.e 0 Z) .nil))))) Try.func73 Z Z ?_
  refine Calls.mono (near_pot _ bp (s9 * xu2) 0 400 xu2 _ (by omega) (by omega) (by omega) (by omega) (by omega) (by omega) (M.nth 3 Z) hsu3) ?_
  clear T;rintro e wc ⟨xu4,yu4,su4,hxu4,hsu4,rfl,hgr,hbk⟩ ac T
  replace M:=M.callC (cs':=[.int .u64 su4]) (.tail (.tail (.tail .head))) hgr hbk
  clear hgr hbk
  refine lq (v:=(.pointer (some ⟨g2,2,none⟩))) T (Zrg 2 Z (T.e 12 Z)) ?_;intro ac T
  refine Zl2 ?_
  refine Zot M T Z Z (T.e 0 Z) (T.e 1 Z) Z (.tail .head) Z Z ?_;clear M T;intro wc ac M T
  replace T:=T.pick [12,13] rfl
  refine Zln ?_
  refine Zsr ?_
  refine lq T (Zrr (Mem.nth M 1 Z) Z (T.e 1 Z) Z) ?_;intro ac T
  refine Zl2 ?_
  refine Zot M T Z Z (T.e 1 Z) (T.e 0 Z) Z (.tail (.tail .head)) Z Z ?_;clear M T;intro wc ac M T
  refine wpList_nil ?_
  replace T:=T.pick [1] rfl
  replace M:=M.mask [true,false,true,true] rfl
  refine Znr ?_
  refine rt_c M T Z (T.e 0 Z) (Zne (i:=1) Z) Z ?_
  refine ⟨⟨some ⟨g3,0,none⟩,1,[xu3],xu2,xu4,yu4⟩,_,[(g3,.cells (ic [xu3]))],Z,⟨Nat.one_ne_zero,hac,by dsimp only;omega,?_⟩,hsu4,⟨g3,0,fun w ex=>Sp.cells (by rfl)⟩,(M.permT [2,0] 3 Z Z Z Z).sub (Zsl ([(bp,.cells [.int .u64 su4]),(g3,.cells [Zi xu3])]:List (Nat×BA)) _)⟩
  dsimp only
  rw [← H]
  omega
 intro h1
 refine Zsk ?_
 refine wp_seq ?_
 have hac:Asc g.length lu1:=hlu1
 have hne9:lu1.length≠0:=by omega
 refine wp_region_lit ?_
 refine lq T (Zra Z evc) ?_;intro ac T
 replace T:=T.pick [0,2,3,4,5] rfl
 refine Zln ?_
 refine wp_seq ?_
 refine Zsr ?_
 refine lq T (Zra Z evc) ?_;intro ac T
 refine Zln ?_
 refine wp_block ?_
 refine wp_loop_n (fun mz ac wc=>∃ (k:Nat) (s9:Int),mz=lu1.length - k∧(k≤lu1.length)∧(s9=totL g (lu1.take k))∧(0≤s9∧s9≤3 * (k:Int))∧Tm ac 53 [(0,Zj bp),(1,.slice G g.length n),(4,Zj g1),(5,Zj g2),(6,Zi s9),(7,Zi (k:Int))]∧Mem w (fun b=>b=bp) wc ((g2,.cells [.slice Au1 lu1.length cu1,Zi xu2,Zi 0,Zi 0])::(g1,.cells [.slice none 0 0,Zi 0,Zi 0,Zi 0])::(bp,.cells [.int .u64 su2])::Iu1)) ?_ ?_
 ·exact ⟨_,0,0,Z,(Nat.zero_le _),Z,(by omega),T.pick [4,5,3,2,1,0] Z,M.mask [true,true,true] Z⟩
 clear T M
 rintro mz ac wc ⟨k,s9,hmm1,hk,H,hs9,T,M⟩
 refine wp_seq ?_
 refine Zsr ?_
 refine Zg5 (v2:=(Zj g2)) T (Zq (Zrm Z (T.e 5 Z))) Z (Zf 0 4 Z Z) Z (Zo M 0 0 Z Z Z Z) Z (Zl Try.underlying28 0 Z Z) Z (fun _ T=>Zq (rn_lss Z (T.e 3 Z) (T.e 0 Z))) Z ?_;intro ac T
 replace T:=T.pick [0,5,6,7,8,9,10] rfl
 refine Zln ?_
 refine wp_if (T.e 0 Z) ?_ ?_
 ·intro h3
  obtain ⟨c,hkc,-⟩:=ic_next (l:=lu1) (k:=k) (by first | omega | (simp;omega))
  have hc4:=hac.1 c (List.mem_of_getElem? hkc)
  obtain ⟨v,hkv,-⟩:=ic_next (l:=g) (k:=c.toNat) (by omega)
  have hv3:=hg v (List.mem_of_getElem? hkv)
  have htk:=totL_succ g lu1 hkc
  have hgv:g.getD c.toNat 0=v:=by rw [List.getD_eq_getElem?_getD,hkv];rfl
  have hl9:=hac.len
  refine Zsk ?_
  refine wp_seq ?_
  refine wp_block ?_
  refine wp_region_lit ?_
  refine Zg8 (v3:=(Zj g2)) T (Zq (Zrm Z (T.e 5 Z))) Z (Zm 3 Z Z) Z (Zf 0 6 Z Z) Z (Zo M 0 0 Z Z Z Z) Z (Zm 10 Z Z) Z (fun _ T=>Zq (Zri (size:=1) k Z (T.e 1 Z) (T.e 0 Z) ⟨_,Try.underlying28,by kernel_rfl⟩ Z (by omega) (SLu1.at0 (by omega)))) Z (fun _ T=>Zq (rn_cell (Sp.ic0 SLu1 M (.cons _ (.cons _ (.cons _ (List.Sublist.refl _)))) hkc) Z (T.e 0 Z))) Z (fun _ T=>Zq (Zri (size:=1) c.toNat Z (T.e 5 Z) (T.e 0 Z) ⟨_,Try.underlying28,by kernel_rfl⟩ (by omega) (by omega) (SG.at0 (by omega)))) Z ?_;intro ac T
  refine Zg2 T (Zq (rn_cell (Sp.ic0 SG M (Zz9 _) hkv) Z (T.e 0 Z))) Z (fun _ T=>Zq (rn_add Z (T.e 8 Z) (T.e 0 Z) (by omega))) Z ?_;intro ac T
  refine l_q (v:=(Zi (s9+v))) (T.pick [0,1,2,3,4,5,6,7,8,9,10,11,12,13,14,16] Z) Z Z Z Z (Zra Z (T.e 0 Z)) ?_;intro ac T
  refine wpList_nil ?_
  replace T:=T.pick [0,12,13,14,15,16] rfl
  refine Znb ?_
  refine nm_then ?_
  refine wp_region_lit ?_
  refine Zg2 T (Zq (Zrm Z (T.e 5 Z))) Z (fun _ T=>Zq (rn_add Z (T.e 0 Z) evc (by omega))) Z ?_;intro ac T
  refine l_q (v:=(Zi ((k:Int)+1))) (T.pick [0,1,2,3,4,5,6] Z) Z Z Z Z (Zra Z (T.e 0 Z)) ?_;intro ac T
  replace T:=T.pick [0,3,4,5,6,7] rfl
  refine Zln ?_
  exact ⟨_,by omega,k+1,(s9+v),Z,(by first | omega | (simp;omega)),(by rw [htk,hgv,← H]),(by push_cast;omega),T.pick [2,3,4,5,1,0] Z,M.mask [true,true,true] Z⟩
 intro h3
 rw [List.take_of_length_le (by first | omega | (simp;omega))] at H
 have hl9:=hac.len
 have hm9:=secK (a:=s9) (s:=xu2) (by omega) (by omega)
 refine wp_exit ?_
 refine Zet ?_
 refine Zet ?_
 refine ex_hit ?_
 refine nm_then ?_
 refine Zsr ?_
 refine Zg7 (v3:=(.pointer (some ⟨g2,1,none⟩))) (v6:=(.pointer (some ⟨g2,1,none⟩))) T (Zq (Zrm Z (T.e 1 Z))) Z (Zm 6 Z Z) Z (Zf 1 6 Z Z) Z (Zo M 0 0 Z Z Z Z) Z (fun _ T=>Zq (rn_mul Z (T.e 2 Z) (T.e 0 Z) (by omega))) Z (Zf 1 9 Z Z) Z (Zo M 0 0 Z Z Z Z) Z ?_;intro ac T
 refine Zl2 ?_
 refine Zod T Z Z Z Z evf (.cons (T.e 6 Z) (.cons (T.e 2 Z) (.cons evc (.cons evc (.cons (T.e 0 Z) .nil))))) Try.func73 Z Z ?_
 refine Calls.mono (near_pot _ bp (s9 * xu2) 0 400 xu2 _ (by omega) (by omega) (by omega) (by omega) (by omega) (by omega) (M.nth 2 Z) hsu2) ?_
 clear T;rintro e wc ⟨xu5,yu5,su5,hxu5,hsu5,rfl,hgr,hbk⟩ ac T
 replace M:=M.callC (cs':=[.int .u64 su5]) (.tail (.tail .head)) hgr hbk
 clear hgr hbk
 refine lq (v:=(.pointer (some ⟨g2,2,none⟩))) T (Zrg 2 Z (T.e 12 Z)) ?_;intro ac T
 refine Zl2 ?_
 refine Zot M T Z Z (T.e 0 Z) (T.e 1 Z) Z .head Z Z ?_;clear M T;intro wc ac M T
 replace T:=T.pick [12,13] rfl
 refine Zln ?_
 refine Zsr ?_
 refine lq T (Zrr (Mem.nth M 0 Z) Z (T.e 1 Z) Z) ?_;intro ac T
 refine Zl2 ?_
 refine Zot M T Z Z (T.e 1 Z) (T.e 0 Z) Z (.tail .head) Z Z ?_;clear M T;intro wc ac M T
 refine wpList_nil ?_
 replace T:=T.pick [1] rfl
 replace M:=M.mask [false,true,true] rfl
 refine Znr ?_
 refine rt_c M T Z (T.e 0 Z) (Zne (i:=0) Z) Z ?_
 refine ⟨⟨Au1,cu1,lu1,xu2,xu5,yu5⟩,_,Iu1,Z,⟨hne9,hac,by dsimp only;omega,?_⟩,hsu5,⟨_,_,hSlu1⟩,M.mask [false,true] Z⟩
 dsimp only
 rw [← H]
 omega
set_option maxHeartbeats 2000000 in
theorem pieceOf_any (s:Int) (bp:Nat) (m:Int)  (w:World) (hm:0≤m∧m≤6) (hp:Bk w bp #[.int .u64 s]) (hs:u64ok s) :
   Calls Try.prog 25 #[Zj bp,Zi m] w (PcPost bp m w):=by
 refine Zpx (fun b=>b=bp) Try.func25 Z 36 Z [Zj bp,Zi m] Z Z (Mem.initEx (p:=.cells [.int .u64 s]) hp) ?_
 intro ac wc T M
 refine Zsr ?_
 refine Zg2 T (Zq (Zra Z evc)) Z (Zc Z) Z ?_;intro ac T
 replace T:=T.pick [2,3] rfl
 refine Zln ?_
 refine Zsr ?_
 refine lq T (Zra Z evc) ?_;intro ac T
 refine Zln ?_
 refine Zsr ?_
 refine lq T (Zra Z evc) ?_;intro ac T
 refine Zln ?_
 refine wp_seq ?_
 refine Zsr ?_
 refine Zg2 T (Zq (Zrm Z (T.e 2 Z))) Z (Zm 4 Z Z) Z ?_;intro ac T
 refine Zl2 ?_
 refine Zod T Z Z Z Z evf (.cons (T.e 1 Z) (.cons (T.e 0 Z) .nil)) Try.func19 Z Z ?_
 refine Calls.mono (upto_any _ bp m _ (by omega) (by omega) (M.nth 0 Z) hs) ?_
 clear T;rintro e wc ⟨xu1,su1,hxu1,hsu1,rfl,hgr,hbk⟩ ac T
 replace M:=M.callC (cs':=[.int .u64 su1]) .head hgr hbk
 clear hgr hbk
 refine lq T (Zra Z (T.e 0 Z)) ?_;intro ac T
 replace T:=T.pick [0,4,5,6] rfl
 refine Zln ?_
 refine wp_block ?_
 refine wp_loop_n (fun mz ac wc=>∃ (i:Int) (ol:List Nt) (al:List Int) (A3:Option Addr) (c3:Nat) (A4:Option Addr) (c4:Nat) (s:Int) (Io Ia:List (Nat×BA)),mz=i.toNat∧(0≤i)∧((ol.length:Int)+i≤m)∧(al.length=ol.length)∧(NtsTrue ol al)∧(u64ok s)∧(Sl 70 4 (.slice A3 ol.length c3) ol.length (ntc ol) Io)∧(Sl 3 1 (.slice A4 al.length c4) al.length (ic al) Ia)∧Tm ac 36 [(0,Zj bp),(6,.slice A3 ol.length c3),(7,.slice A4 al.length c4),(8,Zi i)]∧Mem w (fun b=>b=bp) wc ((bp,.cells [.int .u64 s])::(Io++Ia))) ?_ ?_
 ·exact ⟨_,xu1,[],[],none,0,none,0,_,[],[],Z,(by omega),(by simp only [Zx2];omega),Z,trivial,hsu1,(Sl.nil _ _),(Sl.nil _ _),T.pick [3,2,1,0] Z,M.mask [true] Z⟩
 clear T M
 rintro mz ac wc ⟨i,ol,al,A3,c3,A4,c4,s,Io,Ia,hmm1,hi,hol,hal,hT,hs,hsl,hsa,T,M⟩
 refine wp_seq ?_
 refine Zsr ?_
 refine Zg2 T (Zq (Zrm Z (T.e 3 Z))) Z (fun _ T=>Zq (rn_gtr Z (T.e 0 Z) evc)) Z ?_;intro ac T
 replace T:=T.pick [0,2,3,4,5] rfl
 refine Zln ?_
 refine wp_if (T.e 0 Z) ?_ ?_
 ·intro h1
  refine Zsk ?_
  refine wp_seq ?_
  refine wp_block ?_
  refine Zsr ?_
  refine lq T (Zrm Z (T.e 1 Z)) ?_;intro ac T
  refine Zl2 ?_
  refine Zod T Z Z Z Z evf (.cons (T.e 0 Z) (.cons evc .nil)) Try.func19 Z Z ?_
  refine Calls.mono (upto_any _ bp 4 _ (by omega) (by omega) (M.nth 0 Z) hs) ?_
  clear T;rintro e wc ⟨xu2,su2,hxu2,hsu2,rfl,hgr,hbk⟩ ac T
  replace M:=M.callC (cs':=[.int .u64 su2]) .head hgr hbk
  clear hgr hbk
  refine lq T (Zra Z (T.e 0 Z)) ?_;intro ac T
  replace T:=T.pick [0,4,5,6,7] rfl
  refine Zln ?_
  refine Zsr ?_
  refine Zg2 T (Zq (Zrm Z (T.e 3 Z))) Z (Zm 1 Z Z) Z ?_;intro ac T
  refine Zl2 ?_
  refine ow_bs (e:=3) [Zi xu2] M T Z Z Z Z (.cons (T.e 0 Z) .nil) (fun _=>by kernel_rfl) ?_;clear M T;intro g1 wc ac M T
  refine Zl2 ?_
  refine ow_app (((g1,.cells [Zi xu2])::(bp,.cells [.int .u64 su2])::Io)) Try.info3 hsa M (by first | rfl | simp) T Z Z Z Z Try.underlying28 Z Z Z (by omega) (T.e 2 Z) (T.e 0 Z) (Zne (i:=0) Z) Z Z ?_;clear M T;intro ga1 cga1 wc ac M T
  refine l_q (v:=(.slice (some ⟨ga1,0,none⟩) (al.length+1) cga1)) (T.pick [0,1,2,3,4,5,6,8] Z) Z Z Z Z (Zra Z (T.e 0 Z)) ?_;intro ac T
  refine wpList_nil ?_
  replace T:=T.pick [0,5,6,7,8] rfl
  replace M:=M.mask [true,false,true] rfl
  refine nm_then ?_
  refine wp_region_lit ?_
  refine Zg2 T (Zq (Zrm Z (T.e 3 Z))) Z (Zm 3 Z Z) Z ?_;intro ac T
  refine Zl2 ?_
  refine Zod T Z Z Z Z evf (.cons (T.e 0 Z) (.cons evc (.cons evc .nil))) Try.func20 Z Z ?_
  refine Calls.mono (within_pot _ bp 1 8 _ (by omega) (by omega) (by omega) (M.nth 1 Z) hsu2) ?_
  clear T;rintro e wc ⟨xu3,su3,hxu3,hsu3,rfl,hgr,hbk⟩ ac T
  replace M:=M.callC (cs':=[.int .u64 su3]) (.tail .head) hgr hbk
  clear hgr hbk
  refine Zg2 T (Zq (Zrm Z (T.e 5 Z))) Z (Zm 5 Z Z) Z ?_;intro ac T
  refine Zl2 ?_
  refine Zod T Z Z Z Z evf (.cons (T.e 1 Z) (.cons (T.e 0 Z) (.cons evc (.cons evc (.cons evc .nil))))) Try.func73 Z Z ?_
  refine Calls.mono (near_pot _ bp xu2 0 9 2 _ (by omega) (by omega) (by omega) (by omega) (by omega) (by omega) (M.nth 1 Z) hsu3) ?_
  clear T;rintro e wc ⟨xu4,yu4,su4,hxu4,hsu4,rfl,hgr,hbk⟩ ac T
  replace M:=M.callC (cs':=[.int .u64 su4]) (.tail .head) hgr hbk
  clear hgr hbk
  refine lq T (Zrm Z (T.e 8 Z)) ?_;intro ac T
  refine Zl2 ?_
  refine Zod T Z Z Z Z evf (.cons (T.e 0 Z) (.cons evc (.cons evc .nil))) Try.func46 Z Z ?_
  refine Calls.mono (odds_any _ bp 1 2 _ (by omega) (by omega) (M.nth 1 Z) hsu4) ?_
  clear T;rintro e wc ⟨bu5,su5,hsu5,rfl,hgr,hbk⟩ ac T
  replace M:=M.callC (cs':=[.int .u64 su5]) (.tail .head) hgr hbk
  clear hgr hbk
  refine lq (v:=(.agg #[Zi xu3,Zi xu4,Zi yu4,.bool bu5])) T (rn_build Z (.cons (T.e 5 Z) (.cons (T.e 2 Z) (.cons (T.e 0 Z) .nil))) (fun _=>by kernel_rfl)) ?_;intro ac T
  refine Zl2 ?_
  refine ow_bs (e:=70) [Zi xu3,Zi xu4,Zi yu4,.bool bu5] M T Z Z Z Z (.cons (T.e 0 Z) .nil) (fun _=>by kernel_rfl) ?_;clear M T;intro g2 wc ac M T
  refine Zl2 ?_
  refine ow_app ([(g2,.cells [Zi xu3,Zi xu4,Zi yu4,.bool bu5]),(ga1,.row 3 1 (al.length+1) ((ic al)++[Zi xu2]) cga1),(bp,.cells [.int .u64 su5])]) Try.info70 hsl M (by first | rfl | simp) T Z Z Z Z Try.underlying44 Z Z Z (by omega) (T.e 9 Z) (T.e 0 Z) (Zne (i:=0) Z) Z Z ?_;clear M T;intro ga2 cga2 wc ac M T
  refine l_q (v:=(.slice (some ⟨ga2,0,none⟩) (ol.length+1) cga2)) (T.pick [0,1,2,3,4,5,6,7,8,9,10,11,12,13,15] Z) Z Z Z Z (Zra Z (T.e 0 Z)) ?_;intro ac T
  refine wpList_nil ?_
  replace T:=T.pick [0,12,14,15] rfl
  replace M:=M.mask [true,false,true,true] rfl
  refine Znb ?_
  refine nm_then ?_
  refine wp_region_lit ?_
  refine Zg2 T (Zq (Zrm Z (T.e 3 Z))) Z (fun _ T=>Zq (rn_sub Z (T.e 0 Z) evc (by omega))) Z ?_;intro ac T
  refine l_q (v:=(Zi (i - 1))) (T.pick [0,1,2,3,4] Z) Z Z Z Z (Zra Z (T.e 0 Z)) ?_;intro ac T
  replace T:=T.pick [0,3,4,5] rfl
  refine Zln ?_
  have e9:al.length+1=(al++[xu2]).length:=by simp
  have e8:((ic al)++[Zi xu2])=ic (al++[xu2]):=by rw [← ic_snoc]
  rw [e9,e8] at M
  rw [e9] at T
  clear e9 e8
  have e9:ol.length+1=(ol++[(⟨xu3,xu4,yu4,bu5⟩:Nt)]).length:=by simp
  have e8:((ntc ol)++[Zi xu3,Zi xu4,Zi yu4,.bool bu5])=ntc (ol++[(⟨xu3,xu4,yu4,bu5⟩:Nt)]):=by rw [← ntc_snoc]
  rw [e9,e8] at M
  rw [e9] at T
  clear e9 e8
  exact ⟨_,by omega,(i - 1),(ol++[(⟨xu3,xu4,yu4,bu5⟩:Nt)]),(al++[xu2]),_,_,_,_,su5,[(ga2,.row 70 4 (ol++[(⟨xu3,xu4,yu4,bu5⟩:Nt)]).length (ntc (ol++[(⟨xu3,xu4,yu4,bu5⟩:Nt)])) cga2)],[(ga1,.row 3 1 (al++[xu2]).length (ic (al++[xu2])) cga1)],Z,(by omega),(by simp only [Zx3,Zx1,Zx2];omega),(by simp [hal]),(hT.snoc (by unfold NtTrue;dsimp only;omega)),hsu5,(Sl.row _ _ _ _ _ _),(Sl.row _ _ _ _ _ _),T.pick [3,1,2,0] Z,M.perm [2,0,1] Z Z⟩
 intro h1
 refine wp_exit ?_
 refine Zet ?_
 refine Zet ?_
 refine ex_hit ?_
 refine nm_then ?_
 refine Zsr ?_
 refine Zg4 T (Zq (Zrm Z (T.e 2 Z))) Z (Zm 4 Z Z) Z (Za 1 Z Z) Z (Za 1 Z Z) Z ?_;intro ac T
 replace T:=T.pick [0,1] rfl
 refine Zln ?_
 refine wp_ret ?_
 refine rt_2 T Z (T.e 1 Z) (T.e 0 Z) ?_
 obtain ⟨b9,o9,h9⟩:=hsl.spV (ntc_length _)
 obtain ⟨b8,o8,h8⟩:=hsa.spV (by simp [ic_length])
 have hcap:=hsl.capLe M (.cons _ (subL (List.Sublist.refl _)))
 exact ⟨ol,al,A3,c3,A4,c4,_,Io++Ia,Z,hT,hal,by omega,hcap,hs,⟨b9,o9,fun w ex=>(h9 w ex).mono (Zsl _ _)⟩,⟨b8,o8,fun w ex=>(h8 w ex).mono (Zsq _ _)⟩,M.mask [true] Z⟩
section
variable {P:Program} {fn:Func} {R:Ending→World→Prop} {a:Act} {w0 w:World} {ex:Nat→Prop} {L:List (Nat×BA)} {n:Nat} {E:List (Nat×Value)}
theorem rt_ctt {t t' t2:Tmp} {ty:TypeId} {m g:Nat} [hT:RowTy P ty m] {v v2:Value} {cs:List Value} (M:Mem w0 ex w L) (T:Tm a n E) (hr:fn.results = #[.cell t ty,.tmp t',.tmp t2])
  (hx:a.eval (.tmp t)=Zj g) (hx':a.eval (.tmp t')=v) (hx2:a.eval (.tmp t2)=v2) (hm:(g,BA.cells cs)∈L) (hn:cs.length=m) (h:R (.returned (.tuple #[.agg cs.toArray,v,v2])) w):bodyPost P fn R .ret a w:=by
 obtain ⟨d,hu,hw⟩:=hT.row
 refine ⟨T.defers,.tuple #[.agg cs.toArray,v,v2],?_,h⟩
 have hB:=M.get hm
 have hl:=run_loadVar_mid w g 0 ty cs d hB.range hu hw (by rw [hn];exact hT.size)
 have e:a.tmps[t]?.getD undef=Zj g:=by simpa [Act.eval] using hx
 have e':a.tmps[t']?.getD undef=v:=by simpa [Act.eval] using hx'
 have e2:a.tmps[t2]?.getD undef=v2:=by simpa [Act.eval] using hx2
 simp [results,hr,e,e',e2,asAddr,hl,Sem.run_bind]
end
def CsTrue:List (Int×Int)→List Int→Prop
 | [],[]=>True
 | x::r,v::s=>((0≤x.1∧x.1≤v)∧(v≤x.2∧x.2≤5)∧v≤3)∧CsTrue r s
 | _,_=>False
theorem CsTrue.snoc:∀ {p:List (Int×Int)} {s:List Int} {x:Int×Int} {v:Int},CsTrue p s→((0≤x.1∧x.1≤v)∧(v≤x.2∧x.2≤5)∧v≤3)→CsTrue (p++[x]) (s++[v])
 | [],[],_,_,_,h=>⟨h,trivial⟩
 | _::_,_::_,_,_,h,k=>⟨h.1,CsTrue.snoc h.2 k⟩
 | [],_::_,_,_,h,_=>h.elim
 | _::_,[],_,_,h,_=>h.elim
theorem CsTrue.le3:∀ {p:List (Int×Int)} {s:List Int},CsTrue p s→∀ v∈s,0≤v∧v≤3
 | [],[],_,v,h=>by cases h
 | x::_,u::_,h,v,hv=>by
  rcases Zx7.1 hv with rfl | hv
  ·have:=h.1;omega
  ·exact CsTrue.le3 h.2 v hv
 | [],_::_,h,_,_=>h.elim
 | _::_,[],h,_,_=>h.elim
structure BwTrue (b:Bw) (g:List Int) (air:Int):Prop where
 full:20≤b.full∧b.full≤120
 air:(0≤b.a0∧b.a0≤air)∧air≤b.a1∧b.a1≤b.full
 len:b.cs.length=g.length
 cs:CsTrue b.cs g
 ts:∀ t∈b.ts,LkTrue g t
def BoPost (bp:Nat) (cm tm:Int) (w:World) (e:Ending) (w':World):Prop:=∃ (b:Bw) (g:List Int) (air:Int) (A:Option Addr) (c:Nat) (D:Option Addr) (d:Nat) (G:Option Addr) (n:Nat) (s:Int) (I:List (Nat×BA)),
 e=.returned (.tuple #[.agg #[Zi b.full,Zi b.a0,Zi b.a1,.slice A b.cs.length c,.slice D b.ts.length d],.slice G g.length n,Zi air])∧BwTrue b g air∧(g.length:Int)≤cm∧(b.ts.length:Int)≤tm∧u64ok s∧BwIn b A c D d I∧(∃ b o,∀ (w:World) (ex:Nat→Prop),Sp w ex I G g.length 1 b o (ic g))∧Mem w (fun b=>b=bp) w' ((bp,.cells [.int .u64 s])::I)
theorem Mem.nodup_at {w0 w:World} {ex:Nat→Prop} {L I L9 Lx:List (Nat×BA)} {g:Nat} (M:Mem w0 ex w Lx) (h:Lx=L++(I++L9)) (hg:g∈L.map (·.1)):g ∉ I.map (·.1):=fun h2=>by
 have hn:=M.nd
 rw [h,List.map_append,List.map_append] at hn
 exact (List.nodup_append.1 hn).2.2 g hg g (List.mem_append_left _ h2) Z
set_option maxHeartbeats 4000000 in
theorem bellowOf_any (s:Int) (bp:Nat) (cm tm:Int)  (w:World) (hcm:0≤cm∧cm≤4) (htm:0≤tm∧tm≤3) (hp:Bk w bp #[.int .u64 s]) (hs:u64ok s) :
   Calls Try.prog 18 #[Zj bp,Zi cm,Zi tm] w (BoPost bp cm tm w):=by
 refine Zpx (fun b=>b=bp) Try.func18 Z 72 Z [Zj bp,Zi cm,Zi tm] Z Z (Mem.initEx (p:=.cells [.int .u64 s]) hp) ?_
 intro ac wc T M
 refine Zsr ?_
 refine Zl2 ?_
 refine Zoa M T Z Z Z Z ?_;clear M T;intro g1 wc ac M T
 refine Zg2 T (Zq (Zra Z evc)) Z (Zc Z) Z ?_;intro ac T
 replace T:=T.pick [2,3,4,5] rfl
 refine Zln ?_
 refine Zsr ?_
 refine lq T (Zrm Z (T.e 1 Z)) ?_;intro ac T
 refine Zl2 ?_
 refine Zod T Z Z Z Z evf (.cons (T.e 0 Z) (.cons evc (.cons evc .nil))) Try.func20 Z Z ?_
 refine Calls.mono (within_pot _ bp 20 120 _ (by omega) (by omega) (by omega) (M.nth 1 Z) hs) ?_
 clear T;rintro e wc ⟨xu1,su1,hxu1,hsu1,rfl,hgr,hbk⟩ ac T
 replace M:=M.callC (cs':=[.int .u64 su1]) (.tail .head) hgr hbk
 clear hgr hbk
 refine lq (v:=(.agg #[Zi xu1,Zi 0,Zi 0,.slice none 0 0,.slice none 0 0])) T (rn_build Z (.cons (T.e 0 Z) .nil) (fun _=>by kernel_rfl)) ?_;intro ac T
 refine Zl2 ?_
 refine Zoa M T Z Z Z Z ?_;clear M T;intro g2 wc ac M T
 refine Zl2 ?_
 refine Zot M T Z Z (T.e 0 Z) (T.e 1 Z) Z .head Z Z ?_;clear M T;intro wc ac M T
 replace T:=T.pick [0,4,5,6,7] rfl
 refine Zln ?_
 refine Zsr ?_
 refine Zg3 (v2:=(Zj g2)) T (Zq (Zrm Z (T.e 2 Z))) Z (Zf 0 1 Z Z) Z (Zo M 0 0 Z Z Z Z) Z ?_;intro ac T
 refine Zl2 ?_
 refine Zod T Z Z Z Z evf (.cons (T.e 2 Z) (.cons (T.e 0 Z) .nil)) Try.func19 Z Z ?_
 refine Calls.mono (upto_any _ bp xu1 _ (by omega) (by omega) (M.nth 2 Z) hsu1) ?_
 clear T;rintro e wc ⟨xu2,su2,hxu2,hsu2,rfl,hgr,hbk⟩ ac T
 replace M:=M.callC (cs':=[.int .u64 su2]) (.tail (.tail .head)) hgr hbk
 clear hgr hbk
 refine lq T (Zra Z (T.e 0 Z)) ?_;intro ac T
 replace T:=T.pick [0,5,6,7,8,9] rfl
 refine Zln ?_
 refine Zsr ?_
 refine Zg4 (v3:=(Zj g2)) T (Zq (Zrm Z (T.e 3 Z))) Z (Zm 1 Z Z) Z (Zf 0 3 Z Z) Z (Zo M 0 0 Z Z Z Z) Z ?_;intro ac T
 refine Zl2 ?_
 refine Zod T Z Z Z Z evf (.cons (T.e 3 Z) (.cons (T.e 2 Z) (.cons evc (.cons (T.e 0 Z) (.cons evc .nil))))) Try.func73 Z Z ?_
 refine Calls.mono (near_pot _ bp xu2 0 xu1 4 _ (by omega) (by omega) (by omega) (by omega) (by omega) (by omega) (M.nth 2 Z) hsu2) ?_
 clear T;rintro e wc ⟨xu3,yu3,su3,hxu3,hsu3,rfl,hgr,hbk⟩ ac T
 replace M:=M.callC (cs':=[.int .u64 su3]) (.tail (.tail .head)) hgr hbk
 clear hgr hbk
 refine lq (v:=(.pointer (some ⟨g2,1,none⟩))) T (Zrg 1 Z (T.e 6 Z)) ?_;intro ac T
 refine Zl2 ?_
 refine Zot M T Z Z (T.e 0 Z) (T.e 1 Z) Z .head Z Z ?_;clear M T;intro wc ac M T
 replace T:=T.pick [6,7,8,9,10,11] rfl
 refine Zln ?_
 refine Zsr ?_
 refine lq T (Zra Z evc) ?_;intro ac T
 refine Zln ?_
 refine wp_seq ?_
 refine Zsr ?_
 refine Zg2 T (Zq (Zrm Z (T.e 4 Z))) Z (Zm 6 Z Z) Z ?_;intro ac T
 refine Zl2 ?_
 refine Zod T Z Z Z Z evf (.cons (T.e 1 Z) (.cons (T.e 0 Z) .nil)) Try.func19 Z Z ?_
 refine Calls.mono (upto_any _ bp cm _ (by omega) (by omega) (M.nth 2 Z) hsu3) ?_
 clear T;rintro e wc ⟨xu4,su4,hxu4,hsu4,rfl,hgr,hbk⟩ ac T
 replace M:=M.callC (cs':=[.int .u64 su4]) (.tail (.tail .head)) hgr hbk
 clear hgr hbk
 refine lq T (Zra Z (T.e 0 Z)) ?_;intro ac T
 replace T:=T.pick [0,4,5,6,7,8,10] rfl
 refine Zln ?_
 refine wp_block ?_
 refine wp_loop_n (fun mz ac wc=>∃ (i:Int) (ol:List (Int×Int)) (al:List Int) (A3:Option Addr) (c3:Nat) (A4:Option Addr) (c4:Nat) (s:Int) (Ia Io:List (Nat×BA)),mz=i.toNat∧(0≤i)∧((ol.length:Int)+i≤cm)∧(ol.length=al.length)∧(CsTrue ol al)∧(u64ok s)∧(Sl 23 2 (.slice A3 ol.length c3) ol.length (rc ol) Io)∧(Sl 3 1 (.slice A4 al.length c4) al.length (ic al) Ia)∧Tm ac 72 [(0,Zj bp),(2,Zi tm),(6,Zj g1),(9,Zj g2),(10,Zi xu2),(11,.slice A4 al.length c4),(12,Zi i)]∧Mem w (fun b=>b=bp) wc ((g2,.cells [Zi xu1,Zi xu3,Zi yu3,.slice A3 ol.length c3,.slice none 0 0])::(g1,.cells [Zi 0,Zi 0,Zi 0,.slice none 0 0,.slice none 0 0])::(bp,.cells [.int .u64 s])::(Ia++Io))) ?_ ?_
 ·exact ⟨_,xu4,[],[],none,0,none,0,_,[],[],Z,(by omega),(by simp only [Zx2];omega),Z,trivial,hsu4,(Sl.nil _ _),(Sl.nil _ _),T.pick [5,6,4,3,2,1,0] Z,M.mask [true,true,true] Z⟩
 clear T M
 rintro mz ac wc ⟨i,ol,al,A3,c3,A4,c4,s,Ia,Io,hmm1,hi,hol,hal,hT,hs,hsl,hsa,T,M⟩
 refine wp_seq ?_
 refine Zsr ?_
 refine Zg2 T (Zq (Zrm Z (T.e 6 Z))) Z (fun _ T=>Zq (rn_gtr Z (T.e 0 Z) evc)) Z ?_;intro ac T
 replace T:=T.pick [0,2,3,4,5,6,7,8] rfl
 refine Zln ?_
 refine wp_if (T.e 0 Z) ?_ ?_
 ·intro h1
  refine Zsk ?_
  refine wp_seq ?_
  refine wp_block ?_
  refine Zsr ?_
  refine lq T (Zrm Z (T.e 1 Z)) ?_;intro ac T
  refine Zl2 ?_
  refine Zod T Z Z Z Z evf (.cons (T.e 0 Z) (.cons evc .nil)) Try.func19 Z Z ?_
  refine Calls.mono (upto_any _ bp 3 _ (by omega) (by omega) (M.nth 2 Z) hs) ?_
  clear T;rintro e wc ⟨xu5,su5,hxu5,hsu5,rfl,hgr,hbk⟩ ac T
  replace M:=M.callC (cs':=[.int .u64 su5]) (.tail (.tail .head)) hgr hbk
  clear hgr hbk
  refine lq T (Zra Z (T.e 0 Z)) ?_;intro ac T
  replace T:=T.pick [0,4,5,6,7,8,9,10] rfl
  refine Zln ?_
  refine Zsr ?_
  refine Zg2 T (Zq (Zrm Z (T.e 6 Z))) Z (Zm 1 Z Z) Z ?_;intro ac T
  refine Zl2 ?_
  refine ow_bs (e:=3) [Zi xu5] M T Z Z Z Z (.cons (T.e 0 Z) .nil) (fun _=>by kernel_rfl) ?_;clear M T;intro g3 wc ac M T
  refine Zl2 ?_
  replace M:Mem w (fun b=>b=bp) wc ((g3,.cells [Zi xu5])::(g2,.cells [Zi xu1,Zi xu3,Zi yu3,.slice A3 ol.length c3,.slice none 0 0])::(g1,.cells [Zi 0,Zi 0,Zi 0,.slice none 0 0,.slice none 0 0])::(bp,.cells [.int .u64 su5])::(Io++Ia)):=M.tail3 (K:=[(g3,.cells [Zi xu5]),(g2,.cells [Zi xu1,Zi xu3,Zi yu3,.slice A3 ol.length c3,.slice none 0 0]),(g1,.cells [Zi 0,Zi 0,Zi 0,.slice none 0 0,.slice none 0 0]),(bp,.cells [.int .u64 su5])]) (A:=[])
  refine ow_app (((g3,.cells [Zi xu5])::(g2,.cells [Zi xu1,Zi xu3,Zi yu3,.slice A3 ol.length c3,.slice none 0 0])::(g1,.cells [Zi 0,Zi 0,Zi 0,.slice none 0 0,.slice none 0 0])::(bp,.cells [.int .u64 su5])::Io)) Try.info3 hsa M (by first | rfl | simp) T Z Z Z Z Try.underlying28 Z Z Z (by omega) (T.e 2 Z) (T.e 0 Z) (Zne (i:=0) Z) Z Z ?_;clear M T;intro ga1 cga1 wc ac M T
  refine l_q (v:=(.slice (some ⟨ga1,0,none⟩) (al.length+1) cga1)) (T.pick [0,1,2,3,4,5,6,7,8,9,11] Z) Z Z Z Z (Zra Z (T.e 0 Z)) ?_;intro ac T
  refine wpList_nil ?_
  replace T:=T.pick [0,5,6,7,8,9,10,11] rfl
  replace M:=M.mask [true,false,true,true,true] rfl
  refine nm_then ?_
  refine Zgs M (M.perm [0,2] Z Z) 9 (by kernel_rfl) Z (by kernel_rfl) ?_
  clear M;intro wc M
  refine g_addG 4 (M.perm [0,1,2,3] Z Z) ?_
  refine g_addG 8 (M.perm [0,1,2] Z Z) ?_
  refine Zgq (v:=(.pointer (some ⟨g2,3,none⟩))) T 0 1 Z (fun _=>(Zrg 3 Z (T.e 5 Z))) ?_;intro ac T
  refine gq T 1 3 Z (fun B w' hD hl hS=>(Zro (Mem.nth (show Mem w (fun b=>b=bp) w' _ from ((MA.lft hS) (hD.wait (i:=1) (m:=8) (by kernel_rfl) hl))) 1 Z) Z (T.e 0 Z) Z)) ?_;intro ac T
  refine Zgq T 2 7 Z (fun _=>(Zrm Z (T.e 4 Z))) ?_;intro ac T
  refine Zgq T 3 15 Z (fun _=>(Zrm Z (T.e 4 Z))) ?_;intro ac T
  refine gw 4 31 ?_;intro K hK
  refine Zod T Z Z Z Z evf (.cons (T.e 1 Z) (.cons (T.e 0 Z) (.cons evc (.cons evc (.cons evc .nil))))) Try.func73 Z Z ?_
  refine Calls.mono (near_pot _ bp xu5 0 5 2 _ (by omega) (by omega) (by omega) (by omega) (by omega) (by omega) (M.nth 3 Z) hsu5) ?_
  clear T;rintro e wc ⟨xu6,yu6,su6,hxu6,hsu6,rfl,hgr,hbk⟩ ac T
  replace M:=M.callC (cs':=[.int .u64 su6]) (.tail (.tail (.tail .head))) hgr hbk
  clear hgr hbk
  refine Zso hK _ _ (MA.mk (fun _=>M.perm [0,1,2] Z Z) (MA.mk (fun h=>(no_of (by kernel_rfl) h).elim) (M.perm [0,2] Z Z))) ?_;clear hK K
  refine gw 5 63 ?_;intro K hK
  refine ow_bs (e:=23) [Zi xu6,Zi yu6] M T Z Z Z Z (.cons (T.e 0 Z) .nil) (fun _=>by kernel_rfl) ?_;clear M T;intro g4 wc ac M T
  refine Zso hK _ _ (MA.mk (fun _=>M.perm [1,2,3] Z Z) (MA.mk (fun h=>(no_of (by kernel_rfl) h).elim) (M.perm [1,3] Z Z))) ?_;clear hK K
  refine gw 6 127 ?_;intro K hK
  refine ow_app ([(g4,.cells [Zi xu6,Zi yu6]),(ga1,.row 3 1 (al.length+1) ((ic al)++[Zi xu5]) cga1),(g2,.cells [Zi xu1,Zi xu3,Zi yu3,.slice A3 ol.length c3,.slice none 0 0]),(g1,.cells [Zi 0,Zi 0,Zi 0,.slice none 0 0,.slice none 0 0]),(bp,.cells [.int .u64 su6])]) Try.info23 hsl M (by first | rfl | simp) T Z Z Z Z Try.underlying24 Z Z Z (by omega) (T.e 4 Z) (T.e 0 Z) (Zne (i:=0) Z) Z Z ?_;clear M T;intro ga2 cga2 wc ac M T
  refine Zso hK _ _ (MA.mk (fun _=>M.mask [false,false,true,true,true,false] Z) (MA.mk (fun h=>(no_of (by kernel_rfl) h).elim) (M.mask [false,false,true,false,true,false] Z))) ?_;clear hK K
  refine Zgq (v:=(.pointer (some ⟨g2,3,none⟩))) T 7 255 Z (fun _=>(Zrg 3 Z (T.e 12 Z))) ?_;intro ac T
  refine gw 8 511 ?_;intro K hK
  refine Zos M T Z Z (T.e 0 Z) (T.e 1 Z) Z (.tail (.tail (.tail .head))) Z (by simp) Z (by kernel_rfl) ?_;clear M T;intro wc ac M T
  refine Zso hK _ _ (MA.mk (fun h=>(no_of (by kernel_rfl) h).elim) (MA.mk (fun h=>(no_of (by kernel_rfl) h).elim) (M.mask [false,false,true,false,true,false] Z))) ?_;clear hK K
  refine Zgd (by kernel_rfl) ?_
  replace T:=T.pick [8,10,11,12,13,14,15] rfl
  replace M:=M.mask [true,false,true,true,true,true] rfl
  refine Znb ?_
  refine nm_then ?_
  refine wp_region_lit ?_
  refine Zg2 T (Zq (Zrm Z (T.e 6 Z))) Z (fun _ T=>Zq (rn_sub Z (T.e 0 Z) evc (by omega))) Z ?_;intro ac T
  refine l_q (v:=(Zi (i - 1))) (T.pick [0,1,2,3,4,5,6,7] Z) Z Z Z Z (Zra Z (T.e 0 Z)) ?_;intro ac T
  replace T:=T.pick [0,3,4,5,6,7,8] rfl
  refine Zln ?_
  have e9:al.length+1=(al++[xu5]).length:=by simp
  have e8:((ic al)++[Zi xu5])=ic (al++[xu5]):=by rw [← ic_snoc]
  rw [e9,e8] at M
  rw [e9] at T
  clear e9 e8
  have e9:ol.length+1=(ol++[(xu6,yu6)]).length:=by simp
  have e8:((rc ol)++[Zi xu6,Zi yu6])=rc (ol++[(xu6,yu6)]):=by rw [← rc_snoc]
  rw [e9,e8] at M
  skip
  clear e9 e8
  exact ⟨_,by omega,(i - 1),(ol++[(xu6,yu6)]),(al++[xu5]),_,_,_,_,su6,[(ga1,.row 3 1 (al++[xu5]).length (ic (al++[xu5])) cga1)],[(ga2,.row 23 2 (ol++[(xu6,yu6)]).length (rc (ol++[(xu6,yu6)])) cga2)],Z,(by omega),(by simp only [Zx3,Zx1,Zx2];omega),(by simp [hal]),(hT.snoc (by dsimp only;omega)),hsu6,(Sl.row _ _ _ _ _ _),(Sl.row _ _ _ _ _ _),T.pick [2,3,4,5,6,1,0] Z,M.perm [2,3,4,1,0] Z Z⟩
 intro h1
 refine wp_exit ?_
 refine Zet ?_
 refine Zet ?_
 refine ex_hit ?_
 refine Zns ?_
 refine Zsr ?_
 refine Zg2 T (Zq (Zrm Z (T.e 1 Z))) Z (Zm 3 Z Z) Z ?_;intro ac T
 refine Zl2 ?_
 refine Zod T Z Z Z Z evf (.cons (T.e 1 Z) (.cons (T.e 0 Z) .nil)) Try.func19 Z Z ?_
 refine Calls.mono (upto_any _ bp tm _ (by omega) (by omega) (M.nth 2 Z) hs) ?_
 clear T;rintro e wc ⟨xu7,su7,hxu7,hsu7,rfl,hgr,hbk⟩ ac T
 replace M:=M.callC (cs':=[.int .u64 su7]) (.tail (.tail .head)) hgr hbk
 clear hgr hbk
 refine lq T (Zra Z (T.e 0 Z)) ?_;intro ac T
 replace T:=T.pick [0,5,7,8,9,10] rfl
 refine Zln ?_
 refine wp_block ?_
 have hl4:al.length≤4:=by omega
 obtain ⟨bC,oC,hSC⟩:=hsl.spV (rc_length _)
 obtain ⟨bL,oL,hSL⟩:=hsa.spV (by simp [ic_length])
 have hbx:∀ o9,A4=some ⟨bp,o9,none⟩→False:=fun o9 h9=>by
   rcases hsa with ⟨q1,-,-,-⟩ | ⟨g8,c8,q1,q2⟩
   · injection q1 with q1;rw [h9] at q1;cases q1
   · injection q1 with q1;rw [h9] at q1;injection q1 with q1;injection q1 with q1 _ _;subst q1;have h7:=(M.nodup_at (L:=[(g2,.cells [Zi xu1,Zi xu3,Zi yu3,.slice A3 ol.length c3,.slice none 0 0]),(g1,.cells [Zi 0,Zi 0,Zi 0,.slice none 0 0,.slice none 0 0]),(bp,.cells [.int .u64 su7])]) (g:=bp) (I:=Ia) (L9:=Io) rfl (by simp));exact h7 (by rw [q2];simp)
 obtain ⟨IT,hIT⟩:∃ q,q=Ia++Io:=⟨_,rfl⟩
 rw [← hIT] at M
 have hSC2:∀ (w:World) (ex:Nat→Prop),Sp w ex IT A3 ol.length 2 bC oC (rc ol):=fun w ex=>(hSC w ex).mono (by rw [hIT];exact Zsq _ _)
 have hSL2:∀ (w:World) (ex:Nat→Prop),Sp w ex IT A4 al.length 1 bL oL (ic al):=fun w ex=>(hSL w ex).mono (by rw [hIT];exact Zsl _ _)
 refine wp_loop_n (fun mz ac wc=>∃ (j9:Int) (tl:List Lk) (A5:Option Addr) (c5:Nat) (s:Int) (IT2 It:List (Nat×BA)),mz=j9.toNat∧(0≤j9)∧((tl.length:Int)+j9≤tm)∧(∀ t∈tl,LkTrue al t)∧(∀ t∈tl,∃ b o,∀ (w:World) (ex:Nat→Prop),Sp w ex IT2 t.A t.op.length 1 b o (ic t.op))∧(∀ (w:World) (ex:Nat→Prop),Sp w ex IT2 A3 ol.length 2 bC oC (rc ol))∧(∀ (w:World) (ex:Nat→Prop),Sp w ex IT2 A4 al.length 1 bL oL (ic al))∧(u64ok s)∧(Sl 75 4 (.slice A5 tl.length c5) tl.length (lkc tl) It)∧Tm ac 72 [(0,Zj bp),(6,Zj g1),(9,Zj g2),(10,Zi xu2),(11,.slice A4 al.length c4),(14,Zi j9)]∧Mem w (fun b=>b=bp) wc ((g2,.cells [Zi xu1,Zi xu3,Zi yu3,.slice A3 ol.length c3,.slice A5 tl.length c5])::(g1,.cells [Zi 0,Zi 0,Zi 0,.slice none 0 0,.slice none 0 0])::(bp,.cells [.int .u64 s])::(IT2++It))) ?_ ?_
 ·exact ⟨_,xu7,[],none,0,_,IT,[],Z,(by omega),(by simp only [Zx2];omega),(fun t h=>by cases h),(fun t h=>by cases h),hSC2,hSL2,hsu7,(Sl.nil _ _),T.pick [1,2,3,4,5,0] Z,(by simp only [Zx4];exact M)⟩
 clear T M
 rintro mz ac wc ⟨j9,tl,A5,c5,s,IT2,It,hmm2,hi,htl,hTk,hop,hSCx,hSLx,hs,hst,T,M⟩
 have SL9:=hSLx w (fun b=>b=bp)
 refine wp_seq ?_
 refine cut_seq (fun ac wc=>Tm ac 72 [(0,Zj bp),(6,Zj g1),(9,Zj g2),(10,Zi xu2),(11,.slice A4 al.length c4),(14,Zi j9),(58,.bool ((decide (0 < j9)) && (decide (0 < ((al.length:Nat):Int)))))]∧Mem w (fun b=>b=bp) wc ((g2,.cells [Zi xu1,Zi xu3,Zi yu3,.slice A3 ol.length c3,.slice A5 tl.length c5])::(g1,.cells [Zi 0,Zi 0,Zi 0,.slice none 0 0,.slice none 0 0])::(bp,.cells [.int .u64 s])::(IT2++It))) ?_ ?_
 ·refine wp_region_lit ?_
  refine Zg3 T (Zq (Zrm Z (T.e 5 Z))) Z (fun _ T=>Zq (rn_gtr Z (T.e 0 Z) evc)) Z (Zm 0 Z Z) Z ?_;intro ac T
  rcases Zx9 (decide (0 < j9)) with h2 | h2
  ·replace h2:=of_decide_eq_true h2
   refine Zg4 T (Zw (Zwy Z Z (T.e 0 Z) (Zdt h2)) (Zrm Z (T.e 7 Z))) Z (fun _ T=>Zw (Zwy Z Z (T.e 1 Z) (Zdt h2)) (Zrl Z Try.underlying28 (T.e 0 Z))) Z (fun _ T=>Zw (Zwy Z Z (T.e 2 Z) (Zdt h2)) (rn_gtr Z (T.e 0 Z) evc)) Z (fun _ T=>Zq (Zr1 Z (T.e 3 Z) (Zdt h2) (T.e 0 Z))) Z ?_;intro ac T
   refine wpList_nil ?_
   replace T:=T.pick [0,1,2,3,7,8,9,10,11,12] rfl
   exact ⟨(T.pick (E':=[(0,Zj bp),(6,Zj g1),(9,Zj g2),(10,Zi xu2),(11,.slice A4 al.length c4),(14,Zi j9),(58,.bool (decide (0 < ((al.length:Nat):Int))))]) [4,5,6,7,8,9,0] Z).as (by (try rw [show (decide (0 < j9))=true from (Zdt h2)]);(try rfl)),M.mask [true,true,true] Z⟩
  replace h2:=of_decide_eq_false h2
  refine Zg4 T (Zp (Zwn Z Z (T.e 0 Z) (Zdf h2))) Z (fun _ T=>Zp (Zwn Z Z (T.e 1 Z) (Zdf h2))) Z (fun _ T=>Zp (Zwn Z Z (T.e 2 Z) (Zdf h2))) Z (fun _ T=>Zq (Zr0 Z (T.e 3 Z) (Zdf h2) evc)) Z ?_;intro ac T
  refine wpList_nil ?_
  replace T:=T.pick [0,1,2,3,7,8,9,10,11,12] rfl
  exact ⟨(T.pick (E':=[(0,Zj bp),(6,Zj g1),(9,Zj g2),(10,Zi xu2),(11,.slice A4 al.length c4),(14,Zi j9),(58,.bool false)]) [4,5,6,7,8,9,0] Z).as (by (try rw [show (decide (0 < j9))=false from (Zdf h2)]);(try rfl)),M.mask [true,true,true] Z⟩
 clear T M
 rintro ac wc ⟨T,M⟩
 refine wp_cond_split (T.e 6 Z) ?_ ?_
 ·intro h3
  (have h3':=h3;try simp only [Zb1,Zb2,Zb3,Zb4,Zb5,Zb6,Zb7] at h3')
  refine Zsk ?_
  refine wp_seq ?_
  refine wp_block ?_
  refine Zgs M (M.perm [1] Z Z) 9 (by kernel_rfl) Z (by kernel_rfl) ?_
  clear M;intro wc M
  refine g_addG 4 (M.perm [0,1,2] Z Z) ?_
  refine g_addG 8 (M.perm [0,1] Z Z) ?_
  refine Zgq (v:=(.pointer (some ⟨g2,4,none⟩))) T 0 1 Z (fun _=>(Zrg 4 Z (T.e 2 Z))) ?_;intro ac T
  refine gq T 1 3 Z (fun B w' hD hl hS=>(Zro (Mem.nth (show Mem w (fun b=>b=bp) w' _ from ((MA.lft hS) (hD.wait (i:=1) (m:=8) (by kernel_rfl) hl))) 0 Z) Z (T.e 0 Z) Z)) ?_;intro ac T
  refine Zgq T 2 7 Z (fun _=>(Zrm Z (T.e 2 Z))) ?_;intro ac T
  refine Zgq T 3 15 Z (fun _=>(Zrm Z (T.e 7 Z))) ?_;intro ac T
  refine gw 4 31 ?_;intro K hK
  refine Zod T Z Z Z Z evf (.cons (T.e 1 Z) (.cons (T.e 0 Z) .nil)) Try.func47 Z Z ?_
  refine Calls.mono (leakageOf_any _ bp A4 c4 al _ (SL9.rd M (.cons _ (.cons _ (.cons _ (subL (List.Sublist.refl _)))))) (fun b9 o9 h9 h8=>by subst h8;exact (hbx o9 h9).elim) (by omega) (by omega) hT.le3 (M.nth 2 Z) hs) ?_
  clear T;rintro e wc ⟨tu8,su8,Iu8,rfl,htu8,hsu8,⟨bu8,ou8,hStu8⟩,N⟩ ac T
  replace M:=(M.joinW2 (.tail (.tail .head)) N).swapI
  clear N
  replace M:Mem w (fun b=>b=bp) wc ((g2,.cells [Zi xu1,Zi xu3,Zi yu3,.slice A3 ol.length c3,.slice A5 tl.length c5])::(g1,.cells [Zi 0,Zi 0,Zi 0,.slice none 0 0,.slice none 0 0])::(bp,.cells [.int .u64 su8])::(IT2++It++Iu8)):=M
  refine Zso hK _ _ (MA.mk (fun _=>M.perm [0,1] Z Z) (MA.mk (fun h=>(no_of (by kernel_rfl) h).elim) (M.perm [1] Z Z))) ?_;clear hK K
  refine gw 5 63 ?_;intro K hK
  refine ow_bs (e:=75) [.slice tu8.A tu8.op.length tu8.c,Zi tu8.sec,Zi tu8.lo,Zi tu8.hi] M T Z Z Z Z (.cons (T.e 0 Z) .nil) (fun _=>by kernel_rfl) ?_;clear M T;intro g5 wc ac M T
  refine Zso hK _ _ (MA.mk (fun _=>M.perm [1,2] Z Z) (MA.mk (fun h=>(no_of (by kernel_rfl) h).elim) (M.perm [2] Z Z))) ?_;clear hK K
  refine gw 6 127 ?_;intro K hK
  replace M:Mem w (fun b=>b=bp) wc ((g5,.cells [.slice tu8.A tu8.op.length tu8.c,Zi tu8.sec,Zi tu8.lo,Zi tu8.hi])::(g2,.cells [Zi xu1,Zi xu3,Zi yu3,.slice A3 ol.length c3,.slice A5 tl.length c5])::(g1,.cells [Zi 0,Zi 0,Zi 0,.slice none 0 0,.slice none 0 0])::(bp,.cells [.int .u64 su8])::(IT2++Iu8++It)):=M.tail3 (K:=[(g5,.cells [.slice tu8.A tu8.op.length tu8.c,Zi tu8.sec,Zi tu8.lo,Zi tu8.hi]),(g2,.cells [Zi xu1,Zi xu3,Zi yu3,.slice A3 ol.length c3,.slice A5 tl.length c5]),(g1,.cells [Zi 0,Zi 0,Zi 0,.slice none 0 0,.slice none 0 0]),(bp,.cells [.int .u64 su8])]) (A:=IT2)
  refine ow_app (((g5,.cells [.slice tu8.A tu8.op.length tu8.c,Zi tu8.sec,Zi tu8.lo,Zi tu8.hi])::(g2,.cells [Zi xu1,Zi xu3,Zi yu3,.slice A3 ol.length c3,.slice A5 tl.length c5])::(g1,.cells [Zi 0,Zi 0,Zi 0,.slice none 0 0,.slice none 0 0])::(bp,.cells [.int .u64 su8])::(IT2++Iu8))) Try.info75 hst M (by first | rfl | simp) T Z Z Z Z Try.underlying25 Z Z Z (by omega) (T.e 4 Z) (T.e 0 Z) (Zne (i:=0) Z) Z Z ?_;clear M T;intro ga3 cga3 wc ac M T
  refine Zso hK _ _ (MA.mk (fun _=>M.perm [2,3] Z Z) (MA.mk (fun h=>(no_of (by kernel_rfl) h).elim) (M.perm [3] Z Z))) ?_;clear hK K
  refine Zgq (v:=(.pointer (some ⟨g2,4,none⟩))) T 7 255 Z (fun _=>(Zrg 4 Z (T.e 9 Z))) ?_;intro ac T
  refine gw 8 511 ?_;intro K hK
  refine Zot M T Z Z (T.e 0 Z) (T.e 1 Z) Z (.tail (.tail .head)) Z Z ?_;clear M T;intro wc ac M T
  refine Zso hK _ _ (MA.mk (fun h=>(no_of (by kernel_rfl) h).elim) (MA.mk (fun h=>(no_of (by kernel_rfl) h).elim) (M.perm [3] Z Z))) ?_;clear hK K
  refine Zgd (by kernel_rfl) ?_
  replace T:=T.pick [8,9,10,11,12,13] rfl
  replace M:=M.mask [true,false,true,true,true] rfl
  refine Znb ?_
  refine nm_then ?_
  refine wp_region_lit ?_
  refine Zg2 T (Zq (Zrm Z (T.e 5 Z))) Z (fun _ T=>Zq (rn_sub Z (T.e 0 Z) evc (by omega))) Z ?_;intro ac T
  refine l_q (v:=(Zi (j9 - 1))) (T.pick [0,1,2,3,4,5,6] Z) Z Z Z Z (Zra Z (T.e 0 Z)) ?_;intro ac T
  replace T:=T.pick [0,3,4,5,6,7] rfl
  refine Zln ?_
  have e9:tl.length+1=(tl++[tu8]).length:=by simp
  have e8:((lkc tl)++[.slice tu8.A tu8.op.length tu8.c,Zi tu8.sec,Zi tu8.lo,Zi tu8.hi])=lkc (tl++[tu8]):=by rw [← lkc_snoc]
  rw [e9,e8] at M
  clear e9 e8
  obtain ⟨IT3,hI3⟩:∃ q,q=IT2++Iu8:=⟨_,rfl⟩
  rw [← hI3] at M
  exact ⟨_,by omega,(j9 - 1),(tl++[tu8]),_,_,su8,IT3,[(ga3,.row 75 4 (tl++[tu8]).length (lkc (tl++[tu8])) cga3)],rfl,(by omega),(by simp only [Zx3,Zx1,Zx2];omega),(fun t h=>by rcases List.mem_append.1 h with h | h;exact hTk t h;rw [List.mem_singleton.1 h];exact htu8),(fun t h=>by rcases List.mem_append.1 h with h | h;obtain ⟨b9,o9,h9⟩:=hop t h;exact ⟨b9,o9,fun w ex=>(h9 w ex).mono (by rw [hI3];exact Zsl _ _)⟩;rw [List.mem_singleton.1 h];exact ⟨_,_,fun w ex=>(hStu8 w ex).mono (by rw [hI3];exact Zsq _ _)⟩),(fun w ex=>(hSCx w ex).mono (by rw [hI3];exact Zsl _ _)),(fun w ex=>(hSLx w ex).mono (by rw [hI3];exact Zsl _ _)),hsu8,(Sl.row _ _ _ _ _ _),T.pick [1,2,3,4,5,0] rfl,(Mem.swapI (I:=[(ga3,.row 75 4 (tl++[tu8]).length (lkc (tl++[tu8])) cga3)]) (L:=((g2,.cells [Zi xu1,Zi xu3,Zi yu3,.slice A3 ol.length c3,.slice (some ⟨ga3,0,none⟩) ((tl++[tu8]).length) cga3])::(g1,.cells [Zi 0,Zi 0,Zi 0,.slice none 0 0,.slice none 0 0])::(bp,.cells [.int .u64 su8])::IT3)) (M.permT [0,1,2,3] 4 rfl rfl rfl rfl))⟩
 intro h3
 (have h3':=h3;try simp only [Zb1,Zb2,Zb3,Zb4,Zb5,Zb6,Zb7] at h3')
 refine wp_exit ?_
 refine Zet ?_
 refine Zet ?_
 refine ex_hit ?_
 refine nm_then ?_
 refine Zsr ?_
 refine Zg3 T (Zq (Zrr (Mem.nth M 0 Z) Z (T.e 2 Z) Z)) Z (Zm 5 Z Z) Z (Zm 5 Z Z) Z ?_;intro ac T
 refine Zl2 ?_
 refine Zot M T Z Z (T.e 4 Z) (T.e 2 Z) Z (.tail .head) Z Z ?_;clear M T;intro wc ac M T
 refine Zg2 T (Zq (Zra Z (T.e 1 Z))) Z (Za 1 Z Z) Z ?_;intro ac T
 refine wpList_nil ?_
 replace T:=T.pick [0,1,6] rfl
 replace M:=M.mask [false,true,true] rfl
 refine Znr ?_
 refine rt_ctt M T Z (T.e 2 Z) (T.e 1 Z) (T.e 0 Z) (Zne (i:=0) Z) Z ?_
 obtain ⟨b7,o7,h7⟩:=hst.spV (lkc_length _)
 refine ⟨⟨xu1,xu3,yu3,ol,tl⟩,al,xu2,A3,c3,A5,c5,A4,c4,_,IT2++It,Z,⟨by dsimp only;omega,by dsimp only;omega,hal,hT,hTk⟩,by omega,by dsimp only;omega,hs,⟨⟨_,_,fun w ex=>(hSCx w ex).mono (Zsl _ _)⟩,⟨_,_,fun w ex=>(h7 w ex).mono (Zsq _ _)⟩,fun t ht=>?_,by dsimp only;omega,by dsimp only;omega,fun t ht=>?_⟩,⟨_,_,fun w ex=>(hSLx w ex).mono (Zsl _ _)⟩,M.mask [false,true] Z⟩
 · obtain ⟨b9,o9,h9⟩:=hop t ht
   exact ⟨b9,o9,fun w ex=>(h9 w ex).mono (Zsl _ _)⟩
 · have:=(hTk t ht).asc.len
   omega
section
open Go.RowKit Go.Proofs.Ytoheddpnnjldgaa.Bq
end
def setAll:List Int→Nat→List Int→List Int
 | l,_,[]=>l
 | l,k,v::s=>setAll (l.set k v) (k+1) s
theorem setAll_lo:∀ (s l:List Int) (k j:Nat),j < k→(setAll l k s)[j]? = l[j]?
 | [],_,_,_,_=>rfl
 | v::s,l,k,j,h=>by
  unfold setAll
  rw [setAll_lo s _ _ _ (by omega),List.getElem?_set_ne (by omega)]
theorem setAll_get:∀ (s l:List Int) (k j:Nat),j < s.length→k+s.length≤l.length→(setAll l k s)[k+j]? = s[j]?
 | [],_,_,_,h,_=>by simp at h
 | v::s,l,k,0,_,hl=>by
  unfold setAll
  simp only [Zx1] at hl
  rw [setAll_lo s _ _ _ (by omega),Zx0,List.getElem?_set_self (by omega)]
  rfl
 | v::s,l,k,j+1,h,hl=>by
  unfold setAll
  simp only [Zx1] at h hl
  have:=setAll_get s (l.set k v) (k+1) j (by omega) (by rw [List.length_set];omega)
  rw [show k+(j+1)=k+1+j by omega,this]
  rfl
theorem trs_mem {ts:List Lk}:∀ {r:List (Int×Int)} {s:List Int} (k:Nat) (l:List Int),CsTrue r s→(∀ t∈ts,okT (setAll l k s) t=true)→setAll l k s∈trs ts r k l
 | [],[],k,l,_,h=>by
  have h9:ts.all (okT l)=true:=List.all_eq_true.2 fun t ht=>h t ht
  unfold trs setAll
  rw [if_pos h9]
  exact List.mem_singleton_self _
 | x::r,v::s,k,l,hc,h=>by
  unfold trs
  refine List.mem_flatMap.2 ⟨v,upI_mem.2 ⟨hc.1.1.2,hc.1.2.1.1⟩,?_⟩
  exact trs_mem (k+1) (l.set k v) hc.2 h
 | [],_::_,_,_,h,_=>h.elim
 | _::_,[],_,_,h,_=>h.elim
theorem totL_pad {g op:List Int} (hg:g.length≤4) (ha:∀ c∈op,0≤c∧c < (g.length:Int)):totL (setAll [0,0,0,0] 0 g) op=totL g op:=by
 unfold totL
 congr 1
 refine List.map_congr_left fun c hc=>?_
 have:=ha c hc
 have h1:=setAll_get g [0,0,0,0] 0 c.toNat (by omega) (by simp;omega)
 rw [Zxa] at h1
 rw [List.getD_eq_getElem?_getD,List.getD_eq_getElem?_getD,h1]
theorem chkR_zero {x y h:Int} (h0:0≤x) (h1:x≤y) (h2:y≤h):chkR x y 0 h=0:=by
 unfold chkR
 rw [withinB_iff.2 (by omega),withinB_iff.2 (by omega)]
 simp
 omega
theorem LkTrue.tst {g:List Int} {t:Lk} (h:LkTrue g t):tstE g.length t=0:=by
 unfold tstE
 have h1:opE g.length t.op none=0:=h.asc.opE fun q c hq=>by cases hq
 have hl:=h.lost
 rw [if_neg h.ne,h1,if_neg (by simp),withinB_iff.2 h.sec,if_neg (by simp)]
 exact chkR_zero hl.1 (by omega) hl.2.2.2
theorem BwTrue.chk {b:Bw} {g:List Int} {air:Int} (h:BwTrue b g air) (h4:g.length≤4) (h3:b.ts.length≤3):chkB b=0:=by
 have hf:=h.full
 have ha:=h.air
 have hr:∀ {r:List (Int×Int)} {s:List Int},CsTrue r s→rngsE 5 r=0:=fun {r}=>by
  induction r with
  | nil=>intro s _;rfl
  | cons x r ih =>
   intro s hc
   cases s with
   | nil=>exact hc.elim
   | cons v s =>
    have hx:=hc.1
    unfold rngsE
    rw [if_pos (chkR_zero (by omega) (by omega) (by omega))]
    exact ih hc.2
 have ht:∀ (l:List Lk),(∀ t∈l,LkTrue g t)→tstsE b.cs.length l=0:=fun l=>by
  induction l with
  | nil=>intro _;rfl
  | cons t l ih =>
   intro hl
   unfold tstsE
   rw [h.len,if_pos (hl t Zz2).tst,← h.len]
   exact ih fun t ht=>hl t (Zz1 ht)
 unfold chkB
 rw [withinB_iff.2 (by omega),if_neg (by simp),chkR_zero (by omega) (by omega) (by omega),if_neg (by simp),if_neg (by rw [h.len];omega),hr h.cs,if_neg (by simp),if_neg (by omega)]
 exact ht b.ts h.ts
theorem BwTrue.truth {b:Bw} {g:List Int} {air:Int} (h:BwTrue b g air) (h4:g.length≤4):setAll [0,0,0,0] 0 g∈truthsB b:=by
 refine trs_mem 0 _ h.cs fun t ht=>?_
 have hk:=h.ts t ht
 have hl:=hk.lost
 unfold okT
 rw [totL_pad h4 hk.asc.1,Int.mul_comm]
 simp
 omega
theorem firstE_zero:∀ {el:List Int},(∀ e∈el,e=0)→firstE el=0
 | [],_=>rfl
 | e::el,h=>by
  unfold firstE
  rw [if_pos (h e Zz2)]
  exact firstE_zero fun x hx=>h x (Zz1 hx)
theorem BwTrue.known {b:Bw} {g:List Int} {air:Int} (h:BwTrue b g air) (h4:g.length≤4) (h3:b.ts.length≤3) {el:List Int} (he:∀ e∈el,e=0):knownE b el=0:=by
 unfold knownE
 rw [h.chk h4 h3,if_neg (by simp),firstE_zero he,if_neg (by simp),if_neg]
 have:=List.length_pos_of_mem (h.truth h4)
 omega
def stepsOk (p:List Nt):List Int→List Int→Prop
 | _,[]=>True
 | b,w::r=>(w=1∨w=2)∧stepW p b w=true∧stepsOk p (b++[w]) r
theorem wayK_mem {p:List Nt} {many:Int} {g:List Int}:∀ (k:Nat) (b:List Int),g∈wayK p many k b↔∃ r,g=b++r∧r.length=k∧stepsOk p b r∧turnW g=many
 | 0,b=>by
  unfold wayK
  split
  ·rename_i h
   rw [List.mem_singleton]
   constructor
   ·rintro rfl;exact ⟨[],by simp,rfl,trivial,h⟩
   ·rintro ⟨r,rfl,hr,-⟩;rw [List.eq_nil_of_length_eq_zero hr];simp
  ·rename_i h
   constructor
   ·intro h;cases h
   ·rintro ⟨r,rfl,hr,-,h2⟩;rw [List.eq_nil_of_length_eq_zero hr] at h2;exact absurd (by simpa using h2) h
 | k+1,b=>by
  unfold wayK
  rw [List.mem_flatMap]
  constructor
  ·rintro ⟨j,hj,h⟩
   have hj:=List.mem_range.1 hj
   split at h
   ·rename_i hs
    obtain ⟨r,rfl,hr,h2,h3⟩:=(wayK_mem k _).1 h
    exact ⟨((j:Int)+1)::r,by simp,by simp [hr],⟨by omega,hs,h2⟩,h3⟩
   ·cases h
  ·rintro ⟨r,rfl,hr,h2,h3⟩
   cases r with
   | nil=>simp at hr
   | cons w r =>
    obtain ⟨hw,hs,h4⟩:=h2
    have e:(((w - 1).toNat:Nat):Int)+1=w:=by omega
    refine ⟨(w - 1).toNat,List.mem_range.2 (by omega),?_⟩
    rw [e,if_pos hs]
    exact (wayK_mem k _).2 ⟨r,by simp,by simpa using hr,h4,h3⟩
theorem turnW_lt:∀ (l:List Int),0≤turnW l∧turnW l < (max l.length 1:Nat)
 | []=>by simp [turnW]
 | [x]=>by simp [turnW]
 | x::y::r=>by
  have:=turnW_lt (y::r)
  simp only [Zx1] at this ⊢
  unfold turnW
  split <;> omega
structure WayOk (p:List Nt) (g:List Int):Prop where
 len:g.length=p.length
 ok:stepsOk p [] g
theorem u64_in {n:Int} (h:u64ok n):IntKind.u64.wrap n=n:=by
 unfold IntKind.wrap u64ok at *
 simp [IntKind.bits,IntKind.signed]
 omega
theorem u64_nat {m:Nat} (h:m < 2 ^ 64):IntKind.u64.wrap (m:Int)=m:=u64_in ⟨by omega,by omega⟩
theorem bv_nat {m:Nat} (h:m < 2 ^ 64):(BitVec.ofInt 64 (m:Int)).toNat=m:=by
 rw [BitVec.ofInt_natCast,BitVec.toNat_ofNat,Nat.mod_eq_of_lt h]
theorem u64_ex {x:Int} (h:u64ok x):∃ m:Nat,x=m∧m < 2 ^ 64:=⟨x.toNat,by unfold u64ok at h;omega,by unfold u64ok at h;omega⟩
theorem shl_one {r:Nat} (h:r < 64):ushlI 1 r=((2 ^ r:Nat):Int):=by
 unfold ushlI
 have e:(1:Int) * 2 ^ min ((r:Int).toNat) 64=((2 ^ r:Nat):Int):=by
  rw [Int.toNat_natCast,Nat.min_eq_left (by omega)]
  simp
 rw [e]
 exact u64_nat (Nat.pow_lt_pow_right (by omega) h)
theorem or_nat {m k:Nat} (h:m < 2 ^ 64) (hk:k < 2 ^ 64):uorI m k=((m ||| k:Nat):Int):=by
 unfold uorI
 rw [BitVec.toNat_or,bv_nat h,bv_nat hk]
 exact u64_nat (Nat.or_lt_two_pow h hk)
theorem bit_nat {m:Nat} (h:m < 2 ^ 64) {r:Nat} (hr:r < 64):(uandI (ushrI m r) 1=1)↔m.testBit r=true:=by
 unfold uandI ushrI
 have e:(m:Int).fdiv (2 ^ min ((r:Int).toNat) 64)=((m >>> r:Nat):Int):=by
  rw [Int.toNat_natCast,Nat.min_eq_left (by omega),Nat.shiftRight_eq_div_pow,Int.fdiv_eq_ediv_of_nonneg _ (Int.le_of_lt (Int.pow_pos (by omega))),Int.natCast_ediv,Int.natCast_pow]
  rfl
 rw [e,BitVec.toNat_and,bv_nat (Nat.lt_of_le_of_lt (by rw [Nat.shiftRight_eq_div_pow];exact Nat.div_le_self _ _) h)]
 rw [show (BitVec.ofInt 64 1).toNat=1 from rfl,u64_nat (Nat.lt_of_le_of_lt Nat.and_le_right (by omega))]
 rw [Nat.testBit,Nat.and_comm]
 have h1:1 &&& m >>> r=0∨1 &&& m >>> r=1:=by rw [Nat.one_and_eq_mod_two];omega
 rcases h1 with h1 | h1 <;> simp [h1]
structure As where
 a:Int
 b:Int
 c:Int
 d:Int
def As.ok (s:As):Prop:=u64ok s.a∧u64ok s.b∧u64ok s.c∧u64ok s.d
def As.get (s:As):Nat→Int
 | 0=>s.a
 | 1=>s.b
 | 2=>s.c
 | _=>s.d
def As.put (s:As) (k:Nat) (v:Int):As:=match k with
 | 0=>⟨v,s.b,s.c,s.d⟩
 | 1=>⟨s.a,v,s.c,s.d⟩
 | 2=>⟨s.a,s.b,v,s.d⟩
 | _=>⟨s.a,s.b,s.c,v⟩
def As.add (s:As) (n:Int):As:=s.put (n.toNat / 64) (uorI (s.get (n.toNat / 64)) (ushlI 1 (Int.tmod n 64)))
def As.has (s:As) (n:Int):Bool:=decide (uandI (ushrI (s.get (n.toNat / 64)) (Int.tmod n 64)) 1=1)
theorem As.ok.get {s:As} (h:s.ok) (k:Nat):u64ok (s.get k):=by
 obtain ⟨h1,h2,h3,h4⟩:=h
 unfold As.get
 split <;> assumption
theorem As.ok.put {s:As} (h:s.ok) {k:Nat} {v:Int} (hv:u64ok v):(s.put k v).ok:=by
 obtain ⟨h1,h2,h3,h4⟩:=h
 unfold As.put
 split <;> exact ⟨by assumption,by assumption,by assumption,by assumption⟩
theorem As.get_put {s:As} {k j:Nat} {v:Int} (hk:k < 4) (hj:j < 4):(s.put k v).get j=if j=k then v else s.get j:=by
 match k,j,hk,hj with
 | 0,0,_,_ | 0,1,_,_ | 0,2,_,_ | 0,3,_,_=>rfl
 | 1,0,_,_ | 1,1,_,_ | 1,2,_,_ | 1,3,_,_=>rfl
 | 2,0,_,_ | 2,1,_,_ | 2,2,_,_ | 2,3,_,_=>rfl
 | 3,0,_,_ | 3,1,_,_ | 3,2,_,_ | 3,3,_,_=>rfl
theorem tm64 {n:Int} (h:0≤n):Int.tmod n 64=((n.toNat % 64:Nat):Int):=by
 rw [Int.tmod_eq_emod_of_nonneg h]
 omega
theorem td64 {n:Int} (h:0≤n):Int.tdiv n 64=((n.toNat / 64:Nat):Int):=by
 rw [Int.tdiv_eq_ediv_of_nonneg h]
 omega
theorem As.has_iff {s:As} (hs:s.ok) {n:Int} (h0:0≤n):s.has n=true↔(s.get (n.toNat / 64)).toNat.testBit (n.toNat % 64)=true:=by
 unfold As.has
 rw [decide_eq_true_eq,tm64 h0]
 obtain ⟨m,hm,hm2⟩:=u64_ex (hs.get (n.toNat / 64))
 rw [hm,bit_nat hm2 (Nat.mod_lt _ (by omega)),Int.toNat_natCast]
theorem As.add_ok {s:As} (hs:s.ok) {n:Int} (h0:0≤n):(s.add n).ok:=by
 unfold As.add
 refine hs.put ?_
 obtain ⟨m,hm,hm2⟩:=u64_ex (hs.get (n.toNat / 64))
 rw [tm64 h0,shl_one (Nat.mod_lt _ (by omega)),hm,or_nat hm2 (Nat.pow_lt_pow_right (by omega) (Nat.mod_lt _ (by omega)))]
 have:=Nat.or_lt_two_pow hm2 (Nat.pow_lt_pow_right (a:=2) (by omega) (Nat.mod_lt n.toNat (by omega:0 < 64)))
 unfold u64ok
 omega
theorem As.has_add {s:As} (hs:s.ok) {n m:Int} (h0:0≤n) (h1:n < 256) (k0:0≤m) (k1:m < 256):(s.add n).has m=true↔m=n∨s.has m=true:=by
 rw [As.has_iff (As.add_ok hs h0) k0,As.has_iff hs k0]
 unfold As.add
 rw [As.get_put (by omega) (by omega)]
 obtain ⟨x,hx,hx2⟩:=u64_ex (hs.get (n.toNat / 64))
 split
 ·rename_i e
  rw [e,tm64 h0,shl_one (Nat.mod_lt _ (by omega)),hx,or_nat hx2 (Nat.pow_lt_pow_right (by omega) (Nat.mod_lt _ (by omega))),Int.toNat_natCast,Int.toNat_natCast,Nat.testBit_or,Nat.testBit_two_pow,Bool.or_eq_true,decide_eq_true_eq]
  constructor
  ·rintro (h | h)
   ·exact .inr h
   ·exact .inl (by omega)
  ·rintro (rfl | h)
   ·exact .inr Z
   ·exact .inl h
 ·rename_i e
  constructor
  ·exact .inr
  ·rintro (rfl | h)
   ·exact absurd Z e
   ·exact h
theorem As.zero_ok:(⟨0,0,0,0⟩:As).ok:=by unfold As.ok u64ok;simp
theorem As.has_zero {m:Int} (k0:0≤m):(⟨0,0,0,0⟩:As).has m=false:=by
 rw [← Bool.not_eq_true,As.has_iff As.zero_ok k0]
 have:(As.get ⟨0,0,0,0⟩ (m.toNat / 64))=0:=by unfold As.get;split <;> rfl
 rw [this]
 simp
theorem As.zero_of {s:As} (hs:s.ok) (h:∀ m:Int,0≤m→m < 256→s.has m=false):s.a=0∧s.b=0∧s.c=0∧s.d=0:=by
 have key:∀ k:Nat,k < 4→s.get k=0:=fun k hk=>by
  obtain ⟨x,hx,hx2⟩:=u64_ex (hs.get k)
  rw [hx]
  have:x=0:=by
   refine Nat.eq_of_testBit_eq fun i=>?_
   rw [Nat.zero_testBit]
   rcases Nat.lt_or_ge i 64 with hi | hi
   ·have h1:=h ((64 * k+i:Nat):Int) (by omega) (by omega)
    rw [← Bool.not_eq_true,As.has_iff hs (by omega),Int.toNat_natCast,show (64 * k+i) / 64=k by omega,show (64 * k+i) % 64=i by omega,hx,Int.toNat_natCast] at h1
    simpa using h1
   ·exact Nat.testBit_lt_two_pow (Nat.lt_of_lt_of_le hx2 (Nat.pow_le_pow_right (by omega) hi))
  rw [this];rfl
 exact ⟨key 0 (by omega),key 1 (by omega),key 2 (by omega),key 3 (by omega)⟩
section
open Go.RowKit Go.Proofs.Ytoheddpnnjldgaa.Bq
theorem eqT156 {x y:Operand} {a0 a1 a2 a3 b0 b1 b2 b3:Int} {w:World}:(do eqGuard .eql 156 x y (.agg #[.int .u64 a0,.int .u64 a1,.int .u64 a2,.int .u64 a3]) (.agg #[.int .u64 b0,.int .u64 b1,.int .u64 b2,.int .u64 b3]);binOp .eql 156 (.agg #[.int .u64 a0,.int .u64 a1,.int .u64 a2,.int .u64 a3]) (.agg #[.int .u64 b0,.int .u64 b1,.int .u64 b2,.int .u64 b3]):Sem Value).run Try.prog w=.ok (.bool (decide (a0=b0) && (decide (a1=b1) && (decide (a2=b2) && decide (a3=b3))))) w:=by
 go_simp
 obtain ⟨i,hi⟩:=Option.isSome_iff_exists.1 (by kernel_rfl:(Try.prog.info? 96).isSome=true)
 rw [show (10000:Nat)=9999+1 from rfl,run_equalIn_array w 9999 _ _ Try.underlying156 hi,show Try.prog.cellsOf 96=1 by kernel_rfl,show List.range 4=[0,1,2,3] from rfl]
 simp only [Op.eqItems]
 go_simp
 (repeat' split) <;> simp_all
def asC (s:As):List Value:=[.int .u64 s.a,.int .u64 s.b,.int .u64 s.c,.int .u64 s.d]
theorem asAt {w:World} {g:Nat} {s:As} {k:Nat} (h:Bk w g #[.int .u64 s.a,.int .u64 s.b,.int .u64 s.c,.int .u64 s.d]) (hk:k < 4):w.cell? ((⟨g,0,none⟩:Addr).add (k * 1))=some (.int .u64 (s.get k)):=by
 have:=h.cell k
 match k,hk with
 | 0,_=>exact this
 | 1,_=>exact this
 | 2,_=>exact this
 | 3,_=>exact this
section
variable {P:Program} {op:Oper} {a:Act} {K:Act→World→Prop} {Q:Exit→Act→World→Prop} {w0 w:World} {ex:Nat→Prop} {L L':List (Nat×BA)} {n:Nat} {E:List (Nat×Value)} {df:List Deferred}
theorem ow_stA {ty : TypeId} {x y : Operand} {g k : Nat} {s : As} {v : Int} (M : Mem w0 ex w L) (T : TmD df a n E) (ho : op.op = .store ty x y) (hd : op.dst = none) (hx : a.eval x = .pointer (some ((⟨g, 0, none⟩ : Addr).add (k * 1)))) (hk : k < 4) (hy : a.eval y = .int .u64 v)
   (hu:Upd L g (.cells (asC s)) (.cells (asC (s.put k v))) L') (hi:(P.info? ty).map (·.size)=some 1) (h:∀ w' a',Mem w0 ex w' L'→TmD df a' n E→K a' w'):op.wp P a w K Q:=by
 match k,hk,hx,hu with
 | 0,_,hx,hu=>exact Zos (o:=0) M T ho hd hx hy rfl hu rfl (by simp) rfl hi h
 | 1,_,hx,hu=>exact Zos (o:=1) M T ho hd hx hy rfl hu rfl (by simp) rfl hi h
 | 2,_,hx,hu=>exact Zos (o:=2) M T ho hd hx hy rfl hu rfl (by simp) rfl hi h
 | 3,_,hx,hu=>exact Zos (o:=3) M T ho hd hx hy rfl hu rfl (by simp) rfl hi h
end
def nxB (full way s:Int) (q:Nt) (S:Int→Bool) (y:Int):Bool:=(decide (0≤y) && decide (y≤full)) && (upI 0 full).any fun a=>S a && (upI q.lo q.hi).any fun d=>decide (aft way a (q.sec * (d+s))=y)
def canF (full s:Int):(Int→Bool)→List Nt→List Int→Bool
 | S,q::p,w::g=>(upI 0 full).any (nxB full w s q S) && canF full s (nxB full w s q S) p g
 | _,_,_=>true
theorem canF_nil (full s:Int) (S:Int→Bool) (g:List Int):canF full s S [] g=true:=by unfold canF;rfl
def canB (b:Bw) (p:List Nt) (g:List Int) (s:Int):Bool:=canF b.full s (fun m=>decide (b.a0≤m) && decide (m≤b.a1)) p g
def hopB (b:Bw) (p:List Nt) (ss:List Int) (g:List Int):Bool:=ss.any (canB b p g)
structure RepS (x:As) (full:Int) (S:Int→Bool):Prop where
 ok:x.ok
 eq:∀ m:Int,0≤m→m < 256→x.has m=S m
 bd:∀ m,S m=true→0≤m∧m≤full
def Src (way s:Int) (q:Nt) (S:Int→Bool) (a m:Int):Prop:=∃ a',(0≤a'∧a' < a)∧S a'=true∧∃ d,(q.lo≤d∧d≤q.hi)∧aft way a' (q.sec * (d+s))=m
def SrcD (way s:Int) (q:Nt) (S:Int→Bool) (a d m:Int):Prop:=Src way s q S a m∨S a=true∧∃ e,(q.lo≤e∧e < d)∧aft way a (q.sec * (e+s))=m
def Rep4 (x:As) (full:Int) (R:Int→Prop):Prop:=x.ok∧∀ m:Int,0≤m→m < 256→(x.has m=true↔(0≤m∧m≤full)∧R m)
section
variable {x:As} {full way s a d:Int} {q:Nt} {S:Int→Bool}
theorem Rep4.zero:Rep4 ⟨0,0,0,0⟩ full (Src way s q S 0):=by
 refine ⟨As.zero_ok,fun m k0 _=>?_⟩
 rw [As.has_zero k0]
 constructor
 · intro h;cases h
 · rintro ⟨-,a',h,-⟩;omega
theorem Rep4.iff {R R':Int→Prop} (h:Rep4 x full R) (hr:∀ m,0≤m∧m≤full→(R m↔R' m)):Rep4 x full R' :=
 ⟨h.1,fun m k0 k1=>(h.2 m k0 k1).trans (and_congr_right fun hm=>hr m hm)⟩
theorem Rep4.start (h:Rep4 x full (Src way s q S a)):Rep4 x full (SrcD way s q S a q.lo):=by
 refine h.iff fun m hm=>⟨.inl,fun h=>?_⟩
 rcases h with h | ⟨-,e,h,-⟩
 · exact h
 · omega
theorem Rep4.stop_no (h:Rep4 x full (SrcD way s q S a d)) (hs:S a=false):Rep4 x full (Src way s q S (a+1)):=by
 refine h.iff fun m hm=>⟨fun h=>?_,fun h=>?_⟩
 ·rcases h with ⟨a',h,h2⟩ | ⟨h,-⟩
  ·exact ⟨a',by omega,h2⟩
  ·rw [hs] at h;cases h
 ·obtain ⟨a',h1,h2,h3⟩:=h
  rcases (by omega:a' < a∨a'=a) with h4 | rfl
  ·exact .inl ⟨a',by omega,h2,h3⟩
  ·rw [hs] at h2;cases h2
theorem Rep4.stop_all (h:Rep4 x full (SrcD way s q S a d)) (h0:0≤a) (hd:d=q.hi+1):Rep4 x full (Src way s q S (a+1)):=by
 refine h.iff fun m hm=>⟨fun h=>?_,fun h=>?_⟩
 ·rcases h with ⟨a',h,h2⟩ | ⟨h,e,h2,h3⟩
  ·exact ⟨a',by omega,h2⟩
  ·exact ⟨a,by omega,h,e,by omega,h3⟩
 ·obtain ⟨a',h1,h2,e,h3,h5⟩:=h
  rcases (by omega:a' < a∨a'=a) with h4 | rfl
  ·exact .inl ⟨a',by omega,h2,e,h3,h5⟩
  ·exact .inr ⟨h2,e,by omega,h5⟩
theorem Rep4.miss (h:Rep4 x full (SrcD way s q S a d)) (hy : ¬ (0≤aft way a (q.sec * (d+s))∧aft way a (q.sec * (d+s))≤full)):Rep4 x full (SrcD way s q S a (d+1)):=by
 refine h.iff fun m hm=>⟨fun h=>?_,fun h=>?_⟩
 ·rcases h with h | ⟨h,e,h2,h3⟩
  ·exact .inl h
  ·exact .inr ⟨h,e,by omega,h3⟩
 ·rcases h with h | ⟨h,e,h2,h3⟩
  ·exact .inl h
  ·rcases (by omega:e < d∨e=d) with h4 | rfl
   ·exact .inr ⟨h,e,by omega,h3⟩
   ·exact absurd (h3 ▸ hm) hy
theorem Rep4.hit (h:Rep4 x full (SrcD way s q S a d)) (hS:S a=true) (hl:q.lo≤d) (hf:full < 256) (hy:0≤aft way a (q.sec * (d+s))∧aft way a (q.sec * (d+s))≤full):Rep4 (x.add (aft way a (q.sec * (d+s)))) full (SrcD way s q S a (d+1)):=by
 refine ⟨As.add_ok h.1 hy.1,fun m k0 k1=>?_⟩
 rw [As.has_add h.1 hy.1 (by omega) k0 k1,h.2 m k0 k1]
 constructor
 ·rintro (rfl | ⟨hm,h⟩)
  ·exact ⟨hy,.inr ⟨hS,d,by omega,Z⟩⟩
  ·refine ⟨hm,?_⟩
   rcases h with h | ⟨h,e,h2,h3⟩
   ·exact .inl h
   ·exact .inr ⟨h,e,by omega,h3⟩
 ·rintro ⟨hm,h⟩
  rcases h with h | ⟨h,e,h2,h3⟩
  ·exact .inr ⟨hm,.inl h⟩
  ·rcases (by omega:e < d∨e=d) with h4 | rfl
   ·exact .inr ⟨hm,.inr ⟨h,e,by omega,h3⟩⟩
   ·exact .inl h3.symm
theorem Rep4.done (h:Rep4 x full (Src way s q S (full+1))):RepS x full (nxB full way s q S):=by
 refine ⟨h.1,fun m k0 k1=>?_,fun m hm=>?_⟩
 ·rw [Bool.eq_iff_iff,h.2 m k0 k1]
  unfold nxB Src
  simp only [Bool.and_eq_true,decide_eq_true_eq,List.any_eq_true,upI_mem]
  refine and_congr_right fun _=>⟨fun ⟨a',h1,h2,e,h3,h4⟩=>⟨a',by omega,h2,e,h3,h4⟩,fun ⟨a',h1,h2,e,h3,h4⟩=>⟨a',by omega,h2,e,h3,h4⟩⟩
 ·unfold nxB at hm
  simp only [Bool.and_eq_true,decide_eq_true_eq] at hm
  exact hm.1
theorem RepS.none (h:RepS x full S) (hf:full < 256) (ha:x.a=0) (hb:x.b=0) (hc:x.c=0) (hd:x.d=0):(upI 0 full).any S=false:=by
 rw [List.any_eq_false]
 intro m hm
 have:=upI_mem.1 hm
 rw [← h.eq m (by omega) (by omega)]
 have e:x=⟨0,0,0,0⟩:=by cases x;simp_all
 rw [e,As.has_zero (by omega)]
 simp
theorem RepS.some (h:RepS x full S) (hn : ¬ (x.a=0∧x.b=0∧x.c=0∧x.d=0)):(upI 0 full).any S=true:=by
 rcases Zx9 ((upI 0 full).any S) with h1 | h1
 ·exact h1
 ·refine absurd (As.zero_of h.ok fun m k0 k1=>?_) hn
  rw [h.eq m k0 k1]
  rcases Zx9 (S m) with h2 | h2
  ·have:=List.any_eq_false.1 h1 m (upI_mem.2 (h.bd m h2))
   exact absurd h2 this
  ·exact h2
end
theorem with_any (s:As) (n:Int)  (w:World) (h0:0≤n) (h1:n < 256)  :
  Calls Try.prog 147 #[.agg #[.int .u64 s.a,.int .u64 s.b,.int .u64 s.c,.int .u64 s.d],Zi n] w fun e w'=>e=.returned (.agg #[.int .u64 ((s.add n).a),.int .u64 ((s.add n).b),.int .u64 ((s.add n).c),.int .u64 ((s.add n).d)])∧Below w.heap.size w w':=by
 have hq64:=td64 h0
 have hr64:=tm64 h0
 refine Zpx noEx Try.func147 Z 15 Z [.agg #[.int .u64 s.a,.int .u64 s.b,.int .u64 s.c,.int .u64 s.d],Zi n] Z Z (Mem.init w _) ?_
 intro ac wc T M
 refine Zsr ?_
 refine Zl2 ?_
 refine Zob M T Z Z Z Z (T.e 0 Z) Z ?_;clear M T;intro g1 wc ac M T
 refine Zl2 ?_
 refine Zoa M T Z Z Z Z ?_;clear M T;intro g2 wc ac M T
 replace T:=T.pick [0,1,3] rfl
 refine Zln ?_
 refine wp_seq ?_
 refine Zgs M (M.perm [] Z Z) 10 (by kernel_rfl) Z (by kernel_rfl) ?_
 clear M;intro wc M
 refine g_addG 9 M ?_
 refine Zgq T 0 1 Z (fun _=>(Zrm Z (T.e 2 Z))) ?_;intro ac T
 refine Zgq T 1 3 Z (fun _=>(rn_quo Z (T.e 0 Z) evc (by omega) (by omega))) ?_;intro ac T
 refine Zgq (v:=(.pointer (some ((⟨g1,0,none⟩:Addr).add ((n.toNat / 64) * 1))))) T 2 7 Z (fun _=>(rn_indexG (size:=1) (n.toNat / 64) Z (T.e 3 Z) (T.e 0 Z) (td64 h0) Try.underlying156 (by kernel_rfl) (by omega))) ?_;intro ac T
 refine gq (v:=(.int .u64 (s.get (n.toNat / 64)))) T 3 15 Z (fun B w' hD hl hS=>(rn_cell (asAt (s:=s) (Mem.nth (show Mem w noEx w' _ from ((MA.lft hS) (hD.wait (i:=3) (m:=9) (by kernel_rfl) hl))) 1 Z) (by omega)) Z (T.e 0 Z))) ?_;intro ac T
 refine Zgq T 4 31 Z (fun _=>(Zrm Z (T.e 6 Z))) ?_;intro ac T
 refine Zgq T 5 63 Z (fun _=>(rn_rem Z (T.e 0 Z) evc (by omega))) ?_;intro ac T
 refine Zgq T 6 127 Z (fun _=>(rn_shlU Z evc (T.e 0 Z) (by omega))) ?_;intro ac T
 refine Zgq T 7 255 Z (fun _=>(rn_orU Z (T.e 3 Z) (T.e 0 Z))) ?_;intro ac T
 refine Zgq (v:=(.pointer (some ((⟨g1,0,none⟩:Addr).add ((n.toNat / 64) * 1))))) T 8 511 Z (fun _=>(rn_indexG (size:=1) (n.toNat / 64) Z (T.e 9 Z) (T.e 6 Z) (td64 h0) Try.underlying156 (by kernel_rfl) (by omega))) ?_;intro ac T
 refine gw 9 1023 ?_;intro K hK
 refine ow_stA M T Z Z (T.e 0 Z) (by omega) (T.e 1 Z) (.tail .head) (by kernel_rfl) ?_;clear M T;intro wc ac M T
 replace M:Mem w noEx wc [(g2,.cells [.int .u64 0,.int .u64 0,.int .u64 0,.int .u64 0]),(g1,.cells [.int .u64 ((s.add n).a),.int .u64 ((s.add n).b),.int .u64 ((s.add n).c),.int .u64 ((s.add n).d)])]:=M
 refine Zso hK _ _ (MA.mk (fun h=>(no_of (by kernel_rfl) h).elim) (M.mask [false,false] Z)) ?_;clear hK K
 refine Zgd (by kernel_rfl) ?_
 replace T:=T.pick [9,10] rfl
 refine nm_then ?_
 refine Zsr ?_
 refine lq T (Zrr (Mem.nth M 1 Z) Z (T.e 1 Z) Z) ?_;intro ac T
 refine Zl2 ?_
 refine Zot M T Z Z (T.e 1 Z) (T.e 0 Z) Z .head Z Z ?_;clear M T;intro wc ac M T
 refine wpList_nil ?_
 replace T:=T.pick [1] rfl
 replace M:=M.mask [true,false] rfl
 refine Znr ?_
 refine rt_c M T Z (T.e 0 Z) (Zne (i:=0) Z) Z ?_
 exact ⟨rfl,M.below⟩
theorem has_any (s:As) (n:Int)  (w:World) (h0:0≤n) (h1:n < 256)  :
  Calls Try.prog 148 #[.agg #[.int .u64 s.a,.int .u64 s.b,.int .u64 s.c,.int .u64 s.d],Zi n] w fun e w'=>e=.returned (.bool (s.has n))∧Below w.heap.size w w':=by
 have hq64:=td64 h0
 have hr64:=tm64 h0
 refine Zpx noEx Try.func148 Z 14 Z [.agg #[.int .u64 s.a,.int .u64 s.b,.int .u64 s.c,.int .u64 s.d],Zi n] Z Z (Mem.init w _) ?_
 intro ac wc T M
 refine Zsr ?_
 refine Zl2 ?_
 refine Zob M T Z Z Z Z (T.e 0 Z) Z ?_;clear M T;intro g1 wc ac M T
 refine lq T (Zra Z evc) ?_;intro ac T
 replace T:=T.pick [1,3] rfl
 refine Zln ?_
 refine Zsr ?_
 refine Zg8 (v3:=(.pointer (some ((⟨g1,0,none⟩:Addr).add ((n.toNat / 64) * 1))))) (v4:=(.int .u64 (s.get (n.toNat / 64)))) T (Zq (Zrm Z (T.e 1 Z))) Z (fun _ T=>Zq (rn_quo Z (T.e 0 Z) evc (by omega) (by omega))) Z (fun _ T=>Zq (rn_indexG (size:=1) (n.toNat / 64) Z (T.e 2 Z) (T.e 0 Z) (td64 h0) Try.underlying156 (by kernel_rfl) (by omega))) Z (fun _ T=>Zq (rn_cell (asAt (s:=s) (Mem.nth M 0 Z) (by omega)) Z (T.e 0 Z))) Z (Zm 5 Z Z) Z (fun _ T=>Zq (rn_rem Z (T.e 0 Z) evc (by omega))) Z (fun _ T=>Zq (rn_shrU Z (T.e 2 Z) (T.e 0 Z) (by omega))) Z (fun _ T=>Zq (rn_andU Z (T.e 0 Z) evc)) Z ?_;intro ac T
 refine Zg2 T (Zq (rn_eql Z (T.e 0 Z) evc)) Z (Za 0 Z Z) Z ?_;intro ac T
 refine wpList_nil ?_
 replace T:=T.pick [0] rfl
 replace M:=M.mask [false] rfl
 refine Znr ?_
 refine rt_1 T Z (T.e 0 Z) ?_
 exact ⟨rfl,M.below⟩
set_option maxHeartbeats 4000000 in
theorem can_any (b:Bw) (A:Option Addr) (c:Nat) (D:Option Addr) (d:Nat) (p:List Nt) (P:Option Addr) (pc:Nat) (s:Int) (G:Option Addr) (n:Nat) (g:List Int)  (w:World) (hP9:Rd w w.heap.size 4 P p.length (ntc p)) (hG:Rd w w.heap.size 1 G g.length (ic g)) (hgp:NtGood p) (hgb:BwAir b) (hs:0≤s∧s≤20) (hgl:g.length=p.length)  :
   Calls Try.prog 137 #[.agg #[Zi b.full,Zi b.a0,Zi b.a1,.slice A b.cs.length c,.slice D b.ts.length d,.slice P p.length pc,Zi s],.slice G g.length n] w fun e w'=>e=.returned (.bool (canB b p g s))∧Below w.heap.size w w':=by
 obtain ⟨bP,oP,SP⟩:=Sp.old hP9
 obtain ⟨bG,oG,SG⟩:=Sp.old hG
 have hp6:=hgp.n6
 refine Zpx noEx Try.func137 Z 92 Z [.agg #[Zi b.full,Zi b.a0,Zi b.a1,.slice A b.cs.length c,.slice D b.ts.length d,.slice P p.length pc,Zi s],.slice G g.length n] Z Z (Mem.init w _) ?_
 intro ac wc T M
 refine Zsr ?_
 refine Zl2 ?_
 refine Zob M T Z Z Z Z (T.e 0 Z) Z ?_;clear M T;intro g1 wc ac M T
 refine lq T (Zra Z evc) ?_;intro ac T
 replace T:=T.pick [1,3] rfl
 refine Zln ?_
 refine Zsr ?_
 refine Zl2 ?_
 refine Zoa M T Z Z Z Z ?_;clear M T;intro g2 wc ac M T
 refine Zln ?_
 refine wp_seq ?_
 refine Zsr ?_
 refine Zg5 (v1:=(Zj g1)) (v2:=(.pointer (some ⟨g1,1,none⟩))) (v3:=(.pointer (some ⟨g1,1,none⟩))) T (Zq (Zrg 0 Z (T.e 1 Z))) Z (Zf 1 0 Z Z) Z (Zf 0 0 Z Z) Z (Zo M 1 0 Z Z Z Z) Z (Za 0 Z Z) Z ?_;intro ac T
 replace T:=T.pick [0,5,6,7] rfl
 refine Zln ?_
 refine wp_block ?_
 have hgb1:=hgb.full
 have hgb2:=hgb.air
 have han:airN b=(b.a1 - b.a0+1).toNat:=rfl
 rw [show b.a0=b.a0+((0:Nat):Int) by omega] at T
 refine wp_loop_n (fun mz ac wc=>∃ (j:Nat) (s9:As),mz=airN b - j∧(j≤airN b)∧s9.ok∧(∀ m:Int,0≤m→m < 256→(s9.has m=true↔b.a0≤m∧m < b.a0+(j:Int)))∧Tm ac 92 [(1,.slice G g.length n),(2,Zj g1),(5,Zj g2),(6,Zi (b.a0+(j:Int)))]∧Mem w noEx wc [(g2,.cells [.int .u64 s9.a,.int .u64 s9.b,.int .u64 s9.c,.int .u64 s9.d]),(g1,.cells [Zi b.full,Zi b.a0,Zi b.a1,.slice A b.cs.length c,.slice D b.ts.length d,.slice P p.length pc,Zi s])]) ?_ ?_
 ·exact ⟨_,0,(⟨0,0,0,0⟩:As),Z,(Nat.zero_le _),As.zero_ok,(fun m k0 _=>by rw [As.has_zero k0];constructor <;> intro h9 <;> first | (cases h9;done) | omega),T.pick [3,2,1,0] Z,M.mask [true,true] Z⟩
 clear T M
 rintro mz ac wc ⟨j,s9,hmm1,hj,hok,HX,T,M⟩
 refine wp_seq ?_
 refine Zsr ?_
 refine Zg6 (v2:=(Zj g1)) (v3:=(.pointer (some ⟨g1,1,none⟩))) (v4:=(.pointer (some ⟨g1,2,none⟩))) T (Zq (Zrm Z (T.e 3 Z))) Z (Zf 0 2 Z Z) Z (Zf 1 0 Z Z) Z (Zf 1 0 Z Z) Z (Zo M 1 0 Z Z Z Z) Z (fun _ T=>Zq (rn_leq Z (T.e 4 Z) (T.e 0 Z))) Z ?_;intro ac T
 replace T:=T.pick [0,6,7,8,9] rfl
 refine Zln ?_
 refine wp_if (T.e 0 Z) ?_ ?_
 ·intro h1
  refine Zsk ?_
  refine wp_seq ?_
  refine wp_block ?_
  refine wp_region_lit ?_
  refine Zg2 T (Zq (Zrr (Mem.nth M 0 Z) Z (T.e 3 Z) Z)) Z (Zm 5 Z Z) Z ?_;intro ac T
  refine Zl2 ?_
  refine Zod T Z Z Z Z evf (.cons (T.e 1 Z) (.cons (T.e 0 Z) .nil)) Try.func147 Z Z ?_
  refine Calls.mono (with_any s9 (b.a0+(j:Int)) _ (by omega) (by omega)) ?_
  clear T;rintro e wc ⟨rfl,hb⟩ ac T
  replace M:=M.call hb;clear hb
  refine Zl2 ?_
  refine Zot M T Z Z (T.e 6 Z) (T.e 0 Z) Z .head Z Z ?_;clear M T;intro wc ac M T
  refine wpList_nil ?_
  replace T:=T.pick [4,5,6,7] rfl
  refine Znb ?_
  refine nm_then ?_
  refine wp_region_lit ?_
  refine Zg2 T (Zq (Zrm Z (T.e 3 Z))) Z (fun _ T=>Zq (rn_add Z (T.e 0 Z) evc (by omega))) Z ?_;intro ac T
  refine l_q (v:=(Zi ((b.a0+(j:Int))+1))) (T.pick [0,1,2,3,4] Z) Z Z Z Z (Zra Z (T.e 0 Z)) ?_;intro ac T
  replace T:=T.pick [0,3,4,5] rfl
  refine Zln ?_
  rw [show b.a0+(j:Int)+1=b.a0+((j+1:Nat):Int) by omega] at T
  exact ⟨_,by omega,j+1,(s9.add (b.a0+(j:Int))),Z,(by omega),(As.add_ok hok (by omega)),(fun m k0 k1=>by rw [As.has_add hok (by omega) (by omega) k0 k1,HX m k0 k1];omega),T.pick [1,2,3,0] Z,M.mask [true,true] Z⟩
 intro h1
 obtain rfl:j=airN b:=by omega
 refine wp_exit ?_
 refine Zet ?_
 refine Zet ?_
 refine ex_hit ?_
 refine Zns ?_
 refine Zsr ?_
 refine Zg4 (v1:=(.pointer (some ⟨g1,5,none⟩))) T (Zq (Zrg 5 Z (T.e 2 Z))) Z (Zo M 1 0 Z Z Z Z) Z (Zl Try.underlying44 0 Z Z) Z (fun _ T=>Zq (Zrm Z evc)) Z ?_;intro ac T
 replace T:=T.pick [0,1,2,5,6,7] rfl
 refine Zln ?_
 refine wp_block ?_
 refine wp_loop_n (fun mz ac wc=>∃ (k:Nat) (s8:As) (S:Int→Bool),mz=p.length - k∧(k≤p.length)∧(RepS s8 b.full S)∧(canB b p g s=canF b.full s S (p.drop k) (g.drop k))∧Tm ac 92 [(1,.slice G g.length n),(2,Zj g1),(5,Zj g2),(31,.slice P p.length pc),(32,Zi ((p.length:Nat):Int)),(33,Zi (k:Int))]∧Mem w noEx wc [(g2,.cells [.int .u64 s8.a,.int .u64 s8.b,.int .u64 s8.c,.int .u64 s8.d]),(g1,.cells [Zi b.full,Zi b.a0,Zi b.a1,.slice A b.cs.length c,.slice D b.ts.length d,.slice P p.length pc,Zi s])]) ?_ ?_
 ·exact ⟨_,0,s9,(fun m=>decide (b.a0≤m) && decide (m≤b.a1)),Z,(Nat.zero_le _),⟨hok,fun m k0 k1=>by rw [Bool.eq_iff_iff,HX m k0 k1,Bool.and_eq_true,decide_eq_true_eq,decide_eq_true_eq];omega,fun m hm=>by rw [Bool.and_eq_true,decide_eq_true_eq,decide_eq_true_eq] at hm;omega⟩,Z,T.pick [3,4,5,2,1,0] Z,M.mask [true,true] Z⟩
 clear T M
 rintro mz ac wc ⟨k,s8,S,hmm2,hk,hR,H,T,M⟩
 refine Zsr ?_
 refine lq T (rn_lss Z (T.e 5 Z) (T.e 4 Z)) ?_;intro ac T
 refine Zln ?_
 refine wp_seq ?_
 refine wp_if (T.e 0 Z) ?_ ?_
 ·intro h2
  obtain ⟨q,hkq,hd⟩:=ntc_next (l:=p) (k:=k) (by omega)
  obtain ⟨wy,hky,hd2⟩:=ic_next (l:=g) (k:=k) (by omega)
  rw [hd,hd2,canF] at H
  have hgq:=hgp.ok q (List.mem_of_getElem? hkq)
  refine Zsk ?_
  refine wp_seq ?_
  refine wp_block ?_
  refine Zsr ?_
  refine Zg3 (v3:=(.agg #[Zi q.sec,Zi q.lo,Zi q.hi,.bool q.rest])) T (Zq (Zrm Z (T.e 6 Z))) Z (fun _ T=>Zq (Zri (size:=4) k Z (T.e 5 Z) (T.e 7 Z) ⟨_,Try.underlying44,by kernel_rfl⟩ Z (by omega) (SP.at0 (by omega)))) Z (fun _ T=>Zq (rn_rowat (Sp.ntcR SP M (Zz9 _) hkq) Z (T.e 0 Z) Z)) Z ?_;intro ac T
  refine Zl2 ?_
  refine Zoa M T Z Z Z Z ?_;clear M T;intro g3 wc ac M T
  refine lq T (Zra Z (T.e 3 Z)) ?_;intro ac T
  refine Zl2 ?_
  refine Zot M T Z Z (T.e 1 Z) (T.e 2 Z) Z .head Z Z ?_;clear M T;intro wc ac M T
  replace T:=T.pick [0,1,6,7,8,9,10,11] rfl
  refine Zln ?_
  refine Zsr ?_
  refine Zg4 T (Zq (Zrm Z (T.e 2 Z))) Z (Zm 1 Z Z) Z (fun _ T=>Zq (Zri (size:=1) k Z (T.e 1 Z) (T.e 0 Z) ⟨_,Try.underlying28,by kernel_rfl⟩ Z (by omega) (SG.at0 (by omega)))) Z (fun _ T=>Zq (rn_cell (Sp.ic0 SG M (Zz9 _) hky) Z (T.e 0 Z))) Z ?_;intro ac T
  refine Zl2 ?_
  refine Zod T Z Z Z Z evf (.cons (T.e 0 Z) .nil) Try.func80 Z Z ?_
  refine Calls.mono (works_fn wy _) ?_
  clear T;rintro e wc ⟨FAu2,FRu2,rfl,hfau2,hfru2,hb⟩ ac T
  replace M:=M.call hb;clear hb
  obtain ⟨fau2,ha1u2,ha2u2,ha3u2,ha4u2⟩:=hfau2
  obtain ⟨fru2,hr1u2,hr2u2,hr3u2,hr4u2⟩:=hfru2
  refine Zg2 (v1:=(.func (.func FAu2) #[] [].toArray)) T (Zq (rn_field Z (T.e 0 Z) (by kernel_rfl))) Z (Za 0 Z Z) Z ?_;intro ac T
  replace T:=T.pick [0,8,9,10,11,12,13,14] rfl
  refine Zln ?_
  refine Zsr ?_
  refine Zl2 ?_
  refine Zoa M T Z Z Z Z ?_;clear M T;intro g4 wc ac M T
  refine Zln ?_
  refine Zsr ?_
  refine Zg3 (v2:=(.func (.func 148) #[.agg #[.int .u64 s8.a,.int .u64 s8.b,.int .u64 s8.c,.int .u64 s8.d]] #[])) T (Zq (Zrr (Mem.nth M 2 Z) Z (T.e 5 Z) Z)) Z (fun _ T=>Zq (rn_makeFunc Z (.cons (T.e 0 Z) .nil) .nil)) Z (Za 0 Z Z) Z ?_;intro ac T
  replace T:=T.pick [0,3,4,5,6,7,8,9,10,11] rfl
  refine Zln ?_
  refine wp_seq ?_
  refine Zsr ?_
  refine Zg5 (v1:=(Zj g1)) (v2:=(Zj g1)) T (Zq (Zrg 0 Z (T.e 5 Z))) Z (Zf 0 0 Z Z) Z (Zo M 3 0 Z Z Z Z) Z (fun _ T=>Zq (rn_add Z (T.e 0 Z) evc (by omega))) Z (fun _ T=>Zq (Zrm Z evc)) Z ?_;intro ac T
  replace T:=T.pick [0,1,5,6,7,8,9,10,11,12,13,14] rfl
  refine Zln ?_
  refine wp_block ?_
  refine wp_loop_n (fun mz ac wc=>∃ (a:Nat) (x:As),mz=(b.full+1 - (a:Int)).toNat∧((a:Int)≤b.full+1)∧(Rep4 x b.full (Src wy s q S (a:Int)))∧Tm ac 92 [(1,.slice G g.length n),(2,Zj g1),(5,Zj g2),(8,Zj g3),(9,.func (.func FAu2) #[] [].toArray),(10,Zj g4),(11,.func (.func 148) #[.agg #[.int .u64 s8.a,.int .u64 s8.b,.int .u64 s8.c,.int .u64 s8.d]] #[]),(31,.slice P p.length pc),(32,Zi ((p.length:Nat):Int)),(33,Zi (k:Int)),(49,Zi (b.full+1)),(50,Zi (a:Int))]∧Mem w noEx wc [(g4,.cells [.int .u64 x.a,.int .u64 x.b,.int .u64 x.c,.int .u64 x.d]),(g3,.cells [Zi q.sec,Zi q.lo,Zi q.hi,.bool q.rest]),(g2,.cells [.int .u64 s8.a,.int .u64 s8.b,.int .u64 s8.c,.int .u64 s8.d]),(g1,.cells [Zi b.full,Zi b.a0,Zi b.a1,.slice A b.cs.length c,.slice D b.ts.length d,.slice P p.length pc,Zi s])]) ?_ ?_
  ·exact ⟨_,0,(⟨0,0,0,0⟩:As),Z,(by omega),Rep4.zero,T.pick [6,7,8,5,4,3,2,9,10,11,1,0] Z,M.mask [true,true,true,true] Z⟩
  clear T M
  rintro mz ac wc ⟨a,x,hmm3,ha,hX,T,M⟩
  refine Zsr ?_
  refine lq T (rn_lss Z (T.e 11 Z) (T.e 10 Z)) ?_;intro ac T
  refine Zln ?_
  refine wp_seq ?_
  refine wp_if (T.e 0 Z) ?_ ?_
  ·intro h3
   refine Zsk ?_
   refine wp_seq ?_
   refine wp_block ?_
   refine Zsr ?_
   refine Zg2 T (Zq (Zrm Z (T.e 12 Z))) Z (Za 0 Z Z) Z ?_;intro ac T
   replace T:=T.pick [0,3,4,5,6,7,8,9,10,11,12,13,14] rfl
   refine Zln ?_
   refine Zsr ?_
   refine Zg4 (v1:=(.pointer (some ⟨g3,1,none⟩))) (v2:=(.pointer (some ⟨g3,1,none⟩))) T (Zq (Zrg 1 Z (T.e 4 Z))) Z (Zf 0 0 Z Z) Z (Zo M 1 0 Z Z Z Z) Z (Za 0 Z Z) Z ?_;intro ac T
   replace T:=T.pick [0,4,5,6,7,8,9,10,11,12,13,14,15,16] rfl
   refine Zln ?_
   refine wp_block ?_
   rw [show q.lo=q.lo+((0:Nat):Int) by omega] at T
   refine wp_loop_n (fun mz ac wc=>∃ (dn:Nat) (x4:As),mz=(q.hi+1 - (q.lo+(dn:Int))).toNat∧(q.lo+(dn:Int)≤q.hi+1)∧(Rep4 x4 b.full (SrcD wy s q S (a:Int) (q.lo+(dn:Int))))∧Tm ac 92 [(1,.slice G g.length n),(2,Zj g1),(5,Zj g2),(8,Zj g3),(9,.func (.func FAu2) #[] [].toArray),(10,Zj g4),(11,.func (.func 148) #[.agg #[.int .u64 s8.a,.int .u64 s8.b,.int .u64 s8.c,.int .u64 s8.d]] #[]),(12,Zi (a:Int)),(13,Zi (q.lo+(dn:Int))),(31,.slice P p.length pc),(32,Zi ((p.length:Nat):Int)),(33,Zi (k:Int)),(49,Zi (b.full+1)),(50,Zi (a:Int))]∧Mem w noEx wc [(g4,.cells [.int .u64 x4.a,.int .u64 x4.b,.int .u64 x4.c,.int .u64 x4.d]),(g3,.cells [Zi q.sec,Zi q.lo,Zi q.hi,.bool q.rest]),(g2,.cells [.int .u64 s8.a,.int .u64 s8.b,.int .u64 s8.c,.int .u64 s8.d]),(g1,.cells [Zi b.full,Zi b.a0,Zi b.a1,.slice A b.cs.length c,.slice D b.ts.length d,.slice P p.length pc,Zi s])]) ?_ ?_
   ·exact ⟨_,0,x,Z,(by omega),(by rw [show q.lo+((0:Nat):Int)=q.lo by omega];exact hX.start),T.pick [2,3,4,5,6,7,8,1,0,9,10,11,12,13] Z,M.mask [true,true,true,true] Z⟩
   clear T M
   rintro mz ac wc ⟨dn,x4,hmm4,hd4,hX4,T,M⟩
   refine wp_seq ?_
   refine cut_seq (fun ac wc=>Tm ac 92 [(1,.slice G g.length n),(2,Zj g1),(5,Zj g2),(8,Zj g3),(9,.func (.func FAu2) #[] [].toArray),(10,Zj g4),(11,.func (.func 148) #[.agg #[.int .u64 s8.a,.int .u64 s8.b,.int .u64 s8.c,.int .u64 s8.d]] #[]),(12,Zi (a:Int)),(13,Zi (q.lo+(dn:Int))),(31,.slice P p.length pc),(32,Zi ((p.length:Nat):Int)),(33,Zi (k:Int)),(49,Zi (b.full+1)),(50,Zi (a:Int)),(65,.bool ((s8.has (a:Int)) && (decide ((q.lo+(dn:Int))≤q.hi))))]∧Mem w noEx wc [(g4,.cells [.int .u64 x4.a,.int .u64 x4.b,.int .u64 x4.c,.int .u64 x4.d]),(g3,.cells [Zi q.sec,Zi q.lo,Zi q.hi,.bool q.rest]),(g2,.cells [.int .u64 s8.a,.int .u64 s8.b,.int .u64 s8.c,.int .u64 s8.d]),(g1,.cells [Zi b.full,Zi b.a0,Zi b.a1,.slice A b.cs.length c,.slice D b.ts.length d,.slice P p.length pc,Zi s])]) ?_ ?_
   ·refine wp_region_lit ?_
    refine Zg2 T (Zq (Zrm Z (T.e 6 Z))) Z (Zm 8 Z Z) Z ?_;intro ac T
    refine Zl2 ?_
    refine Zoc (first:=[.agg #[.int .u64 s8.a,.int .u64 s8.b,.int .u64 s8.c,.int .u64 s8.d]]) (cap:=[]) T Z Z Z Z (T.e 1 Z) (.cons (T.e 0 Z) .nil) Try.func148 Z Z ?_
    refine Calls.mono (has_any s8 (a:Int) _ (by omega) (by omega)) ?_
    clear T;rintro e wc ⟨rfl,hb⟩ ac T
    replace M:=M.call hb;clear hb
    refine lq T (Zrm Z (T.e 0 Z)) ?_;intro ac T
    rcases Zx9 (s8.has (a:Int)) with h4 | h4
    ·refine Zg6 (v2:=(.pointer (some ⟨g3,1,none⟩))) (v3:=(.pointer (some ⟨g3,2,none⟩))) T (Zw (Zwy Z Z (T.e 0 Z) h4) (Zrm Z (T.e 12 Z))) Z (fun _ T=>Zw (Zwy Z Z (T.e 1 Z) h4) (Zrg 1 Z (T.e 8 Z))) Z (fun _ T=>Zw (Zwy Z Z (T.e 2 Z) h4) (Zrg 1 Z (T.e 0 Z))) Z (fun _ T=>Zw (Zwy Z Z (T.e 3 Z) h4) (Zro (Mem.nth M 1 Z) Z (T.e 0 Z) Z)) Z (fun _ T=>Zw (Zwy Z Z (T.e 4 Z) h4) (rn_leq Z (T.e 3 Z) (T.e 0 Z))) Z (fun _ T=>Zq (Zr1 Z (T.e 5 Z) h4 (T.e 0 Z))) Z ?_;intro ac T
     refine wpList_nil ?_
     replace T:=T.pick [0,1,2,3,4,5,10,11,12,13,14,15,16,17,18,19,20,21,22,23] rfl
     exact ⟨(T.pick (E':=[(1,.slice G g.length n),(2,Zj g1),(5,Zj g2),(8,Zj g3),(9,.func (.func FAu2) #[] [].toArray),(10,Zj g4),(11,.func (.func 148) #[.agg #[.int .u64 s8.a,.int .u64 s8.b,.int .u64 s8.c,.int .u64 s8.d]] #[]),(12,Zi (a:Int)),(13,Zi (q.lo+(dn:Int))),(31,.slice P p.length pc),(32,Zi ((p.length:Nat):Int)),(33,Zi (k:Int)),(49,Zi (b.full+1)),(50,Zi (a:Int)),(65,.bool (decide ((q.lo+(dn:Int))≤q.hi)))]) [6,7,8,9,10,11,12,13,14,15,16,17,18,19,0] Z).as (by (try rw [show (s8.has (a:Int))=true from h4]);(try rfl)),M.mask [true,true,true,true] Z⟩
    refine Zg6 T (Zp (Zwn Z Z (T.e 0 Z) h4)) Z (fun _ T=>Zp (Zwn Z Z (T.e 1 Z) h4)) Z (fun _ T=>Zp (Zwn Z Z (T.e 2 Z) h4)) Z (fun _ T=>Zp (Zwn Z Z (T.e 3 Z) h4)) Z (fun _ T=>Zp (Zwn Z Z (T.e 4 Z) h4)) Z (fun _ T=>Zq (Zr0 Z (T.e 5 Z) h4 evc)) Z ?_;intro ac T
    refine wpList_nil ?_
    replace T:=T.pick [0,1,2,3,4,5,10,11,12,13,14,15,16,17,18,19,20,21,22,23] rfl
    exact ⟨(T.pick (E':=[(1,.slice G g.length n),(2,Zj g1),(5,Zj g2),(8,Zj g3),(9,.func (.func FAu2) #[] [].toArray),(10,Zj g4),(11,.func (.func 148) #[.agg #[.int .u64 s8.a,.int .u64 s8.b,.int .u64 s8.c,.int .u64 s8.d]] #[]),(12,Zi (a:Int)),(13,Zi (q.lo+(dn:Int))),(31,.slice P p.length pc),(32,Zi ((p.length:Nat):Int)),(33,Zi (k:Int)),(49,Zi (b.full+1)),(50,Zi (a:Int)),(65,.bool false)]) [6,7,8,9,10,11,12,13,14,15,16,17,18,19,0] Z).as (by (try rw [show (s8.has (a:Int))=false from h4]);(try rfl)),M.mask [true,true,true,true] Z⟩
   clear T M
   rintro ac wc ⟨T,M⟩
   refine wp_cond_split (T.e 14 Z) ?_ ?_
   ·intro h5
    (have h5':=h5;try simp only [Zb1,Zb2,Zb3,Zb4,Zb5,Zb6,Zb7] at h5')
    have hSa:S (a:Int)=true:=by rw [← hR.eq (a:Int) (by omega) (by omega)];simp_all
    have hm1:=secM (s:=q.sec) (q:=q.lo+(dn:Int)+s) (by omega) (by omega)
    have haf : -1000≤aft wy (a:Int) (q.sec * (q.lo+(dn:Int)+s))∧aft wy (a:Int) (q.sec * (q.lo+(dn:Int)+s))≤1000:=by unfold aft;split <;> omega
    refine Zsk ?_
    refine wp_seq ?_
    refine wp_block ?_
    refine Zsr ?_
    refine Zg8 (v3:=(Zj g3)) (v6:=(.pointer (some ⟨g1,6,none⟩))) T (Zq (Zrm Z (T.e 4 Z))) Z (Zm 8 Z Z) Z (Zf 0 5 Z Z) Z (Zo M 1 0 Z Z Z Z) Z (Zm 12 Z Z) Z (Zf 6 6 Z Z) Z (Zo M 3 0 Z Z Z Z) Z (fun _ T=>Zq (rn_add Z (T.e 2 Z) (T.e 0 Z) (by omega))) Z ?_;intro ac T
    refine lq T (rn_mul Z (T.e 4 Z) (T.e 0 Z) (by omega)) ?_;intro ac T
    refine Zl2 ?_
    refine Zod T Z Z Z Z (T.e 8 Z) (.cons (T.e 7 Z) (.cons (T.e 0 Z) .nil)) ha1u2 ha2u2 ha3u2 ?_
    refine Calls.mono (ha4u2 (a:Int) (q.sec * ((q.lo+(dn:Int))+s)) _ (by omega)) ?_
    clear T;rintro e wc ⟨rfl,hb⟩ ac T
    replace M:=M.call hb;clear hb
    refine lq T (Zra Z (T.e 0 Z)) ?_;intro ac T
    replace T:=T.pick [0,11,12,13,14,15,16,17,18,19,20,21,22,23,24] rfl
    refine Zln ?_
    refine Zsr ?_
    refine Zg4 (v2:=(Zj g1)) (v3:=(Zj g1)) T (Zq (Zrm Z (T.e 0 Z))) Z (Zf 0 3 Z Z) Z (Zf 0 0 Z Z) Z (Zo M 3 0 Z Z Z Z) Z ?_;intro ac T
    refine Zl2 ?_
    refine Zod T Z Z Z Z evf (.cons (T.e 3 Z) (.cons evc (.cons (T.e 0 Z) .nil))) Try.func76 Z Z ?_
    refine Calls.mono (bin_any (aft wy (a:Int) (q.sec * ((q.lo+(dn:Int))+s))) 0 b.full _) ?_
    clear T;rintro e wc ⟨rfl,hb⟩ ac T
    replace M:=M.call hb;clear hb
    replace T:=T.pick [0,5,6,7,8,9,10,11,12,13,14,15,16,17,18,19] rfl
    refine Zln ?_
    refine wp_cond_split (T.e 0 Z) ?_ ?_
    ·intro h6
     have hw6:=withinB_iff.1 (by simpa using h6)
     refine wp_region_lit ?_
     refine Zg2 T (Zq (Zrr (Mem.nth M 0 Z) Z (T.e 7 Z) Z)) Z (Zm 2 Z Z) Z ?_;intro ac T
     refine Zl2 ?_
     refine Zod T Z Z Z Z evf (.cons (T.e 1 Z) (.cons (T.e 0 Z) .nil)) Try.func147 Z Z ?_
     refine Calls.mono (with_any x4 (aft wy (a:Int) (q.sec * ((q.lo+(dn:Int))+s))) _ (by omega) (by omega)) ?_
     clear T;rintro e wc ⟨rfl,hb⟩ ac T
     replace M:=M.call hb;clear hb
     refine Zl2 ?_
     refine Zot M T Z Z (T.e 10 Z) (T.e 0 Z) Z .head Z Z ?_;clear M T;intro wc ac M T
     refine wpList_nil ?_
     replace T:=T.pick [5,6,7,8,9,10,11,12,13,14,15,16,17,18] rfl
     refine Znb ?_
     refine nm_then ?_
     refine wp_region_lit ?_
     refine Zg2 T (Zq (Zrm Z (T.e 8 Z))) Z (fun _ T=>Zq (rn_add Z (T.e 0 Z) evc (by omega))) Z ?_;intro ac T
     refine l_q (v:=(Zi ((q.lo+(dn:Int))+1))) (T.pick [0,1,2,3,4,5,6,7,8,9,11,12,13,14,15] Z) Z Z Z Z (Zra Z (T.e 0 Z)) ?_;intro ac T
     replace T:=T.pick [0,3,4,5,6,7,8,9,10,11,12,13,14,15] rfl
     refine Zln ?_
     rw [show q.lo+(dn:Int)+1=q.lo+((dn+1:Nat):Int) by omega] at T
     exact ⟨_,by omega,dn+1,(x4.add (aft wy (a:Int) (q.sec * ((q.lo+(dn:Int))+s)))),Z,(by omega),(by rw [show q.lo+((dn+1:Nat):Int)=q.lo+(dn:Int)+1 by omega];exact hX4.hit hSa (by omega) (by omega) hw6),T.pick [1,2,3,4,5,6,7,8,0,9,10,11,12,13] Z,M.mask [true,true,true,true] Z⟩
    intro h6
    refine wp_skip ?_
    refine Znb ?_
    refine nm_then ?_
    refine wp_region_lit ?_
    refine Zg2 T (Zq (Zrm Z (T.e 10 Z))) Z (fun _ T=>Zq (rn_add Z (T.e 0 Z) evc (by omega))) Z ?_;intro ac T
    refine l_q (v:=(Zi ((q.lo+(dn:Int))+1))) (T.pick [0,1,2,3,4,5,6,7,8,9,10,11,13,14,15,16,17] Z) Z Z Z Z (Zra Z (T.e 0 Z)) ?_;intro ac T
    replace T:=T.pick [0,5,6,7,8,9,10,11,12,13,14,15,16,17] rfl
    refine Zln ?_
    rw [show q.lo+(dn:Int)+1=q.lo+((dn+1:Nat):Int) by omega] at T
    exact ⟨_,by omega,dn+1,x4,Z,(by omega),(by rw [show q.lo+((dn+1:Nat):Int)=q.lo+(dn:Int)+1 by omega];exact hX4.miss (fun h9=>by have:=withinB_iff.2 h9;simp_all)),T.pick [1,2,3,4,5,6,7,8,0,9,10,11,12,13] Z,M.mask [true,true,true,true] Z⟩
   intro h5
   (have h5':=h5;try simp only [Zb1,Zb2,Zb3,Zb4,Zb5,Zb6,Zb7] at h5')
   refine wp_exit ?_
   refine Zet ?_
   refine Zet ?_
   refine ex_hit ?_
   refine Znb ?_
   refine nm_then ?_
   refine wp_region_lit ?_
   refine lq T (rn_add Z (T.e 13 Z) evc (by omega)) ?_;intro ac T
   refine l_q (v:=(Zi ((a:Int)+1))) (T.pick [0,1,2,3,4,5,6,7,8,9,10,11,12,13,15] Z) Z Z Z Z (Zrm Z (T.e 0 Z)) ?_;intro ac T
   replace T:=T.pick [0,2,3,4,5,6,7,8,11,12,13,14] rfl
   refine Zln ?_
   have hX9:Rep4 x4 b.full (Src wy s q S ((a:Int)+1)):=by
     rcases Zx9 (S (a:Int)) with hs9 | hs9
     · have h8:=hR.eq (a:Int) (by omega) (by omega);rw [hs9] at h8;have h7 : ¬ (q.lo+(dn:Int)≤q.hi):=(by simp_all);exact hX4.stop_all (by omega) (by omega)
     · exact hX4.stop_no hs9
   rw [show (a:Int)+1=((a+1:Nat):Int) by omega] at T hX9
   exact ⟨_,by omega,a+1,x4,Z,(by omega),hX9,T.pick [1,2,3,4,5,6,7,8,9,10,11,0] Z,M.mask [true,true,true,true] Z⟩
  intro h3
  have ha9:(a:Int)=b.full+1:=by omega
  have hR2:=(show Rep4 x b.full (Src wy s q S (b.full+1)) by rw [← ha9];exact hX).done
  refine wp_exit ?_
  refine Zet ?_
  refine Zet ?_
  refine ex_hit ?_
  refine nm_then ?_
  refine Zsr ?_
  refine lq T (Zrr (Mem.nth M 0 Z) Z (T.e 6 Z) Z) ?_;intro ac T
  refine Zl2 ?_
  refine Zot M T Z Z (T.e 4 Z) (T.e 0 Z) Z (.tail (.tail .head)) Z Z ?_;clear M T;intro wc ac M T
  refine wpList_nil ?_
  replace T:=T.pick [2,3,4,9,10,11] rfl
  replace M:=M.mask [false,false,true,true] rfl
  refine nm_then ?_
  refine Zsr ?_
  refine Zg3 (v2:=(.agg #[.int .u64 0,.int .u64 0,.int .u64 0,.int .u64 0])) (v3:=(.bool ((decide (x.a=0)) && ((decide (x.b=0)) && ((decide (x.c=0)) && (decide (x.d=0))))))) T (Zq (Zrr (Mem.nth M 0 Z) Z (T.e 2 Z) Z)) Z (fun _ T=>Zq (rn_build Z .nil (fun _=>by kernel_rfl))) Z (fun _ T=>Zq (rn_bin Z (T.e 1 Z) (T.e 0 Z) eqT156)) Z ?_;intro ac T
  replace T:=T.pick [0,3,4,5,6,7,8] rfl
  refine Zln ?_
  refine wp_cond_split (T.e 0 Z) ?_ ?_
  ·intro h7
   (have h7':=h7;try simp only [Zb1,Zb2,Zb3,Zb4,Zb5,Zb6,Zb7] at h7')
   refine Zsr ?_
   refine lq T (Zra Z evc) ?_;intro ac T
   refine wpList_nil ?_
   replace T:=T.pick [0] rfl
   replace M:=M.mask [false,false] rfl
   refine Znr ?_
   refine Zrb ?_
   refine Zrt ?_
   refine Zrt ?_
   refine Zrb ?_
   refine Zrt ?_
   refine rt_1 T Z (T.e 0 Z) ?_
   rw [hR2.none (by omega) (by simp_all) (by simp_all) (by simp_all) (by simp_all),Bool.false_and] at H
   exact ⟨ret_bool H.symm,M.below⟩
  intro h7
  (have h7':=h7;try simp only [Zb1,Zb2,Zb3,Zb4,Zb5,Zb6,Zb7] at h7')
  refine wp_skip ?_
  refine Znb ?_
  refine nm_then ?_
  refine wp_region_lit ?_
  refine lq T (rn_add Z (T.e 6 Z) evc (by omega)) ?_;intro ac T
  refine l_q (v:=(Zi ((k:Int)+1))) (T.pick [0,1,2,3,4,5,6] Z) Z Z Z Z (Zrm Z (T.e 0 Z)) ?_;intro ac T
  replace T:=T.pick [0,3,4,5,6,7] rfl
  refine Zln ?_
  rw [hR2.some (fun h9=>by simp_all),Bool.true_and] at H
  exact ⟨_,by omega,k+1,x,(nxB b.full wy s q S),Z,(by omega),hR2,H,T.pick [1,2,3,4,5,0] Z,M.mask [true,true] Z⟩
 intro h2
 rw [List.drop_of_length_le (l:=p) (by omega),canF_nil] at H
 refine wp_exit ?_
 refine Zet ?_
 refine Zet ?_
 refine ex_hit ?_
 refine nm_then ?_
 refine Zsr ?_
 refine lq T (Zra Z evc) ?_;intro ac T
 refine wpList_nil ?_
 replace T:=T.pick [0] rfl
 replace M:=M.mask [false,false] rfl
 refine Znr ?_
 refine rt_1 T Z (T.e 0 Z) ?_
 exact ⟨ret_bool H.symm,M.below⟩
theorem maybe1_any (b:Bw) (A:Option Addr) (c:Nat) (D:Option Addr) (d:Nat) (p:List Nt) (P:Option Addr) (pc:Nat) (s:Int) (G:Option Addr) (n:Nat) (g:List Int) (gw:Nat)  (w:World) (hP9:Rd w w.heap.size 4 P p.length (ntc p)) (hG:Rd w w.heap.size 1 G g.length (ic g)) (hgp:NtGood p) (hgb:BwAir b) (hs:0≤s∧s≤20) (hgl:g.length=p.length) (q1:Bk w gw #[.slice G g.length n])  :
  Calls Try.prog 136 #[.agg #[Zi b.full,Zi b.a0,Zi b.a1,.slice A b.cs.length c,.slice D b.ts.length d,.slice P p.length pc,Zi s],Zj gw] w fun e w'=>e=.returned (.bool (canB b p g s))∧Below w.heap.size w w':=by
 obtain ⟨bP,oP,SP⟩:=Sp.old hP9
 obtain ⟨bG,oG,SG⟩:=Sp.old hG
 refine Zpx noEx Try.func136 Z 7 Z [.agg #[Zi b.full,Zi b.a0,Zi b.a1,.slice A b.cs.length c,.slice D b.ts.length d,.slice P p.length pc,Zi s],Zj gw] Z Z (Mem.init w _) ?_
 intro ac wc T M
 refine Zsr ?_
 refine Zl2 ?_
 refine Zob M T Z Z Z Z (T.e 0 Z) Z ?_;clear M T;intro g1 wc ac M T
 refine lq T (Zra Z evc) ?_;intro ac T
 replace T:=T.pick [1,3] rfl
 refine Zln ?_
 refine Zsr ?_
 refine Zg2 T (Zq (Zrr (Mem.nth M 0 Z) Z (T.e 0 Z) Z)) Z (fun _ T=>Zq (Zro (Mem.old M q1 (fun h=>h)) Z (T.e 2 Z) Z)) Z ?_;intro ac T
 refine Zl2 ?_
 refine Zod T Z Z Z Z evf (.cons (T.e 1 Z) (.cons (T.e 0 Z) .nil)) Try.func137 Z Z ?_
 refine Calls.mono (can_any b A c D d p P pc s G n g _ (SP.rd M (Zz9 _)) (SG.rd M (Zz9 _)) hgp hgb (by omega) hgl) ?_
 clear T;rintro e wc ⟨rfl,hb⟩ ac T
 replace M:=M.call hb;clear hb
 refine lq T (Zra Z (T.e 0 Z)) ?_;intro ac T
 refine wpList_nil ?_
 replace T:=T.pick [0] rfl
 replace M:=M.mask [false] rfl
 refine Znr ?_
 refine rt_1 T Z (T.e 0 Z) ?_
 exact ⟨rfl,M.below⟩
theorem hop_any {b:Bw} {A:Option Addr} {c:Nat} {D:Option Addr} {d:Nat} {P:Option Addr} {pc:Nat} {p:List Nt} {g:List Int} (ss:List Int):((ss.map (mkP b A c D d P pc p)).any fun x=>canB x.b x.l g x.s)=hopB b p ss g:=by
 unfold hopB
 rw [List.any_map]
 rfl
theorem maybe_any (b:Bw) (A:Option Addr) (c:Nat) (D:Option Addr) (d:Nat) (p:List Nt) (P:Option Addr) (pc:Nat) (ss:List Int) (B:Option Addr) (lc:Nat) (G:Option Addr) (n:Nat) (g:List Int)  (w:World) (hP9:Rd w w.heap.size 4 P p.length (ntc p)) (hG:Rd w w.heap.size 1 G g.length (ic g)) (hL:Rd w w.heap.size 7 B ss.length (pdc (ss.map (mkP b A c D d P pc p)))) (nL:ss.length≤1000000) (hgp:NtGood p) (hgb:BwAir b) (hss:∀ s∈ss,0≤s∧s≤20) (hgl:g.length=p.length)  :
  Calls Try.prog 96 #[.slice B ss.length lc,.slice G g.length n] w fun e w'=>e=.returned (.bool (hopB b p ss g))∧Below w.heap.size w w':=by
 obtain ⟨bP,oP,SP⟩:=Sp.old hP9
 obtain ⟨bG,oG,SG⟩:=Sp.old hG
 obtain ⟨bL,oL,SL⟩:=Sp.old hL
 refine Zpx noEx Try.func96 Z 8 Z [.slice B ss.length lc,.slice G g.length n] Z Z (Mem.init w _) ?_
 intro ac wc T M
 refine Zsr ?_
 refine Zl2 ?_
 refine Zob M T Z Z Z Z (T.e 1 Z) Z ?_;clear M T;intro g1 wc ac M T
 refine lq T (Zra Z evc) ?_;intro ac T
 replace T:=T.pick [1,2] rfl
 refine Zln ?_
 refine Zsr ?_
 refine Zg2 (v2:=(.func (.func 136) #[] #[Zj g1])) T (Zq (Zrm Z (T.e 1 Z))) Z (fun _ T=>Zq (rn_makeFunc Z .nil (.cons (T.e 1 Z) .nil))) Z ?_;intro ac T
 refine Zl2 ?_
 obtain ⟨l9,hl9⟩:∃ q,q=ss.map (mkP b A c D d P pc p):=⟨_,rfl⟩
 have hL9:=SL.rd M (Zz9 _)
 rw [← hl9,show ss.length=l9.length by rw [hl9,List.length_map]] at hL9
 rw [show ss.length=l9.length by rw [hl9,List.length_map]] at T
 have q9:=M.nth 0 rfl
 have hP8:=SP.rd M (Zz9 _)
 have hG8:=SG.rd M (Zz9 _)
 refine Zod T Z Z Z Z evf (.cons (T.e 1 Z) (.cons (T.e 0 Z) .nil)) Try.func128 Z Z ?_
 refine Calls.mono (containsF_any 136 _ [Zj g1] (fun x=>canB x.b x.l g x.s) l9 B lc _ hL9 (by rw [hl9,List.length_map];exact nL) Try.func136 rfl rfl (fun x hx w1 hb1=>by rw [hl9] at hx;obtain ⟨s,hs9,rfl⟩:=List.mem_map.1 hx;exact maybe1_any b A c D d p P pc s G n g g1 w1 ((hP8.below hb1).more hb1.size) ((hG8.below hb1).more hb1.size) hgp hgb (hss s hs9) hgl (q9.below hb1))) ?_
 clear T;rintro e wc ⟨rfl,hb⟩ ac T
 replace M:=M.call hb;clear hb
 refine lq T (Zra Z (T.e 0 Z)) ?_;intro ac T
 refine wpList_nil ?_
 replace T:=T.pick [0] rfl
 replace M:=M.mask [false] rfl
 refine Znr ?_
 refine rt_1 T Z (T.e 0 Z) ?_
 refine ⟨ret_bool ?_,M.below⟩
 rw [hl9]
 exact hop_any ss
def plaV (b:Bw) (p:List Nt) (g:List Int):Int:=if lvlE b p g≠0 then 0 else if alwB b p (sums0 b) g then 1 else if hopB b p (sums0 b) g then 3 else 2
set_option maxHeartbeats 4000000 in
theorem Plays_any {J:Nat→Option Obj} (hP:FuncsOk Try.prog) (b:Bw) (A:Option Addr) (c:Nat) (D:Option Addr) (d:Nat) (p:List Nt) (P:Option Addr) (pc:Nat) (G:Option Addr) (n:Nat) (g:List Int)  (w:World) (hA:Rd w w.heap.size 2 A b.cs.length (rc b.cs)) (hD:Rd w w.heap.size 4 D b.ts.length (lkc b.ts)) (hop:∀ t∈b.ts,Rd w w.heap.size 1 t.A t.op.length (ic t.op)) (nA:b.cs.length≤1000) (nD:b.ts.length≤1000) (nop:∀ t∈b.ts,t.op.length≤1000) (hP9:Rd w w.heap.size 4 P p.length (ntc p)) (nP:p.length≤1000) (hG:Rd w w.heap.size 1 G g.length (ic g)) (nG:g.length≤1000)  :
   CallsB Try.prog J 38 #[.agg #[Zi b.full,Zi b.a0,Zi b.a1,.slice A b.cs.length c,.slice D b.ts.length d],.slice P p.length pc,.slice G g.length n] w fun e w'=>e=.returned (.tuple #[Zi (plaV b p g),Zi (lvlE b p g)])∧Below w.heap.size w w':=by
 obtain ⟨bA,oA,SA⟩:=Sp.old hA
 obtain ⟨bD,oD,SD⟩:=Sp.old hD
 obtain ⟨bP,oP,SP⟩:=Sp.old hP9
 obtain ⟨bG,oG,SG⟩:=Sp.old hG
 refine px_enterB hP noEx Try.func38 Z 37 Z [.agg #[Zi b.full,Zi b.a0,Zi b.a1,.slice A b.cs.length c,.slice D b.ts.length d],.slice P p.length pc,.slice G g.length n] Z Z (Mem.init w _) ?_
 intro ac wc T M
 refine wpB_seq hP ?_
 refine b_lone hP w fun T9=>?_
 replace M:=M.tp T9 0 0
 replace SA:=SA.tp T9 0
 replace SD:=SD.tp T9 0
 replace SG:=SG.tp T9 0
 replace SP:=SP.tp T9 0
 refine wp_region_lit ?_
 refine Zl2 ?_
 refine Zob M T Z Z Z Z (T.e 0 Z) Z ?_;clear M T;intro g1 wc ac M T
 refine Zg2 T (Zq (Zra Z evc)) Z (Zc Z) Z ?_;intro ac T
 refine wpList_nil ?_
 refine nqR_n M ?_;clear M;intro wc M
 replace SA:=SA.pt
 replace SD:=SD.pt
 replace SG:=SG.pt
 replace SP:=SP.pt
 replace T:=T.pick [2,4,5] rfl
 refine nm_then ?_
 refine wpB_seq hP ?_
 refine gB_start2 hP M (M.mask [true] Z) 13 (by kernel_rfl) Z (by kernel_rfl) ?_
 clear M;intro wc M
 refine gB_q (T:=T) (i:=0) Z (by kernel_rfl) (by kernel_rfl:(Zpb 13 0).setIfInBounds 0 true=Zpb 13 1) (fun _=>si_U) Z Z Z Z (fun T9 B w' hD hl hS=>(Zrr (Mem.nth (show Mem (Bq.tp w T9 0) noEx w' _ from hS) 0 Z) Z (T.e 0 Z) Z)) ?_;intro ac T
 refine gB_q (T:=T) (i:=1) Z (by kernel_rfl) (by kernel_rfl:(Zpb 13 1).setIfInBounds 1 true=Zpb 13 3) (fun _=>si_U) Z Z Z Z (fun _ _ _ _ _ _=>(Zrm Z (T.e 2 Z))) ?_;intro ac T
 refine gB_q (T:=T) (i:=3) Z (by kernel_rfl) (by kernel_rfl:(Zpb 13 3).setIfInBounds 3 true=Zpb 13 11) (fun _=>si_U) Z Z Z Z (fun _ _ _ _ _ _=>(Zrm Z (T.e 3 Z))) ?_;intro ac T
 refine gB_q (T:=T) (i:=4) Z (by kernel_rfl) (by kernel_rfl:(Zpb 13 11).setIfInBounds 4 true=Zpb 13 27) (fun _=>si_U) Z Z Z Z (fun _ _ _ _ _ _=>(Zrm Z (T.e 5 Z))) ?_;intro ac T
 refine gB_w (i:=2) (by kernel_rfl) Z (by kernel_rfl:(Zpb 13 27).setIfInBounds 2 true=Zpb 13 31) Z ?_;intro T9 K hK
 replace M:=M.tp T9 0 0
 replace SA:=SA.tp T9 0
 replace SD:=SD.tp T9 0
 replace SG:=SG.tp T9 0
 replace SP:=SP.tp T9 0
 refine Zod T Z Z Z Z evf (.cons (T.e 2 Z) .nil) Try.func40 Z Z ?_
 refine Calls.mono (piece_any p P pc _ (SP.rd M (Zz9 _)) (by omega)) ?_
 clear T;rintro e wc ⟨rfl,hb⟩ ac T
 replace M:=M.call hb;clear hb
 refine gB_out hK M ?_;clear hK K M;intro wc M
 replace SA:=SA.pt
 replace SD:=SD.pt
 replace SG:=SG.pt
 replace SP:=SP.pt
 refine ⟨(M.mask [true] Z),?_⟩
 refine gB_w (i:=5) (by kernel_rfl) Z (by kernel_rfl:(Zpb 13 31).setIfInBounds 5 true=Zpb 13 63) Z ?_;intro T9 K hK
 replace M:=M.tp T9 0 0
 replace SA:=SA.tp T9 0
 replace SD:=SD.tp T9 0
 replace SG:=SG.tp T9 0
 replace SP:=SP.tp T9 0
 refine Zod T Z Z Z Z evf (.cons (T.e 2 Z) (.cons (T.e 1 Z) .nil)) Try.func91 Z Z ?_
 refine Calls.mono (checkWays_any p P pc G n g _ (SP.rd M (Zz9 _)) (by omega) (SG.rd M (Zz9 _)) (by omega)) ?_
 clear T;rintro e wc ⟨rfl,hb⟩ ac T
 replace M:=M.call hb;clear hb
 refine gB_out hK M ?_;clear hK K M;intro wc M
 replace SA:=SA.pt
 replace SD:=SD.pt
 replace SG:=SG.pt
 replace SP:=SP.pt
 refine ⟨(M.mask [true] Z),?_⟩
 refine gB_w (i:=6) (by kernel_rfl) Z (by kernel_rfl:(Zpb 13 63).setIfInBounds 6 true=Zpb 13 127) Z ?_;intro T9 K hK
 replace M:=M.tp T9 0 0
 replace SA:=SA.tp T9 0
 replace SD:=SD.tp T9 0
 replace SG:=SG.tp T9 0
 replace SP:=SP.tp T9 0
 refine ow_bs (e:=39) [Zi (pieceE p),Zi (waysE p g)] M T Z Z Z Z (.cons (T.e 1 Z) (.cons (T.e 0 Z) .nil)) (fun _=>by kernel_rfl) ?_;clear M T;intro g2 wc ac M T
 refine gB_out hK M ?_;clear hK K M;intro wc M
 replace SA:=SA.pt
 replace SD:=SD.pt
 replace SG:=SG.pt
 replace SP:=SP.pt
 refine ⟨(M.mask [false,true] Z),?_⟩
 refine gB_one (i:=7) (by kernel_rfl) (by kernel_rfl:(Zpb 13 127).setIfInBounds 7 true=Zpb 13 255) (opB_call (first:=[]) (cap:=[]) T Z Z Z Z Z evf (.cons (T.e 6 Z) (.cons (T.e 0 Z) .nil)) Try.func77 Z Z (known_any hP b A c D d (some ⟨g2,0,none⟩) 2 [(pieceE p),(waysE p g)] _ (SA.rd M (Zz9 _)) (SD.rd M (Zz9 _)) (fun t ht=>M.rd (hop t ht) (Nat.le_refl _)) nA nD nop (M.rdOwn (Zne (i:=0) Z) Z Z) (by first | omega | simp)) ?_ Z)
 clear T
 rintro e wc ⟨Akur1_7,ckur1_7,Ikur1_7,rfl,hckur1_7,N⟩
 refine ⟨_,Z,?_⟩
 intro ac T
 obtain ⟨lkur1_7,hlkur1_7⟩:∃ q,q=knownL b [(pieceE p),(waysE p g)]:=⟨_,rfl⟩
 obtain ⟨ekur1_7,hekur1_7⟩:∃ q,q=knownE b [(pieceE p),(waysE p g)]:=⟨_,rfl⟩
 rw [← hlkur1_7] at hckur1_7 T
 rw [← hekur1_7] at T
 obtain ⟨bkur1_7,okur1_7,hSkur1_7⟩:=hckur1_7.spV (l4c_length _)
 have SLkur1_7:=hSkur1_7 w noEx
 clear hSkur1_7
 replace M:=(M.join N).swapI
 clear N
 replace M:Mem w noEx wc ((g2,.cells [Zi (pieceE p),Zi (waysE p g)])::(g1,.cells [Zi b.full,Zi b.a0,Zi b.a1,.slice A b.cs.length c,.slice D b.ts.length d])::Ikur1_7):=M
 refine ⟨(M.perm [1] Z Z),?_⟩
 refine gB_q (T:=T) (i:=8) Z (by kernel_rfl) (by kernel_rfl:(Zpb 13 255).setIfInBounds 8 true=Zpb 13 511) (fun _=>si_U) Z Z Z Z (fun _ _ _ _ _ _=>(Zrm Z (T.e 0 Z))) ?_;intro ac T
 refine gB_q (T:=T) (i:=9) Z (by kernel_rfl) (by kernel_rfl:(Zpb 13 511).setIfInBounds 9 true=Zpb 13 1023) (fun _=>si_U) Z Z Z Z (fun _ _ _ _ _ _=>(Zre Z (T.e 0 Z) Z)) ?_;intro ac T
 refine gB_q (T:=T) (i:=10) Z (by kernel_rfl) (by kernel_rfl:(Zpb 13 1023).setIfInBounds 10 true=Zpb 13 2047) (fun _=>si_U) Z Z Z Z (fun _ _ _ _ _ _=>(Zre Z (T.e 1 Z) Z)) ?_;intro ac T
 refine gB_q (T:=T) (i:=11) Z (by kernel_rfl) (by kernel_rfl:(Zpb 13 2047).setIfInBounds 11 true=Zpb 13 4095) (fun _=>si_U) Z Z Z Z (fun _ _ _ _ _ _=>(Zra Z (T.e 1 Z))) ?_;intro ac T
 refine gB_q (T:=T) (i:=12) Z (by kernel_rfl) (by kernel_rfl:(Zpb 13 4095).setIfInBounds 12 true=Zpb 13 8191) (fun _=>si_U) Z Z Z Z (fun _ _ _ _ _ _=>(Zra Z (T.e 1 Z))) ?_;intro ac T
 refine gB_done (by kernel_rfl) M ?_;clear M;intro wc M
 replace T:=T.pick [0,1,13,14,15] rfl
 replace M:=M.mask [false,true] rfl
 refine nm_then ?_
 refine b_lone hP w fun T9=>?_
 replace M:=M.tp T9 0 0
 replace SA:=SA.tp T9 0
 replace SD:=SD.tp T9 0
 replace SG:=SG.tp T9 0
 replace SLkur1_7:=SLkur1_7.tp T9 0
 replace SP:=SP.tp T9 0
 generalize hw9:Bq.tp w T9 0=w at M SA SD SG SLkur1_7 SP
 generalize Bq.tp wc T9 0=wc at M ⊢
 refine wp_seq ?_
 refine Zsr ?_
 refine Zg2 T (Zq (Zrm Z (T.e 0 Z))) Z (fun _ T=>Zq (rn_neq Z (T.e 0 Z) evc)) Z ?_;intro ac T
 replace T:=T.pick [0,2,3,4,5,6] rfl
 refine Zln ?_
 refine wp_ifn (T.e 0 Z) ?_ ?_
 ·intro h1
  refine Zsr ?_
  refine Zg3 T (Zq (Zrm Z (T.e 1 Z))) Z (Zc Z) Z (Za 1 Z Z) Z ?_;intro ac T
  refine wpList_nil ?_
  replace T:=T.pick [0,1] rfl
  replace M:=M.mask [false] rfl
  refine Znr ?_
  refine Zrt ?_
  subst hw9
  refine nqR_r M ?_;clear M;intro wc M
  refine rt_2 T Z (T.e 1 Z) (T.e 0 Z) ?_
  have hke:lvlE b p g≠0:=by unfold lvlE;rw [← hekur1_7];omega
  have e9:plaV b p g=0∧lvlE b p g=ekur1_7:=⟨by unfold plaV;rw [if_pos hke],hekur1_7.symm⟩
  rw [e9.1,e9.2]
  exact ⟨rfl,M.below⟩
 intro h1
 have hke:knownE b [pieceE p,waysE p g]=0:=by rw [← hekur1_7];omega
 obtain ⟨hgood,hf9,hlt,hl4,hlp,hln⟩:=known_ok nop hke
 rw [← hlkur1_7] at hlt hl4 hlp hln
 obtain ⟨hpe,hwe9⟩:=first2 hf9
 have hgp:=pieceE_good hpe
 have hgb:=hgood.airs
 have h4:=hgood.n4
 have hgl:=waysE_len hwe9
 refine Zsk ?_
 refine Zsr ?_
 refine Zg3 T (Zq (Zrr (Mem.nth M 0 Z) Z (T.e 3 Z) Z)) Z (Zm 3 Z Z) Z (Zm 6 Z Z) Z ?_;intro ac T
 refine Zl2 ?_
 refine Zod T Z Z Z Z evf (.cons (T.e 2 Z) (.cons (T.e 1 Z) (.cons (T.e 0 Z) (.cons evc .nil)))) Try.func85 Z Z ?_
 refine Calls.mono (playedBy_any b A c D d lkur1_7 Akur1_7 ckur1_7 p P pc none 0 [] _ (SLkur1_7.rd M (.cons _ (List.Sublist.refl _))) (by omega) hl4 h4 (⟨by simp [ic],fun h=>absurd h (by simp)⟩) (by first | omega | simp)) ?_
 clear T;rintro e wc ⟨Apu3,cpu3,Ipu3,rfl,hclu3,N⟩ ac T
 obtain ⟨svu3,hsvu3⟩:∃ q,q=sumsB (cornL b.cs.length []) lkur1_7:=⟨_,rfl⟩
 rw [← hsvu3] at hclu3 T
 have hssvu3:∀ s∈svu3,0≤s∧s≤20:=by rw [hsvu3];exact sums_bd hl4 h4
 have hnsvu3:svu3.length≤lkur1_7.length:=by rw [hsvu3];exact sumsB_len _
 obtain ⟨bpu3,opu3,Spu3⟩:=hclu3.spV (by rw [pdc_length,List.length_map])
 replace Spu3:=Spu3 w noEx
 replace M:=(M.join N).swapI
 clear N
 replace M:Mem w noEx wc ((g1,.cells [Zi b.full,Zi b.a0,Zi b.a1,.slice A b.cs.length c,.slice D b.ts.length d])::(Ikur1_7++Ipu3)):=M
 refine lq T (Zra Z (T.e 0 Z)) ?_;intro ac T
 refine wpList_nil ?_
 replace T:=T.pick [0,10] rfl
 replace M:=M.mask [false] rfl
 refine Zns ?_
 refine wp_block ?_
 refine Zsr ?_
 refine Zg2 T (Zq (Zrm Z (T.e 0 Z))) Z (Zm 2 Z Z) Z ?_;intro ac T
 refine Zl2 ?_
 refine Zod T Z Z Z Z evf (.cons (T.e 1 Z) (.cons (T.e 0 Z) .nil)) Try.func87 Z Z ?_
 refine Calls.mono (always_any b A c D d p P pc svu3 Apu3 cpu3 G n g _ (SP.rd M (Zz9 _)) (SG.rd M (Zz9 _)) (Spu3.rd M (Zsq _ _)) (by omega) hgp hgb hssvu3 hgl) ?_
 clear T;rintro e wc ⟨rfl,hb⟩ ac T
 replace M:=M.call hb;clear hb
 refine lq T (Zra Z (T.e 0 Z)) ?_;intro ac T
 replace T:=T.pick [0,4,5] rfl
 refine Zln ?_
 refine wp_cond_split (T.e 0 Z) ?_ ?_
 ·intro h2
  refine Zsr ?_
  refine Zg2 T (Zq (Zra Z evc)) Z (Zc Z) Z ?_;intro ac T
  replace T:=T.pick [0,1] rfl
  refine Zln ?_
  refine wp_ret ?_
  refine Zrb ?_
  refine Zrt ?_
  subst hw9
  refine nqR_r M ?_;clear M;intro wc M
  refine rt_2 T Z (T.e 1 Z) (T.e 0 Z) ?_
  have e8:lvlE b p g=0:=hke
  have hss9:svu3=sums0 b:=by rw [hsvu3,hlt];rfl
  skip
  have e9:plaV b p g=1:=by unfold plaV;rw [if_neg (by omega),← hss9,if_pos h2]
  rw [e8,e9]
  exact ⟨rfl,M.below⟩
 intro h2
 refine Zsr ?_
 refine Zg2 T (Zq (Zrm Z (T.e 1 Z))) Z (Zm 3 Z Z) Z ?_;intro ac T
 refine Zl2 ?_
 refine Zod T Z Z Z Z evf (.cons (T.e 1 Z) (.cons (T.e 0 Z) .nil)) Try.func96 Z Z ?_
 refine Calls.mono (maybe_any b A c D d p P pc svu3 Apu3 cpu3 G n g _ (SP.rd M (Zz9 _)) (SG.rd M (Zz9 _)) (Spu3.rd M (Zsq _ _)) (by omega) hgp hgb hssvu3 hgl) ?_
 clear T;rintro e wc ⟨rfl,hb⟩ ac T
 replace M:=M.call hb;clear hb
 refine lq T (Zra Z (T.e 0 Z)) ?_;intro ac T
 replace T:=T.pick [0] rfl
 refine Zln ?_
 refine wp_cond_split (T.e 0 Z) ?_ ?_
 ·intro h3
  refine Zsr ?_
  refine Zg2 T (Zq (Zra Z evc)) Z (Zc Z) Z ?_;intro ac T
  replace T:=T.pick [0,1] rfl
  refine Zln ?_
  refine wp_ret ?_
  refine Zrb ?_
  refine Zrt ?_
  subst hw9
  refine nqR_r M ?_;clear M;intro wc M
  refine rt_2 T Z (T.e 1 Z) (T.e 0 Z) ?_
  have e8:lvlE b p g=0:=hke
  have hss9:svu3=sums0 b:=by rw [hsvu3,hlt];rfl
  skip
  have e9:plaV b p g=3:=by unfold plaV;rw [if_neg (by omega),← hss9,if_neg (by rw [h2];simp),if_pos h3]
  rw [e8,e9]
  exact ⟨rfl,M.below⟩
 intro h3
 refine wp_skip ?_
 refine Znb ?_
 refine nm_then ?_
 refine Zsr ?_
 refine Zg2 T (Zq (Zra Z evc)) Z (Zc Z) Z ?_;intro ac T
 replace T:=T.pick [0,1] rfl
 refine Zln ?_
 refine wp_ret ?_
 subst hw9
 refine nqR_r M ?_;clear M;intro wc M
 refine rt_2 T Z (T.e 1 Z) (T.e 0 Z) ?_
 have e8:lvlE b p g=0:=hke
 have hss9:svu3=sums0 b:=by rw [hsvu3,hlt];rfl
 skip
 have e9:plaV b p g=2:=by unfold plaV;rw [if_neg (by omega),← hss9,if_neg (by rw [h2];simp),if_neg (by rw [h3];simp)]
 rw [e8,e9]
 exact ⟨rfl,M.below⟩
end
def lastO (b:List Int):Option Int:=if b.length=0 then none else some (b.getD (b.length - 1) 0)
theorem wyE_steps {p:List Nt}:∀ (r b:List Int),stepsOk p b r→b.length+r.length=p.length→wyE (p.drop b.length) r (lastO b)=0
 | [],b,_,_=>by
  cases p.drop b.length <;> rfl
 | w::r,b,h,hl=>by
  simp only [Zx1] at hl
  have hb:b.length < p.length:=by omega
  rw [List.drop_eq_getElem_cons hb]
  unfold wyE
  have hw:withinB w 1 2=true:=withinB_iff.2 (by have:=h.1;omega)
  have ih:=wyE_steps r (b++[w]) h.2.2 (by rw [Zx3,List.length_singleton];omega)
  rw [Zx3,List.length_singleton,show lastO (b++[w])=some w by
   unfold lastO
   rw [Zx3,List.length_singleton,if_neg (by omega),List.getD_eq_getElem?_getD,show b.length+1 - 1=b.length by omega,List.getElem?_append_right (Nat.le_refl _),Nat.sub_self]
   rfl] at ih
  rw [hw,if_neg (by simp),if_neg]
  ·exact ih
  ·rintro ⟨⟨h1,h2⟩,h3⟩
   have h4:=h.2.1
   unfold stepW at h4
   rw [List.getD_eq_getElem?_getD,List.getElem?_eq_getElem hb] at h4
   unfold lastO at h1 h2
   by_cases h5:b.length=0
   ·rw [if_pos h5] at h1;cases h1
   ·rw [if_neg h5] at h2
    have h6:(p[b.length]).rest=true∨w=b.getD (b.length - 1) 0:=by simpa [h5] using h4
    rcases h6 with h6 | h6
    ·rw [h6] at h3;cases h3
    ·exact h2 (by rw [h6])
theorem WayOk.err {p:List Nt} {g:List Int} (h:WayOk p g):waysE p g=0:=by
 unfold waysE
 rw [if_neg (by have:=h.len;omega),if_neg (by have:=h.len;omega)]
 have:=wyE_steps g [] h.ok (by simpa using h.len)
 simpa [lastO] using this
theorem BwTrue.lvl {b:Bw} {gl:List Int} {air:Int} {p:List Nt} {g:List Int} (hb:BwTrue b gl air) (h4:gl.length≤4) (h3:b.ts.length≤3) (hp:NtGood p) (hw:WayOk p g):lvlE b p g=0 :=
 hb.known h4 h3 fun e he=>by
  rcases Zx7.1 he with rfl | he
  ·exact pieceE_of hp
  ·rw [List.mem_singleton.1 he];exact hw.err
theorem sums_pos {b:Bw} {el:List Int} (h:knownE b el=0):sums0 b≠[]:=by
 unfold knownE at h
 split at h
 ·rename_i h1;exact absurd h h1
 ·split at h
  ·rename_i h2;exact absurd h h2
  ·split at h
   ·cases h
   ·rename_i h3
    intro h4
    have h5:0 < (truthsL b).length:=by unfold truthsL;rw [List.length_map];omega
    obtain ⟨x,hx⟩:=List.exists_mem_of_length_pos h5
    have h6:totL x.l (cornL b.cs.length [])∈sums0 b:=sumsB_mem.2 ⟨x,hx,rfl⟩
    rw [h4] at h6
    cases h6
theorem lvlL_of {b:Bw} {p:List Nt} {g:List Int} (h:lvlE b p g=0):lvlL b p g=levF (fun s=>levs s (b.a0,b.a1) p g) (sums0 b):=by
 unfold lvlL
 rw [if_neg (by omega)]
theorem plaV_of {b:Bw} {p:List Nt} {g:List Int} (h:lvlE b p g=0):plaV b p g=if alwB b p (sums0 b) g then 1 else if hopB b p (sums0 b) g then 3 else 2:=by
 unfold plaV
 rw [if_neg (by omega)]
section
open Go.RowKit Go.Proofs.Ytoheddpnnjldgaa.Bq
end
end Go.Proofs.Ytoheddpnnjldgaa


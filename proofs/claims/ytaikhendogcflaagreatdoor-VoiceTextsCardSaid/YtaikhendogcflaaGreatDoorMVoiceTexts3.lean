/-
  Walks of functions,and plain laws (texts put together). No condition.
-/
import Derived.RangeFuncNested
import Derived.RangeFuncBound
import Derived.RangeFuncCalls
import Derived.RangeFuncLeaves
import Derived.Shelf.Abstract
import Derived.Shelf.RegionOpen
import Derived.OwnWalkIn
import Derived.TacticsInMore
import Derived.LoopNIn
import Derived.LoopIn
import Derived.Test.YtaikhendogcflaaGreatDoorMVoiceTexts1
import Derived.Test.YtaikhendogcflaaGreatDoorMVoiceTexts2
set_option maxRecDepth 100000
set_option maxHeartbeats 1000000
set_option linter.unusedSimpArgs false
set_option linter.unusedVariables false
namespace Go.Proofs.YtaikhendogcflaaGreatDoor
open Go.Proofs.Tryz
open Go.RowKit
theorem Tryz.info31:(prog.info? 31).map (fun i=>(i.zero,i.size,i.bytes))=some (some (.slice none 0 0),1,24):=by kernel_rfl
def Els (LL:List LE) (I:List (Nat×BA)):Prop:=∀ x∈LL,∃ b o,∀ (w:World) (ex:Nat→Prop),Sp w ex I x.2.1 x.1.length 1 b o (ic x.1)
theorem Els.mono {LL:List LE} {I I':List (Nat×BA)} (h:Els LL I) (hs:I.Sublist I'):Els LL I':=fun x hx=>by
 obtain ⟨b,o,h1⟩:=h x hx
 exact ⟨b,o,fun w ex=>(h1 w ex).mono hs⟩
theorem Els.snoc {LL:List LE} {I:List (Nat×BA)} (h:Els LL I) (l:List Int) (g c:Nat) (ys:List Value):Els (LL++[(l,some ⟨g,0,none⟩,c)]) (I++[(g,.cells (ic l++ys))]):=fun x hx=>by
 rcases List.mem_append.1 hx with hx | hx
 ·exact h.mono (Zsl _ _) x hx
 ·simp only [Zx7,Zx8,or_false] at hx
  subst hx
  exact ⟨g,0,fun w ex=>(Sp.pre (by simp [ic_length])).mono (Zsq _ _)⟩
theorem lc_snoc (l:List LE) (x:List Int) (B:Option Addr) (c:Nat):lc l++[.slice B x.length c]=lc (l++[(x,B,c)]):=by simp [lc]
theorem Mem.as {w0 w:World} {ex:Nat→Prop} {L L':List (Nat×BA)} (M:Mem w0 ex w L) (h:L=L'):Mem w0 ex w L':=h ▸ M
theorem take_set {l R:List Int} {q:Nat} {v:Int} (h:l.take q=R.take q) (hR:R[q]? = some v) (hq:q < l.length):(l.set q v).take (q+1)=R.take (q+1):=by
 rw [List.take_add_one,List.take_add_one,hR,List.take_set_of_le (Nat.le_refl _),h,List.getElem?_set_self hq]
section
variable {P:Program} {op:Oper} {a:Act} {K:Act→World→Prop} {Q:Exit→Act→World→Prop} {w0 w:World} {ex:Nat→Prop} {L:List (Nat×BA)} {E:List (Nat×Value)} {df:List Deferred} {t n:Nat}
theorem madeCells_ic (m:Nat):madeCells (Value.cells (Zi 0)) (m * 1)=(ic (List.replicate m 0)++[]).toArray:=by
 apply Array.ext
 ·simp [madeCells,ic]
 ·intro i h1 h2
  simp [madeCells,ic,Value.cells,Nat.mod_one]
theorem ow_ms {ty e m:Nat} {x y:Operand} (M:Mem w0 ex w L) (T:TmD df a n E) (ho:op.op=.makeSlice ty x y) (hd:op.dst=some t) (hf:freshE E t=true) (hn:Nat.blt t n=true) (hx:a.eval x=Zi (m:Int)) (hy:a.eval y=Zi (m:Int))
  (ht:P.underlying ty=some (.slice e)) (hinfo:(P.info? e).map (fun i=>(i.zero,i.size,i.bytes))=some (some (Zi 0),1,8)) (hm:m≤1000000)
  (h:∀ g w' a',Mem w0 ex w' ((g,.cells (ic (List.replicate m 0)++[]))::L)→TmD df a' n ((t,.slice (some ⟨g,0,none⟩) m m)::E)→K a' w'):op.wp P a w K Q:=by
 obtain ⟨i,hi,hz,hs,hb⟩:=info_parts hinfo
 have hr:=run_makeSlice (P:=P) w ty e i _ ht hi hz .i64 .i64 (m:Int) (m:Int) (by omega) (Int.le_refl _) (by rw [hs];omega) (by rw [hb];omega) (by omega)
 rw [hs,Int.toNat_natCast,madeCells_ic] at hr
 unfold Oper.wp execOp
 simp only [ho,hx,hy,hr,Sem.run_bind,Result.andThen_ok,Sem.run_pure]
 rw [Oper.upon_value,hd]
 exact h _ _ _ (M.new _ _) (T.put hn hf _)
end
def ListsPost (R:List (List Int)) (w:World) (e:Ending) (w':World):Prop:=∃ (A:Option Addr) (c:Nat) (LL:List LE) (I:List (Nat×BA)),e=.returned (.slice A LL.length c)∧LL.map (·.1)=R∧(∃ b o,∀ (w:World) (ex:Nat→Prop),Sp w ex I A LL.length 1 b o (lc LL))∧Els LL I∧Mem w noEx w' I
theorem rowP_length (b:Bx) (x:Snd):(rowP b x).length=b.highs.length:=by simp [rowP]
theorem take_row {b:Bx} {k:Nat} {x:Snd} (h:b.lows[k]? = some x):(b.lows.take (k+1)).map (rowP b)=(b.lows.take k).map (rowP b)++[rowP b x]:=by rw [List.take_add_one,h];simp
theorem table_any (b:Bx) (A:Option Addr) (c:Nat) (B:Option Addr) (d:Nat) (w:World) (hA:Rd w w.heap.size 4 A b.lows.length (sc b.lows)) (hB:Rd w w.heap.size 4 B b.highs.length (sc b.highs)) (gb:b.good) :
   Calls prog 92 #[bxV b A c B d] w (ListsPost (tableP b) w):=by
 have hlA:=hA.len4
 have hlB:=hB.len4
 obtain ⟨bA,oA,SA⟩:=Sp.old hA
 obtain ⟨bB,oB,SB⟩:=Sp.old hB
 have gl3:=gb.law.span
 have gl4:=gb.law.press
 have gn:=gb.note
 have gf:=gb.law.first
 have gs:=gb.law.step
 have gd:=gb.due
 unfold Bx.due at gd
 dsimp only at gl3 gl4 gf gs
 have nA:=gb.lows.1
 have nB:=gb.highs.1
 refine Zpx noEx func92 Z 49 Z [bxV b A c B d] Z Z (Mem.init w _) ?_
 intro ac wc T M
 refine Zsr ?_
 refine Zl2 ?_
 refine Zob M T Z Z Z Z (T.e 0 Z) Z ?_;clear M T;intro g1 wc ac M T
 refine lq T (Zra Z evc) ?_;intro ac T
 replace T:=T.pick [1] rfl
 refine Zln ?_
 refine Zsr ?_
 refine lq T (Zra Z evc) ?_;intro ac T
 refine Zln ?_
 refine wp_seq ?_
 refine Zsr ?_
 refine Zg4 (v1:=(.pointer (some ⟨g1,5,none⟩))) T (Zq (Zrg 5 Z (T.e 1 Z))) Z (Zo M 0 0 Z Z Z Z) Z (Zl underlying24 0 Z Z) Z (fun _ T=>Zq (Zrm Z evc)) Z ?_;intro ac T
 replace T:=T.pick [0,1,2,4,5] rfl
 refine Zln ?_
 refine wp_block ?_
 refine wp_loop_n (fun mz ac wc=>∃ (k:Nat) (OL:List LE) (B3:Option Addr) (c3:Nat) (Ie Io:List (Nat×BA)),mz=b.lows.length - k∧(k≤b.lows.length)∧(OL.map (·.1)=(b.lows.take k).map (rowP b))∧(OL.length=k)∧(Els OL Ie)∧(Sl 31 1 (.slice B3 OL.length c3) OL.length (lc OL) Io)∧Tm ac 49 [(1,Zj g1),(3,.slice B3 OL.length c3),(10,.slice A b.lows.length c),(11,Zi ((b.lows.length:Nat):Int)),(12,Zi (k:Int))]∧Mem w noEx wc ((g1,.cells (Zbx b A c B d))::(Ie++Io))) ?_ ?_
 ·exact ⟨_,0,[],none,0,[],[],Z,(Nat.zero_le _),Z,Z,(fun x hx=>by cases hx),(Sl.nil _ _),T.pick [4,3,2,1,0] Z,((M.mask [true] Z).as (by simp))⟩
 clear T M
 rintro mz ac wc ⟨k,OL,B3,c3,Ie,Io,hmm1,hk,hO,hOl,hE,hsl,T,M⟩
 refine Zsr ?_
 refine lq T (rn_lss Z (T.e 4 Z) (T.e 3 Z)) ?_;intro ac T
 refine Zln ?_
 refine wp_seq ?_
 refine wp_if (T.e 0 Z) ?_ ?_
 ·intro h1
  obtain ⟨x,hkx,-⟩:=sc_next (l:=b.lows) (k:=k) (by omega)
  have gx:=gb.lows.2 x (List.mem_of_getElem? hkx)
  refine Zsk ?_
  refine wp_seq ?_
  refine wp_block ?_
  refine Zsr ?_
  refine Zg2 (v2:=(.agg #[Zi x.t0,Zi x.t1,Zi x.s0,Zi x.s1])) T (Zq (Zri (size:=4) k Z (T.e 3 Z) (T.e 5 Z) ⟨_,underlying24,by kernel_rfl⟩ Z (by omega) (SA.at0 (by omega)))) Z (fun _ T=>Zq (rn_rowat (Sp.scR4 SA M (Zz9 _) hkx) Z (T.e 0 Z) Z)) Z ?_;intro ac T
  refine Zl2 ?_
  refine Zoa M T Z Z Z Z ?_;clear M T;intro g2 wc ac M T
  refine Zl2 ?_
  refine Zot M T Z Z (T.e 0 Z) (T.e 1 Z) Z .head Z Z ?_;clear M T;intro wc ac M T
  replace T:=T.pick [0,4,5,6,7,8] rfl
  refine Zln ?_
  refine Zsr ?_
  refine Zg3 (v1:=(.pointer (some ⟨g1,6,none⟩))) T (Zq (Zrg 6 Z (T.e 1 Z))) Z (Zo M 1 0 Z Z Z Z) Z (Zl underlying24 0 Z Z) Z ?_;intro ac T
  refine Zl2 ?_
  refine ow_ms (m:=b.highs.length) M T Z Z Z Z (T.e 0 Z) (T.e 0 Z) underlying31 Tryz.info3 (by omega) ?_;clear M T;intro g3 wc ac M T
  obtain ⟨lm1,hlm1⟩:∃ q:List Int,q=List.replicate b.highs.length 0:=⟨_,rfl⟩
  have llm1:lm1.length=b.highs.length:=by rw [hlm1,List.length_replicate]
  rw [← hlm1] at M
  have Ss1:=Sp.pre (w:=w) (ex:=noEx) (size:=1) (n:=lm1.length) (g:=g3) (xs:=ic lm1) (ys:=[]) (by simp [ic_length])
  refine lq T (Zra Z (T.e 0 Z)) ?_;intro ac T
  replace T:=T.pick [0,5,6,7,8,9,10] rfl
  refine Zln ?_
  refine wp_seq ?_
  refine Zsr ?_
  refine Zg4 (v1:=(.pointer (some ⟨g1,6,none⟩))) T (Zq (Zrg 6 Z (T.e 2 Z))) Z (Zo M 2 0 Z Z Z Z) Z (Zl underlying24 0 Z Z) Z (fun _ T=>Zq (Zrm Z evc)) Z ?_;intro ac T
  replace T:=T.pick [0,1,2,4,5,6,7,8,9,10] rfl
  refine Zln ?_
  refine wp_block ?_
  refine wp_loop_n (fun mz ac wc=>∃ (iq:Nat) (rw:List Int),mz=b.highs.length - iq∧(iq≤b.highs.length)∧(rw.length=b.highs.length)∧(rw.take iq=(rowP b x).take iq)∧Tm ac 49 [(1,Zj g1),(3,.slice B3 OL.length c3),(5,Zj g2),(6,.slice (some ⟨g3,0,none⟩) b.highs.length b.highs.length),(10,.slice A b.lows.length c),(11,Zi ((b.lows.length:Nat):Int)),(12,Zi (k:Int)),(21,.slice B b.highs.length d),(22,Zi ((b.highs.length:Nat):Int)),(23,Zi (iq:Int))]∧Mem w noEx wc ((g3,.cells (ic rw++[]))::(g2,.cells [Zi x.t0,Zi x.t1,Zi x.s0,Zi x.s1])::(g1,.cells (Zbx b A c B d))::(Ie++Io))) ?_ ?_
  ·exact ⟨_,0,lm1,Z,(Nat.zero_le _),llm1,Z,T.pick [5,6,4,3,7,8,9,2,1,0] Z,M.mask [true,true,true] Z⟩
  clear T M
  rintro mz ac wc ⟨iq,rw,hmm2,hq,hrl,hrw,T,M⟩
  refine Zsr ?_
  refine lq T (rn_lss Z (T.e 9 Z) (T.e 8 Z)) ?_;intro ac T
  refine Zln ?_
  refine wp_seq ?_
  refine wp_if (T.e 0 Z) ?_ ?_
  ·intro h2
   obtain ⟨y,hky,-⟩:=sc_next (l:=b.highs) (k:=iq) (by omega)
   have gy:=gb.highs.2 y (List.mem_of_getElem? hky)
   have Srw:=Sp.pre (w:=w) (ex:=noEx) (size:=1) (n:=rw.length) (g:=g3) (xs:=ic rw) (ys:=[]) (by simp [ic_length])
   refine Zsk ?_
   refine wp_seq ?_
   refine wp_block ?_
   refine Zsr ?_
   refine Zg3 (v3:=(.agg #[Zi y.t0,Zi y.t1,Zi y.s0,Zi y.s1])) T (Zq (Zrm Z (T.e 10 Z))) Z (fun _ T=>Zq (Zri (size:=4) iq Z (T.e 9 Z) (T.e 11 Z) ⟨_,underlying24,by kernel_rfl⟩ Z (by omega) (SB.at0 (by omega)))) Z (fun _ T=>Zq (rn_rowat (Sp.scR4 SB M (Zz9 _) hky) Z (T.e 0 Z) Z)) Z ?_;intro ac T
   refine Zl2 ?_
   refine Zoa M T Z Z Z Z ?_;clear M T;intro g4 wc ac M T
   refine lq T (Zra Z (T.e 3 Z)) ?_;intro ac T
   refine Zl2 ?_
   refine Zot M T Z Z (T.e 1 Z) (T.e 2 Z) Z .head Z Z ?_;clear M T;intro wc ac M T
   replace T:=T.pick [0,1,6,7,8,9,10,11,12,13,14,15] rfl
   refine Zln ?_
   refine Zgs M (M.mask [false,false,false,false] Z) 15 (by kernel_rfl) Z (by kernel_rfl) ?_
   clear M;intro wc M
   refine g_addG 14 M ?_
   refine g_have (fun ac wc=>∃ (gr9_11:Nat),Tm ac 49 [(39,.slice (some ⟨gr9_11,0,none⟩) 2 2),(36,Zi (b.first+b.step * b.note)),(38,.agg #[Zi y.t0,Zi y.t1,Zi y.s0,Zi y.s1]),(37,.agg #[Zi x.t0,Zi x.t1,Zi x.s0,Zi x.s1]),(35,Zi b.note),(34,.pointer (some ⟨g1,4,none⟩)),(33,.agg #[Zi b.first,Zi b.step,Zi b.span,Zi b.press]),(32,Zj g1),(31,.agg #[Zi b.first,Zi b.step,Zi b.span,Zi b.press]),(30,Zj g1),(29,Zi (iq:Int)),(28,.slice (some ⟨g3,0,none⟩) b.highs.length b.highs.length),(7,Zi (iq:Int)),(8,Zj g4),(1,Zj g1),(3,.slice B3 OL.length c3),(5,Zj g2),(6,.slice (some ⟨g3,0,none⟩) b.highs.length b.highs.length),(10,.slice A b.lows.length c),(11,Zi ((b.lows.length:Nat):Int)),(12,Zi (k:Int)),(21,.slice B b.highs.length d),(22,Zi ((b.highs.length:Nat):Int)),(23,Zi (iq:Int))]∧Mem w noEx wc ((gr9_11,.cells [Zi x.t0,Zi x.t1,Zi x.s0,Zi x.s1,Zi y.t0,Zi y.t1,Zi y.s0,Zi y.s1])::(g4,.cells [Zi y.t0,Zi y.t1,Zi y.s0,Zi y.s1])::(g3,.cells (ic rw++[]))::(g2,.cells [Zi x.t0,Zi x.t1,Zi x.s0,Zi x.s1])::(g1,.cells (Zbx b A c B d))::(Ie++Io))) (Zpb 15 4095) 3 ?_ ?_
   ·clear T M
    rintro ac wc ⟨gr9_11,T,M⟩
    refine gw 12 8191 ?_;intro K hK
    refine Zod T Z Z Z Z evf (.cons (T.e 8 Z) (.cons (T.e 1 Z) (.cons (T.e 0 Z) .nil))) func87 Z Z ?_
    refine Calls.mono (keeps_any b.law (b.first+b.step * b.note) _ _ _ [x,y] _ (by (try dsimp only);omega) (by (try dsimp only);omega) (by (try dsimp only);omega) (by intro z hz;simp only [Zx7,Zx8,or_false] at hz;rcases hz with rfl | rfl;exact gx;exact gy) (M.rdOwn (Zne (i:=0) rfl) rfl rfl) (by first | omega | (simp only [Zx1,Zx2];omega))) ?_
    clear T;rintro e wc ⟨rfl,hb⟩ ac T
    replace M:=M.call hb;clear hb
    refine Zso hK _ _ (MA.mk (fun _=>M.mask [false,true,true,true,true] Z) (M.mask [false,false,false,false,false] Z)) ?_;clear hK K
    refine Zgq T 13 16383 Z (fun _=>(Zri (size:=1) iq Z (T.e 12 Z) (T.e 11 Z) ⟨_,underlying31,by kernel_rfl⟩ Z (by omega) Z)) ?_;intro ac T
    refine gw 14 32767 ?_;intro K hK
    refine ow_stI M T Z Z (T.e 0 Z) (T.e 1 Z) (.tail (.tail .head)) (by omega) Z ?_;clear M T;intro wc ac M T
    obtain ⟨lo1,hlo1⟩:∃ q,q=rw.set iq (keepsP b.law (b.first+b.step * b.note) [x,y]):=⟨_,rfl⟩
    have lhlo1:rw.length=lo1.length:=by rw [hlo1,List.length_set]
    rw [← hlo1] at M;(try rw [lhlo1] at M);(try rw [lhlo1] at T)
    have Ss2:=Sp.pre (w:=w) (ex:=noEx) (size:=1) (n:=lo1.length) (g:=g3) (xs:=ic lo1) (ys:=[]) (by simp [ic_length])
    refine Zso hK _ _ (MA.mk (fun h=>(no_of (by kernel_rfl) h).elim) (M.mask [false,false,false,false,false] Z)) ?_;clear hK K
    refine Zgd (by kernel_rfl) ?_
    replace T:=T.pick [16,17,18,19,20,21,22,23,24,25] rfl
    replace M:=M.mask [false,false,true,true,true] rfl
    refine Znb ?_
    refine nm_then ?_
    refine wp_region_lit ?_
    refine lq T (rn_add Z (T.e 9 Z) evc (by omega)) ?_;intro ac T
    refine l_q (v:=(Zi ((iq:Int)+1))) (T.pick [0,1,2,3,4,5,6,7,8,9] Z) Z Z Z Z (Zrm Z (T.e 0 Z)) ?_;intro ac T
    replace T:=T.pick [0,2,3,4,5,6,7,8,9,10] rfl
    refine Zln ?_
    exact ⟨_,by omega,iq+1,lo1,Z,(by omega),(by omega),(by rw [hlo1];exact take_set hrw (by unfold rowP;rw [List.getElem?_map,hky];rfl) (by omega)),T.pick [1,2,3,4,5,6,7,8,9,0] Z,M.mask [true,true,true] Z⟩
   intro H0
   refine Zgq T 0 1 Z (fun _=>(Zrm Z (T.e 5 Z))) ?_;intro ac T
   refine Zgq T 1 3 Z (fun _=>(Zrm Z (T.e 1 Z))) ?_;intro ac T
   refine Zgq (v:=(Zj g1)) T 2 7 Z (fun _=>(Zrg 0 Z (T.e 4 Z))) ?_;intro ac T
   refine gq T 3 15 Z (fun B w' hD hl hS=>(Zrr (Mem.nth (show Mem w noEx w' _ from ((MA.lft hS) (hD.wait (i:=3) (m:=14) (by kernel_rfl) hl))) 3 Z) Z (T.e 0 Z) Z)) ?_;intro ac T
   refine Zgq (v:=(Zj g1)) T 4 31 Z (fun _=>(Zrg 0 Z (T.e 6 Z))) ?_;intro ac T
   refine gq T 5 63 Z (fun B w' hD hl hS=>(Zrr (Mem.nth (show Mem w noEx w' _ from ((MA.lft hS) (hD.wait (i:=5) (m:=14) (by kernel_rfl) hl))) 3 Z) Z (T.e 0 Z) Z)) ?_;intro ac T
   refine Zgq (v:=(.pointer (some ⟨g1,4,none⟩))) T 6 127 Z (fun _=>(Zrg 4 Z (T.e 8 Z))) ?_;intro ac T
   refine gq T 7 255 Z (fun B w' hD hl hS=>(Zro (Mem.nth (show Mem w noEx w' _ from ((MA.lft hS) (hD.wait (i:=7) (m:=14) (by kernel_rfl) hl))) 3 Z) Z (T.e 0 Z) Z)) ?_;intro ac T
   refine gq T 9 767 Z (fun B w' hD hl hS=>(Zrr (Mem.nth (show Mem w noEx w' _ from ((MA.lft hS) (hD.wait (i:=9) (m:=14) (by kernel_rfl) hl))) 2 Z) Z (T.e 12 Z) Z)) ?_;intro ac T
   refine gq T 10 1791 Z (fun B w' hD hl hS=>(Zrr (Mem.nth (show Mem w noEx w' _ from ((MA.lft hS) (hD.wait (i:=10) (m:=14) (by kernel_rfl) hl))) 0 Z) Z (T.e 10 Z) Z)) ?_;intro ac T
   refine g_m2 (i:=8) (j:=11) (by kernel_rfl) ?_ ?_
   ·refine gi 2047 ?_;intro K hK
    refine Zod T Z Z Z Z evf (.cons (T.e 4 Z) (.cons (T.e 2 Z) .nil)) func88 Z Z ?_
    refine Calls.mono (vdue_any b.law b.note _ (by (try dsimp only);omega) (by (try dsimp only);omega) (by (try dsimp only);omega)) ?_
    clear T;rintro e wc ⟨rfl,hb⟩ ac T
    replace M:=M.call hb;clear hb
    refine Zso hK _ _ (MA.mk (fun _=>M.mask [true,true,true,true] Z) (M.mask [false,false,false,false] Z)) ?_;clear hK K
    refine gw 11 4095 ?_;intro K hK
    refine ow_bs (e:=77) [Zi x.t0,Zi x.t1,Zi x.s0,Zi x.s1,Zi y.t0,Zi y.t1,Zi y.s0,Zi y.s1] M T Z Z Z Z (.cons (T.e 2 Z) (.cons (T.e 1 Z) .nil)) (fun _=>by kernel_rfl) ?_;clear M T;intro gr9_11 wc ac M T
    refine Zso hK _ _ (MA.mk (fun _=>M.mask [false,true,true,true,true] Z) (M.mask [false,false,false,false,false] Z)) ?_;clear hK K
    exact H0 _ _ ⟨gr9_11,T,M⟩
   refine gi 3839 ?_;intro K hK
   refine ow_bs (e:=77) [Zi x.t0,Zi x.t1,Zi x.s0,Zi x.s1,Zi y.t0,Zi y.t1,Zi y.s0,Zi y.s1] M T Z Z Z Z (.cons (T.e 1 Z) (.cons (T.e 0 Z) .nil)) (fun _=>by kernel_rfl) ?_;clear M T;intro gr9_11 wc ac M T
   refine Zso hK _ _ (MA.mk (fun _=>M.mask [false,true,true,true,true] Z) (M.mask [false,false,false,false,false] Z)) ?_;clear hK K
   refine gw 8 4095 ?_;intro K hK
   refine Zod T Z Z Z Z evf (.cons (T.e 5 Z) (.cons (T.e 3 Z) .nil)) func88 Z Z ?_
   refine Calls.mono (vdue_any b.law b.note _ (by (try dsimp only);omega) (by (try dsimp only);omega) (by (try dsimp only);omega)) ?_
   clear T;rintro e wc ⟨rfl,hb⟩ ac T
   replace M:=M.call hb;clear hb
   refine Zso hK _ _ (MA.mk (fun _=>M.mask [false,true,true,true,true] Z) (M.mask [false,false,false,false,false] Z)) ?_;clear hK K
   exact H0 _ _ ⟨gr9_11,T.pick [1,0,2,3,4,5,6,7,8,9,10,11,12,13,14,15,16,17,18,19,20,21,22,23] Z,M⟩
  intro h2
  have hrow:rw=rowP b x:=by rw [List.take_of_length_le (by omega),List.take_of_length_le (by rw [rowP_length];omega)] at hrw;exact hrw
  refine wp_exit ?_
  refine Zet ?_
  refine Zet ?_
  refine ex_hit ?_
  refine nm_then ?_
  refine wp_region_lit ?_
  refine Zg2 T (Zq (Zrm Z (T.e 2 Z))) Z (Zm 5 Z Z) Z ?_;intro ac T
  refine Zl2 ?_
  refine ow_bs (e:=31) [.slice (some ⟨g3,0,none⟩) b.highs.length b.highs.length] M T Z Z Z Z (.cons (T.e 0 Z) .nil) (fun _=>by kernel_rfl) ?_;clear M T;intro g5 wc ac M T
  refine Zl2 ?_
  refine ow_app (((g5,.cells [.slice (some ⟨g3,0,none⟩) b.highs.length b.highs.length])::(g3,.cells (ic rw++[]))::(g2,.cells [Zi x.t0,Zi x.t1,Zi x.s0,Zi x.s1])::(g1,.cells (Zbx b A c B d))::Ie)) Tryz.info31 hsl M (by first | rfl | simp) T Z Z Z Z underlying159 Z Z Z (by omega) (T.e 2 Z) (T.e 0 Z) (Zne (i:=0) Z) Z Z ?_;clear M T;intro ga1 cga1 wc ac M T
  refine l_q (v:=(.slice (some ⟨ga1,0,none⟩) (OL.length+1) cga1)) (T.pick [0,1,2,3,4,5,7,8,9,10,11,12,13,14] Z) Z Z Z Z (Zra Z (T.e 0 Z)) ?_;intro ac T
  refine wpList_nil ?_
  replace T:=T.pick [0,6,9,10,11] rfl
  replace M:=M.mask [true,false,true,false,true] rfl
  refine Znb ?_
  refine nm_then ?_
  refine wp_region_lit ?_
  refine lq T (rn_add Z (T.e 4 Z) evc (by omega)) ?_;intro ac T
  refine l_q (v:=(Zi ((k:Int)+1))) (T.pick [0,1,2,3,4] Z) Z Z Z Z (Zrm Z (T.e 0 Z)) ?_;intro ac T
  replace T:=T.pick [0,2,3,4,5] rfl
  refine Zln ?_
  have e9:OL.length+1=(OL++[(rw,(some ⟨g3,0,none⟩:Option Addr),b.highs.length)]).length:=by simp
  have e8:((lc OL)++[.slice (some ⟨g3,0,none⟩) b.highs.length b.highs.length])=lc (OL++[(rw,(some ⟨g3,0,none⟩:Option Addr),b.highs.length)]):=by rw [← lc_snoc,hrl]
  rw [e9,e8] at M
  rw [e9] at T
  clear e9 e8
  exact ⟨_,by omega,k+1,(OL++[(rw,(some ⟨g3,0,none⟩:Option Addr),b.highs.length)]),_,_,(Ie++[(g3,.cells (ic rw++[]))]),[(ga1,.row 31 1 (OL++[(rw,(some ⟨g3,0,none⟩:Option Addr),b.highs.length)]).length (lc (OL++[(rw,(some ⟨g3,0,none⟩:Option Addr),b.highs.length)])) cga1)],Z,(by omega),(by rw [take_row hkx,List.map_append,hO,hrow];rfl),(by simp [hOl]),(hE.snoc _ _ _ _),(Sl.row _ _ _ _ _ _),T.pick [2,1,3,4,0] Z,((Mem.swapI (I:=[(g3,.cells (ic rw++[])),(ga1,.row 31 1 (OL++[(rw,(some ⟨g3,0,none⟩:Option Addr),b.highs.length)]).length (lc (OL++[(rw,(some ⟨g3,0,none⟩:Option Addr),b.highs.length)])) cga1)]) (L:=[(g1,.cells (Zbx b A c B d))]++Ie) (M.permT [1,0,2] 3 Z Z Z Z)).as (by simp))⟩
 intro h1
 refine wp_exit ?_
 refine Zet ?_
 refine Zet ?_
 refine ex_hit ?_
 refine nm_then ?_
 refine Zsr ?_
 refine Zg2 T (Zq (Zrm Z (T.e 2 Z))) Z (Za 0 Z Z) Z ?_;intro ac T
 refine wpList_nil ?_
 replace T:=T.pick [0] rfl
 replace M:=M.mask [false] rfl
 refine Znr ?_
 refine rt_1 T Z (T.e 0 Z) ?_
 obtain ⟨b9,o9,h9⟩:=hsl.spV (by simp [lc_length])
 exact ⟨B3,c3,OL,Ie++Io,Z,by rw [hO,List.take_of_length_le (by omega)];rfl,⟨b9,o9,fun w ex=>(h9 w ex).mono (Zsq _ _)⟩,hE.mono (Zsl _ _),M.mask [] Z⟩
open Go.RowKit
theorem among5_any (n lo hi:Int) (w:World)  :
   Calls prog 104 #[.int .i64 n,.int .i64 lo,.int .i64 hi] w fun e w'=>e=.returned (.bool (withinB n lo hi))∧Below w.heap.size w w':=by
 refine Zpx noEx func104 Z 15 Z [.int .i64 n,.int .i64 lo,.int .i64 hi] Z Z (Mem.init w _) ?_
 intro ac wc T M
 refine Zsr ?_
 refine lq T (Zra Z evc) ?_;intro ac T
 replace T:=T.pick [1,2,3] rfl
 refine Zln ?_
 refine cut_seq (fun ac wc=>Tm ac 15 [(6,.bool ((decide (lo≤n)) && (decide (n≤hi))))]∧Mem w noEx wc []) ?_ ?_
 ·refine wp_region_lit ?_
  refine Zg4 T (Zq (Zrm Z (T.e 0 Z))) Z (Zm 2 Z Z) Z (fun _ T=>Zq (rn_geq Z (T.e 1 Z) (T.e 0 Z))) Z (Zm 0 Z Z) Z ?_;intro ac T
  rcases Zx9 (decide (lo≤n)) with h1 | h1
  ·replace h1:=of_decide_eq_true h1
   refine Zg5 T (Zw (Zwy Z Z (T.e 0 Z) (Zdt h1)) (Zrm Z (T.e 4 Z))) Z (fun _ T=>Zw (Zwy Z Z (T.e 1 Z) (Zdt h1)) (Zrm Z (T.e 7 Z))) Z (fun _ T=>Zw (Zwy Z Z (T.e 2 Z) (Zdt h1)) (rn_leq Z (T.e 1 Z) (T.e 0 Z))) Z (fun _ T=>Zq (Zr1 Z (T.e 3 Z) (Zdt h1) (T.e 0 Z))) Z (Za 0 Z Z) Z ?_;intro ac T
   refine wpList_nil ?_
   replace T:=T.pick [0] rfl
   exact ⟨(T.pick (E':=[(6,.bool (decide (n≤hi)))]) [0] Z).as (by (try rw [show (decide (lo≤n))=true from (Zdt h1)]);(try rfl)),M.mask [] Z⟩
  replace h1:=of_decide_eq_false h1
  refine Zg5 T (Zp (Zwn Z Z (T.e 0 Z) (Zdf h1))) Z (fun _ T=>Zp (Zwn Z Z (T.e 1 Z) (Zdf h1))) Z (fun _ T=>Zp (Zwn Z Z (T.e 2 Z) (Zdf h1))) Z (fun _ T=>Zq (Zr0 Z (T.e 3 Z) (Zdf h1) evc)) Z (Za 0 Z Z) Z ?_;intro ac T
  refine wpList_nil ?_
  replace T:=T.pick [0] rfl
  exact ⟨(T.pick (E':=[(6,.bool false)]) [0] Z).as (by (try rw [show (decide (lo≤n))=false from (Zdf h1)]);(try rfl)),M.mask [] Z⟩
 clear T M
 rintro ac wc ⟨T,M⟩
 refine wp_ret ?_
 refine rt_1 T Z (T.e 0 Z) ?_
 exact ⟨ret_bool (by unfold withinB;simp),M.below⟩
theorem checkRange5_any (x0 x1 most:Int) (w:World) (hm:0≤most∧most≤1000) :
   Calls prog 171 #[.agg #[.int .i64 x0,.int .i64 x1],.int .i64 most] w fun e w'=>e=.returned (.int .i64 (chkR x0 x1 (-most) most))∧Below w.heap.size w w':=by
 refine Zpx noEx func171 Z 26 Z [.agg #[.int .i64 x0,.int .i64 x1],.int .i64 most] Z Z (Mem.init w _) ?_
 intro ac wc T M
 refine Zsr ?_
 refine Zl2 ?_
 refine Zob M T Z Z Z Z (T.e 0 Z) Z ?_;clear M T;intro g1 wc ac M T
 refine lq T (Zra Z evc) ?_;intro ac T
 replace T:=T.pick [1,3] rfl
 refine Zln ?_
 refine wp_seq ?_
 refine cut_seq (fun ac wc=>Tm ac 26 [(2,.pointer (some ⟨g1,0,none⟩)),(20,.bool ((!(withinB x0 (-most) most)) || (!(withinB x1 (-most) most))))]∧Mem w noEx wc [(g1,.cells [.int .i64 x0,.int .i64 x1])]) ?_ ?_
 ·refine wp_region_lit ?_
  refine Zg5 (v1:=(.pointer (some ⟨g1,0,none⟩))) T (Zq (Zrg 0 Z (T.e 0 Z))) Z (Zo M 0 0 Z Z Z Z) Z (Zm 3 Z Z) Z (fun _ T=>Zq (rn_neg Z (T.e 0 Z) (by omega))) Z (Zm 5 Z Z) Z ?_;intro ac T
  refine Zl2 ?_
  refine Zod T Z Z Z Z evf (.cons (T.e 3 Z) (.cons (T.e 1 Z) (.cons (T.e 0 Z) .nil))) func104 Z Z ?_
  refine Calls.mono (among5_any x0 (-most) most _) ?_
  clear T;rintro e wc ⟨rfl,hb⟩ ac T
  replace M:=M.call hb;clear hb
  refine Zg2 T (Zq (rn_not Z (T.e 0 Z))) Z (Zm 0 Z Z) Z ?_;intro ac T
  rcases Zx9 (!(withinB x0 (-most) most)) with h1 | h1
  ·refine Zg8 T (Zp (Zwn Z Z (T.e 0 Z) h1)) Z (fun _ T=>Zp (Zwn Z Z (T.e 1 Z) h1)) Z (fun _ T=>Zp (Zwn Z Z (T.e 2 Z) h1)) Z (fun _ T=>Zp (Zwn Z Z (T.e 3 Z) h1)) Z (fun _ T=>Zp (Zwn Z Z (T.e 4 Z) h1)) Z (fun _ T=>Zp (Zwn Z Z (T.e 5 Z) h1)) Z (fun _ T=>Zp (Zwn Z Z (T.e 6 Z) h1)) Z (fun _ T=>Zq (Zr1 Z (T.e 7 Z) h1 evc)) Z ?_;intro ac T
   refine wpList_nil ?_
   replace T:=T.pick [0,16] rfl
   exact ⟨(T.pick (E':=[(2,.pointer (some ⟨g1,0,none⟩)),(20,.bool true)]) [1,0] Z).as (by (try rw [show (!(withinB x0 (-most) most))=true from h1]);(try rfl)),M.mask [true] Z⟩
  refine Zg5 (v1:=(.pointer (some ⟨g1,1,none⟩))) T (Zw (Zwy Z Z (T.e 0 Z) h1) (Zrg 1 Z (T.e 8 Z))) Z (fun _ T=>Zw (Zwy Z Z (T.e 1 Z) h1) (Zro (Mem.nth M 0 Z) Z (T.e 0 Z) Z)) Z (fun _ T=>Zw (Zwy Z Z (T.e 2 Z) h1) (Zrm Z (T.e 11 Z))) Z (fun _ T=>Zw (Zwy Z Z (T.e 3 Z) h1) (rn_neg Z (T.e 0 Z) (by omega))) Z (fun _ T=>Zw (Zwy Z Z (T.e 4 Z) h1) (Zrm Z (T.e 13 Z))) Z ?_;intro ac T
  refine l_w (Zwy Z Z (T.e 5 Z) h1) ?_;intro K hK
  refine Zod T Z Z Z Z evf (.cons (T.e 3 Z) (.cons (T.e 1 Z) (.cons (T.e 0 Z) .nil))) func104 Z Z ?_
  refine Calls.mono (among5_any x1 (-most) most _) ?_
  clear T;rintro e wc ⟨rfl,hb⟩ ac T
  replace M:=M.call hb;clear hb
  refine Zso hK _ _ ?_;clear hK K
  refine Zg2 T (Zw (Zwy Z Z (T.e 6 Z) h1) (rn_not Z (T.e 0 Z))) Z (fun _ T=>Zq (Zr0 Z (T.e 7 Z) h1 (T.e 0 Z))) Z ?_;intro ac T
  refine wpList_nil ?_
  replace T:=T.pick [0,16] rfl
  exact ⟨(T.pick (E':=[(2,.pointer (some ⟨g1,0,none⟩)),(20,.bool (!(withinB x1 (-most) most)))]) [1,0] Z).as (by (try rw [show (!(withinB x0 (-most) most))=false from h1]);(try rfl)),M.mask [true] Z⟩
 clear T M
 rintro ac wc ⟨T,M⟩
 refine wp_cond_split (T.e 1 Z) ?_ ?_
 ·intro h2
  (have h2':=h2;try simp only [Zb1,Zb2,Zb3,Zb4,Zb5,Zb6,Zb7] at h2')
  refine Zsr ?_
  refine lq T (Zra Z evc) ?_;intro ac T
  refine wpList_nil ?_
  replace T:=T.pick [0] rfl
  replace M:=M.mask [false] rfl
  refine Znr ?_
  refine Zrt ?_
  refine rt_1 T Z (T.e 0 Z) ?_
  exact ⟨ret_int (by unfold chkR;first | (simp_all;done) | (simp_all;omega) | (simp_all;intro h8 h9;simp_all)),M.below⟩
 intro h2
 (have h2':=h2;try simp only [Zb1,Zb2,Zb3,Zb4,Zb5,Zb6,Zb7] at h2')
 refine Zsk ?_
 refine wp_seq ?_
 refine Zsr ?_
 refine Zg5 (v1:=(.pointer (some ⟨g1,0,none⟩))) (v3:=(.pointer (some ⟨g1,1,none⟩))) T (Zq (Zrg 0 Z (T.e 0 Z))) Z (Zo M 0 0 Z Z Z Z) Z (Zf 1 2 Z Z) Z (Zo M 0 0 Z Z Z Z) Z (fun _ T=>Zq (rn_gtr Z (T.e 2 Z) (T.e 0 Z))) Z ?_;intro ac T
 refine wpList_nil ?_
 replace T:=T.pick [0] rfl
 replace M:=M.mask [false] rfl
 refine nm_then ?_
 refine wp_if (T.e 0 Z) ?_ ?_
 ·intro h3
  refine Zsr ?_
  refine lq T (Zra Z evc) ?_;intro ac T
  replace T:=T.pick [0] rfl
  refine Zln ?_
  refine wp_ret ?_
  refine Zrt ?_
  refine rt_1 T Z (T.e 0 Z) ?_
  exact ⟨ret_int (by unfold chkR;first | (simp_all;done) | (simp_all;omega) | (simp_all;intro h8 h9;simp_all)),M.below⟩
 intro h3
 refine Zsk ?_
 refine Zsr ?_
 refine lq T (Zra Z evc) ?_;intro ac T
 replace T:=T.pick [0] rfl
 refine Zln ?_
 refine wp_ret ?_
 refine rt_1 T Z (T.e 0 Z) ?_
 exact ⟨ret_int (by unfold chkR;first | (simp_all;done) | (simp_all;omega) | (simp_all;intro h8 h9;simp_all)),M.below⟩
theorem checkLaw5_any (l:Lw) (w:World)  :
   Calls prog 103 #[.agg #[.int .i64 l.first,.int .i64 l.step,.int .i64 l.span,.int .i64 l.press]] w fun e w'=>e=.returned (.int .i64 (lawE l))∧Below w.heap.size w w':=by
 refine Zpx noEx func103 Z 25 Z [.agg #[.int .i64 l.first,.int .i64 l.step,.int .i64 l.span,.int .i64 l.press]] Z Z (Mem.init w _) ?_
 intro ac wc T M
 refine Zsr ?_
 refine Zl2 ?_
 refine Zob M T Z Z Z Z (T.e 0 Z) Z ?_;clear M T;intro g1 wc ac M T
 refine lq T (Zra Z evc) ?_;intro ac T
 replace T:=T.pick [1] rfl
 refine Zln ?_
 refine wp_seq ?_
 refine cut_seq (fun ac wc=>Tm ac 25 [(24,.bool ((!(withinB l.first 0 30)) || ((!(withinB l.step (-5) 5)) || ((!(withinB l.span 0 20)) || (!(withinB l.press 0 3))))))]∧Mem w noEx wc []) ?_ ?_
 ·refine wp_region_lit ?_
  refine Zg2 (v1:=(.pointer (some ⟨g1,0,none⟩))) T (Zq (Zrg 0 Z (T.e 0 Z))) Z (Zo M 0 0 Z Z Z Z) Z ?_;intro ac T
  refine Zl2 ?_
  refine Zod T Z Z Z Z evf (.cons (T.e 0 Z) (.cons evc (.cons evc .nil))) func104 Z Z ?_
  refine Calls.mono (among5_any l.first 0 30 _) ?_
  clear T;rintro e wc ⟨rfl,hb⟩ ac T
  replace M:=M.call hb;clear hb
  refine Zg2 T (Zq (rn_not Z (T.e 0 Z))) Z (Zm 0 Z Z) Z ?_;intro ac T
  rcases Zx9 (!(withinB l.first 0 30)) with h1 | h1
  ·refine Zg8 T (Zp (Zwn Z Z (T.e 0 Z) h1)) Z (fun _ T=>Zp (Zwn Z Z (T.e 1 Z) h1)) Z (fun _ T=>Zp (Zwn Z Z (T.e 2 Z) h1)) Z (fun _ T=>Zp (Zwn Z Z (T.e 3 Z) h1)) Z (fun _ T=>Zq (Zr1 Z (T.e 4 Z) h1 evc)) Z (Zm 0 Z Z) Z (fun _ T=>Zp (Zwn Z Z (T.e 0 Z) Z)) Z (fun _ T=>Zp (Zwn Z Z (T.e 1 Z) Z)) Z ?_;intro ac T
   refine Zg8 T (Zp (Zwn Z Z (T.e 2 Z) Z)) Z (fun _ T=>Zp (Zwn Z Z (T.e 3 Z) Z)) Z (fun _ T=>Zq (Zr1 Z (T.e 4 Z) Z evc)) Z (Zm 0 Z Z) Z (fun _ T=>Zp (Zwn Z Z (T.e 0 Z) Z)) Z (fun _ T=>Zp (Zwn Z Z (T.e 1 Z) Z)) Z (fun _ T=>Zp (Zwn Z Z (T.e 2 Z) Z)) Z (fun _ T=>Zp (Zwn Z Z (T.e 3 Z) Z)) Z ?_;intro ac T
   refine lq T (Zr1 Z (T.e 4 Z) Z evc) ?_;intro ac T
   refine wpList_nil ?_
   replace T:=T.pick [0] rfl
   replace M:=M.mask [false] rfl
   exact ⟨(T.pick (E':=[(24,.bool true)]) [0] Z).as (by (try rw [show (!(withinB l.first 0 30))=true from h1]);(try rfl)),M.mask [] Z⟩
  refine Zg2 (v1:=(.pointer (some ⟨g1,1,none⟩))) T (Zw (Zwy Z Z (T.e 0 Z) h1) (Zrg 1 Z (T.e 5 Z))) Z (fun _ T=>Zw (Zwy Z Z (T.e 1 Z) h1) (Zro (Mem.nth M 0 Z) Z (T.e 0 Z) Z)) Z ?_;intro ac T
  refine l_w (Zwy Z Z (T.e 2 Z) h1) ?_;intro K hK
  refine Zod T Z Z Z Z evf (.cons (T.e 0 Z) (.cons evc (.cons evc .nil))) func104 Z Z ?_
  refine Calls.mono (among5_any l.step (-5) 5 _) ?_
  clear T;rintro e wc ⟨rfl,hb⟩ ac T
  replace M:=M.call hb;clear hb
  refine Zso hK _ _ ?_;clear hK K
  refine Zg3 T (Zw (Zwy Z Z (T.e 3 Z) h1) (rn_not Z (T.e 0 Z))) Z (fun _ T=>Zq (Zr0 Z (T.e 4 Z) h1 (T.e 0 Z))) Z (Zm 0 Z Z) Z ?_;intro ac T
  rcases Zx9 (!(withinB l.step (-5) 5)) with h2 | h2
  ·refine Zg8 T (Zp (Zwn Z Z (T.e 0 Z) h2)) Z (fun _ T=>Zp (Zwn Z Z (T.e 1 Z) h2)) Z (fun _ T=>Zp (Zwn Z Z (T.e 2 Z) h2)) Z (fun _ T=>Zp (Zwn Z Z (T.e 3 Z) h2)) Z (fun _ T=>Zq (Zr1 Z (T.e 4 Z) h2 evc)) Z (Zm 0 Z Z) Z (fun _ T=>Zp (Zwn Z Z (T.e 0 Z) Z)) Z (fun _ T=>Zp (Zwn Z Z (T.e 1 Z) Z)) Z ?_;intro ac T
   refine Zg3 T (Zp (Zwn Z Z (T.e 2 Z) Z)) Z (fun _ T=>Zp (Zwn Z Z (T.e 3 Z) Z)) Z (fun _ T=>Zq (Zr1 Z (T.e 4 Z) Z evc)) Z ?_;intro ac T
   refine wpList_nil ?_
   replace T:=T.pick [0] rfl
   replace M:=M.mask [false] rfl
   exact ⟨(T.pick (E':=[(24,.bool true)]) [0] Z).as (by (try rw [show (!(withinB l.first 0 30))=false from h1]);(try rw [show (!(withinB l.step (-5) 5))=true from h2]);(try rfl)),M.mask [] Z⟩
  refine Zg2 (v1:=(.pointer (some ⟨g1,2,none⟩))) T (Zw (Zwy Z Z (T.e 0 Z) h2) (Zrg 2 Z (T.e 11 Z))) Z (fun _ T=>Zw (Zwy Z Z (T.e 1 Z) h2) (Zro (Mem.nth M 0 Z) Z (T.e 0 Z) Z)) Z ?_;intro ac T
  refine l_w (Zwy Z Z (T.e 2 Z) h2) ?_;intro K hK
  refine Zod T Z Z Z Z evf (.cons (T.e 0 Z) (.cons evc (.cons evc .nil))) func104 Z Z ?_
  refine Calls.mono (among5_any l.span 0 20 _) ?_
  clear T;rintro e wc ⟨rfl,hb⟩ ac T
  replace M:=M.call hb;clear hb
  refine Zso hK _ _ ?_;clear hK K
  refine Zg3 T (Zw (Zwy Z Z (T.e 3 Z) h2) (rn_not Z (T.e 0 Z))) Z (fun _ T=>Zq (Zr0 Z (T.e 4 Z) h2 (T.e 0 Z))) Z (Zm 0 Z Z) Z ?_;intro ac T
  rcases Zx9 (!(withinB l.span 0 20)) with h3 | h3
  ·refine Zg5 T (Zp (Zwn Z Z (T.e 0 Z) h3)) Z (fun _ T=>Zp (Zwn Z Z (T.e 1 Z) h3)) Z (fun _ T=>Zp (Zwn Z Z (T.e 2 Z) h3)) Z (fun _ T=>Zp (Zwn Z Z (T.e 3 Z) h3)) Z (fun _ T=>Zq (Zr1 Z (T.e 4 Z) h3 evc)) Z ?_;intro ac T
   refine wpList_nil ?_
   replace T:=T.pick [0] rfl
   replace M:=M.mask [false] rfl
   exact ⟨(T.pick (E':=[(24,.bool true)]) [0] Z).as (by (try rw [show (!(withinB l.first 0 30))=false from h1]);(try rw [show (!(withinB l.step (-5) 5))=false from h2]);(try rw [show (!(withinB l.span 0 20))=true from h3]);(try rfl)),M.mask [] Z⟩
  refine Zg2 (v1:=(.pointer (some ⟨g1,3,none⟩))) T (Zw (Zwy Z Z (T.e 0 Z) h3) (Zrg 3 Z (T.e 17 Z))) Z (fun _ T=>Zw (Zwy Z Z (T.e 1 Z) h3) (Zro (Mem.nth M 0 Z) Z (T.e 0 Z) Z)) Z ?_;intro ac T
  refine l_w (Zwy Z Z (T.e 2 Z) h3) ?_;intro K hK
  refine Zod T Z Z Z Z evf (.cons (T.e 0 Z) (.cons evc (.cons evc .nil))) func104 Z Z ?_
  refine Calls.mono (among5_any l.press 0 3 _) ?_
  clear T;rintro e wc ⟨rfl,hb⟩ ac T
  replace M:=M.call hb;clear hb
  refine Zso hK _ _ ?_;clear hK K
  refine Zg2 T (Zw (Zwy Z Z (T.e 3 Z) h3) (rn_not Z (T.e 0 Z))) Z (fun _ T=>Zq (Zr0 Z (T.e 4 Z) h3 (T.e 0 Z))) Z ?_;intro ac T
  refine wpList_nil ?_
  replace T:=T.pick [0] rfl
  replace M:=M.mask [false] rfl
  exact ⟨(T.pick (E':=[(24,.bool (!(withinB l.press 0 3)))]) [0] Z).as (by (try rw [show (!(withinB l.first 0 30))=false from h1]);(try rw [show (!(withinB l.step (-5) 5))=false from h2]);(try rw [show (!(withinB l.span 0 20))=false from h3]);(try rfl)),M.mask [] Z⟩
 clear T M
 rintro ac wc ⟨T,M⟩
 refine wp_cond_split (T.e 0 Z) ?_ ?_
 ·intro h4
  (have h4':=h4;try simp only [Zb1,Zb2,Zb3,Zb4,Zb5,Zb6,Zb7] at h4')
  refine Zsr ?_
  refine lq T (Zra Z evc) ?_;intro ac T
  replace T:=T.pick [0] rfl
  refine Zln ?_
  refine wp_ret ?_
  refine Zrt ?_
  refine rt_1 T Z (T.e 0 Z) ?_
  refine ⟨ret_int ?_,M.below⟩
  unfold lawE
  rcases Zx9 (withinB l.first 0 30) with a1 | a1 <;> rcases Zx9 (withinB l.step (-5) 5) with a2 | a2 <;> rcases Zx9 (withinB l.span 0 20) with a3 | a3 <;> rcases Zx9 (withinB l.press 0 3) with a4 | a4 <;> simp_all
 intro h4
 (have h4':=h4;try simp only [Zb1,Zb2,Zb3,Zb4,Zb5,Zb6,Zb7] at h4')
 refine Zsk ?_
 refine Zsr ?_
 refine lq T (Zra Z evc) ?_;intro ac T
 replace T:=T.pick [0] rfl
 refine Zln ?_
 refine wp_ret ?_
 refine rt_1 T Z (T.e 0 Z) ?_
 refine ⟨ret_int ?_,M.below⟩
 unfold lawE
 rcases Zx9 (withinB l.first 0 30) with a1 | a1 <;> rcases Zx9 (withinB l.step (-5) 5) with a2 | a2 <;> rcases Zx9 (withinB l.span 0 20) with a3 | a3 <;> rcases Zx9 (withinB l.press 0 3) with a4 | a4 <;> simp_all
theorem due5_any (l:Lw) (n:Int) (w:World) (h0 : -1000≤l.first∧l.first≤1000) (h1 : -1000≤l.step∧l.step≤1000) (h2 : -1000≤n∧n≤1000) :
  Calls prog 105 #[.agg #[.int .i64 l.first,.int .i64 l.step,.int .i64 l.span,.int .i64 l.press],.int .i64 n] w fun e w'=>e=.returned (.int .i64 (l.first+l.step * n))∧Below w.heap.size w w':=by
 have hm:=mulB h1 h2
 refine Zpx noEx func105 Z 12 Z [.agg #[.int .i64 l.first,.int .i64 l.step,.int .i64 l.span,.int .i64 l.press],.int .i64 n] Z Z (Mem.init w _) ?_
 intro ac wc T M
 refine Zsr ?_
 refine Zl2 ?_
 refine Zob M T Z Z Z Z (T.e 0 Z) Z ?_;clear M T;intro g1 wc ac M T
 refine lq T (Zra Z evc) ?_;intro ac T
 replace T:=T.pick [1,3] rfl
 refine Zln ?_
 refine Zsr ?_
 refine Zg8 (v1:=(.pointer (some ⟨g1,0,none⟩))) (v3:=(.pointer (some ⟨g1,1,none⟩))) T (Zq (Zrg 0 Z (T.e 0 Z))) Z (Zo M 0 0 Z Z Z Z) Z (Zf 1 2 Z Z) Z (Zo M 0 0 Z Z Z Z) Z (Zm 5 Z Z) Z (fun _ T=>Zq (rn_mul Z (T.e 1 Z) (T.e 0 Z) (by omega))) Z (fun _ T=>Zq (rn_add Z (T.e 4 Z) (T.e 0 Z) (by omega))) Z (Za 0 Z Z) Z ?_;intro ac T
 refine wpList_nil ?_
 replace T:=T.pick [0] rfl
 replace M:=M.mask [false] rfl
 refine Znr ?_
 refine rt_1 T Z (T.e 0 Z) ?_
 exact ⟨rfl,M.below⟩
theorem checkSounds5_any (A:Option Addr) (n c:Nat) (l:List Snd) (most:Int) (w:World) (hr:Rd w w.heap.size 4 A n (sc l)) (hn:n≤1000000) :
   Calls prog 106 #[.slice A n c,.int .i64 most] w fun e w'=>e=.returned (.int .i64 (sndsE l most))∧Below w.heap.size w w':=by
 have hl:=hr.len4
 obtain ⟨bJ,oJ,SJ⟩:=Sp.old hr
 refine Zpx noEx func106 Z 36 Z [.slice A n c,.int .i64 most] Z Z (Mem.init w _) ?_
 intro ac wc T M
 refine Zsr ?_
 refine lq T (Zra Z evc) ?_;intro ac T
 replace T:=T.pick [1,2] rfl
 refine Zln ?_
 refine wp_seq ?_
 refine Zsr ?_
 refine Zg4 T (Zq (Zrm Z (T.e 0 Z))) Z (Zl underlying24 0 Z Z) Z (Zm 3 Z Z) Z (fun _ T=>Zq (rn_gtr Z (T.e 1 Z) (T.e 0 Z))) Z ?_;intro ac T
 replace T:=T.pick [0,4] rfl
 refine Zln ?_
 refine wp_if (T.e 0 Z) ?_ ?_
 ·intro h1
  refine Zsr ?_
  refine lq T (Zra Z evc) ?_;intro ac T
  replace T:=T.pick [0] rfl
  refine Zln ?_
  refine wp_ret ?_
  refine Zrt ?_
  refine rt_1 T Z (T.e 0 Z) ?_
  refine ⟨ret_int ?_,M.below⟩
  unfold sndsE
  rw [if_pos (by omega)]
 intro h1
 refine Zsk ?_
 refine wp_seq ?_
 refine Zsr ?_
 refine lq T (Zra Z evc) ?_;intro ac T
 replace T:=T.pick [0,2] rfl
 refine Zln ?_
 refine wp_block ?_
 refine wp_loop_n (fun mz ac wc=>∃ (k:Nat),mz=n - k∧(k≤n)∧(sndsL l=sndsL (l.drop k))∧Tm ac 36 [(0,.slice A n c),(5,.int .i64 (k:Int))]∧Mem w noEx wc []) ?_ ?_
 ·exact ⟨_,0,Z,(by omega),Z,T.pick [1,0] Z,M.mask [] Z⟩
 clear T M
 rintro mz ac wc ⟨k,hmm1,hk,H,T,M⟩
 refine wp_seq ?_
 refine Zsr ?_
 refine Zg4 T (Zq (Zrm Z (T.e 1 Z))) Z (Zm 1 Z Z) Z (Zl underlying24 0 Z Z) Z (fun _ T=>Zq (rn_lss Z (T.e 2 Z) (T.e 0 Z))) Z ?_;intro ac T
 replace T:=T.pick [0,4,5] rfl
 refine Zln ?_
 refine wp_if (T.e 0 Z) ?_ ?_
 ·intro h2
  obtain ⟨x,hk1,hd⟩:=sc_next (l:=l) (k:=k) (by omega)
  rw [hd,sndsL,sndE] at H
  refine Zsk ?_
  refine wp_seq ?_
  refine wp_block ?_
  refine wp_seq ?_
  refine Zsr ?_
  refine Zg5 (v5:=(.agg #[.int .i64 x.t0,.int .i64 x.t1])) T (Zq (Zrm Z (T.e 1 Z))) Z (Zm 3 Z Z) Z (fun _ T=>Zq (Zri (size:=4) k Z (T.e 1 Z) (T.e 0 Z) ⟨_,underlying24,by kernel_rfl⟩ Z (by omega) (SJ.at0 (by omega)))) Z (Zf 0 0 Z Z) Z (fun _ T=>Zq (rn_rowat (Sp.scR02 SJ M (Zz9 _) hk1) Z (T.e 0 Z) Z)) Z ?_;intro ac T
  refine Zl2 ?_
  refine Zod T Z Z Z Z evf (.cons (T.e 0 Z) (.cons evc .nil)) func171 Z Z ?_
  refine Calls.mono (checkRange5_any x.t0 x.t1 30 _ (by omega)) ?_
  clear T;rintro e wc ⟨rfl,hb⟩ ac T
  replace M:=M.call hb;clear hb
  refine lq T (Zra Z (T.e 0 Z)) ?_;intro ac T
  replace T:=T.pick [0,8,9] rfl
  refine Zln ?_
  refine Zsr ?_
  refine Zg2 T (Zq (Zrm Z (T.e 0 Z))) Z (fun _ T=>Zq (rn_neq Z (T.e 0 Z) evc)) Z ?_;intro ac T
  replace T:=T.pick [0,2,3,4] rfl
  refine Zln ?_
  refine wp_ifn (T.e 0 Z) ?_ ?_
  ·intro h3
   refine Zsr ?_
   refine Zg2 T (Zq (Zrm Z (T.e 1 Z))) Z (Za 0 Z Z) Z ?_;intro ac T
   replace T:=T.pick [0] rfl
   refine Zln ?_
   refine wp_ret ?_
   refine Zrt ?_
   refine Zrb ?_
   refine Zrt ?_
   refine Zrt ?_
   refine Zrb ?_
   refine Zrt ?_
   refine rt_1 T Z (T.e 0 Z) ?_
   refine ⟨ret_int ?_,M.below⟩
   unfold sndsE
   rw [if_neg (by omega),H]
   simp_all
  intro h3
  refine Zsk ?_
  refine Zsr ?_
  refine Zg5 (v5:=(.agg #[.int .i64 x.s0,.int .i64 x.s1])) T (Zq (Zrm Z (T.e 2 Z))) Z (Zm 4 Z Z) Z (fun _ T=>Zq (Zri (size:=4) k Z (T.e 1 Z) (T.e 0 Z) ⟨_,underlying24,by kernel_rfl⟩ Z (by omega) (SJ.at0 (by omega)))) Z (Zf 2 0 Z Z) Z (fun _ T=>Zq (rn_rowat (Sp.scR22 SJ M (Zz9 _) hk1) Z (T.e 0 Z) Z)) Z ?_;intro ac T
  refine Zl2 ?_
  refine Zod T Z Z Z Z evf (.cons (T.e 0 Z) (.cons evc .nil)) func171 Z Z ?_
  refine Calls.mono (checkRange5_any x.s0 x.s1 3 _ (by omega)) ?_
  clear T;rintro e wc ⟨rfl,hb⟩ ac T
  replace M:=M.call hb;clear hb
  refine lq T (Zra Z (T.e 0 Z)) ?_;intro ac T
  replace T:=T.pick [0,9,10] rfl
  refine Zln ?_
  refine Zsr ?_
  refine Zg2 T (Zq (Zrm Z (T.e 0 Z))) Z (fun _ T=>Zq (rn_neq Z (T.e 0 Z) evc)) Z ?_;intro ac T
  replace T:=T.pick [0,2,3,4] rfl
  refine Zln ?_
  refine wp_ifn (T.e 0 Z) ?_ ?_
  ·intro h4
   refine Zsr ?_
   refine Zg2 T (Zq (Zrm Z (T.e 1 Z))) Z (Za 0 Z Z) Z ?_;intro ac T
   replace T:=T.pick [0] rfl
   refine Zln ?_
   refine wp_ret ?_
   refine Zrb ?_
   refine Zrt ?_
   refine Zrt ?_
   refine Zrb ?_
   refine Zrt ?_
   refine rt_1 T Z (T.e 0 Z) ?_
   refine ⟨ret_int ?_,M.below⟩
   unfold sndsE
   rw [if_neg (by omega),H]
   simp_all
  intro h4
  refine wp_skip ?_
  refine Znb ?_
  refine nm_then ?_
  refine wp_region_lit ?_
  refine Zg2 T (Zq (Zrm Z (T.e 3 Z))) Z (fun _ T=>Zq (rn_add Z (T.e 0 Z) evc (by omega))) Z ?_;intro ac T
  refine l_q (v:=(.int .i64 ((k:Int)+1))) (T.pick [0,1,2,3,4] Z) Z Z Z Z (Zra Z (T.e 0 Z)) ?_;intro ac T
  replace T:=T.pick [0,5] rfl
  refine Zln ?_
  rw [if_pos (by simp_all)] at H
  exact ⟨_,by omega,k+1,Z,(by omega),H,T.pick [1,0] Z,M.mask [] Z⟩
 intro h2
 rw [List.drop_of_length_le (by omega),sndsL] at H
 refine wp_exit ?_
 refine Zet ?_
 refine Zet ?_
 refine ex_hit ?_
 refine nm_then ?_
 refine Zsr ?_
 refine lq T (Zra Z evc) ?_;intro ac T
 replace T:=T.pick [0] rfl
 refine Zln ?_
 refine wp_ret ?_
 refine rt_1 T Z (T.e 0 Z) ?_
 refine ⟨ret_int ?_,M.below⟩
 unfold sndsE
 rw [if_neg (by omega),H]
theorem plain5_any (b:Bx) (A:Option Addr) (c:Nat) (B:Option Addr) (d:Nat) (w:World)  :
  Calls prog 108 #[bxV b A c B d] w fun e w'=>e=.returned (jobV (blankJ b) none 0)∧Below w.heap.size w w':=by
 refine Zpx noEx func108 Z 16 Z [.agg #[.int .i64 b.first,.int .i64 b.step,.int .i64 b.span,.int .i64 b.press,.int .i64 b.note,.slice A b.lows.length c,.slice B b.highs.length d,.int .i64 b.t0,.int .i64 b.t1,.int .i64 b.r0,.int .i64 b.r1,.int .i64 b.u0,.int .i64 b.u1,.int .i64 b.d0,.int .i64 b.d1,.int .i64 b.a0,.int .i64 b.a1,.int .i64 b.b0,.int .i64 b.b1,.int .i64 b.le,.int .i64 b.me]] Z Z (Mem.init w _) ?_
 intro ac wc T M
 refine Zsr ?_
 refine Zl2 ?_
 refine Zob M T Z Z Z Z (T.e 0 Z) Z ?_;clear M T;intro g1 wc ac M T
 refine Zl2 ?_
 refine Zoa M T Z Z Z Z ?_;clear M T;intro g2 wc ac M T
 replace T:=T.pick [0,1] rfl
 refine Zln ?_
 refine Zsr ?_
 refine Zg8 (v1:=(.pointer (some ⟨g1,7,none⟩))) (v3:=(.pointer (some ⟨g1,9,none⟩))) (v5:=(.agg #[.int .i64 0,.int .i64 0,.int .i64 b.t0,.int .i64 b.t1,.int .i64 b.r0,.int .i64 b.r1])) (v6:=(.pointer (some ⟨g1,11,none⟩))) (v8:=(.pointer (some ⟨g1,0,none⟩))) T (Zq (Zrg 7 Z (T.e 1 Z))) Z (Zr M 1 0 Z Z Z Z) Z (Zf 9 3 Z Z) Z (Zr M 1 0 Z Z Z Z) Z (fun _ T=>Zq (rn_build Z (.cons (T.e 2 Z) (.cons (T.e 0 Z) .nil)) (fun _=>by kernel_rfl))) Z (Zf 11 6 Z Z) Z (Zr M 1 0 Z Z Z Z) Z (Zf 0 8 Z Z) Z ?_;intro ac T
 refine Zg5 (v1:=(.pointer (some ⟨g1,2,none⟩))) (v3:=(.pointer (some ⟨g1,20,none⟩))) (v5:=(.agg #[.int .i64 0,.int .i64 0,.int .i64 b.t0,.int .i64 b.t1,.int .i64 b.r0,.int .i64 b.r1,.int .i64 b.u0,.int .i64 b.u1,.int .i64 b.d0,.int .i64 b.d1,.int .i64 b.a0,.int .i64 b.a1,.int .i64 b.b0,.int .i64 b.b1,.int .i64 b.le,.slice none 0 0,.int .i64 b.span,.int .i64 b.me])) T (Zq (Zrg 2 Z (T.e 0 Z))) Z (Zo M 1 0 Z Z Z Z) Z (Zf 20 11 Z Z) Z (Zo M 1 0 Z Z Z Z) Z (fun _ T=>Zq (rn_build Z (.cons (T.e 7 Z) (.cons (T.e 5 Z) (.cons (T.e 2 Z) (.cons (T.e 0 Z) .nil)))) (fun _=>by kernel_rfl))) Z ?_;intro ac T
 refine Zl2 ?_
 refine Zot M T Z Z (T.e 13 Z) (T.e 0 Z) Z .head Z Z ?_;clear M T;intro wc ac M T
 refine wpList_nil ?_
 replace T:=T.pick [13] rfl
 replace M:=M.mask [true,false] rfl
 refine Znr ?_
 refine rt_c M T Z (T.e 0 Z) (Zne (i:=0) Z) Z ?_
 exact ⟨rfl,M.below⟩
theorem Check5_any (b:Bx) (A:Option Addr) (c:Nat) (B:Option Addr) (d:Nat) (w:World) (hA:Rd w w.heap.size 4 A b.lows.length (sc b.lows)) (hB:Rd w w.heap.size 4 B b.highs.length (sc b.highs)) (nA:b.lows.length≤1000000) (nB:b.highs.length≤1000000)  :
   Calls prog 42 #[bxV b A c B d] w fun e w'=>e=.returned (.int .i64 (checkB b))∧Below w.heap.size w w':=by
 have hlA:=hA.len4
 have hlB:=hB.len4
 obtain ⟨bA,oA,SA⟩:=Sp.old hA
 obtain ⟨bB,oB,SB⟩:=Sp.old hB
 refine Zpx noEx func42 Z 40 Z [.agg #[.int .i64 b.first,.int .i64 b.step,.int .i64 b.span,.int .i64 b.press,.int .i64 b.note,.slice A b.lows.length c,.slice B b.highs.length d,.int .i64 b.t0,.int .i64 b.t1,.int .i64 b.r0,.int .i64 b.r1,.int .i64 b.u0,.int .i64 b.u1,.int .i64 b.d0,.int .i64 b.d1,.int .i64 b.a0,.int .i64 b.a1,.int .i64 b.b0,.int .i64 b.b1,.int .i64 b.le,.int .i64 b.me]] Z Z (Mem.init w _) ?_
 intro ac wc T M
 refine Zsr ?_
 refine Zl2 ?_
 refine Zob M T Z Z Z Z (T.e 0 Z) Z ?_;clear M T;intro g1 wc ac M T
 refine lq T (Zra Z evc) ?_;intro ac T
 replace T:=T.pick [1] rfl
 refine Zln ?_
 refine wp_seq ?_
 refine Zsr ?_
 refine Zg2 (v1:=(.pointer (some ⟨g1,0,none⟩))) T (Zq (Zrg 0 Z (T.e 0 Z))) Z (Zr M 0 0 Z Z Z Z) Z ?_;intro ac T
 refine Zl2 ?_
 refine Zod T Z Z Z Z evf (.cons (T.e 0 Z) .nil) func103 Z Z ?_
 refine Calls.mono (checkLaw5_any b.law _) ?_
 clear T;rintro e wc ⟨rfl,hb⟩ ac T
 replace M:=M.call hb;clear hb
 refine lq T (Zra Z (T.e 0 Z)) ?_;intro ac T
 replace T:=T.pick [0,4] rfl
 refine Zln ?_
 refine Zsr ?_
 refine Zg2 T (Zq (Zrm Z (T.e 0 Z))) Z (fun _ T=>Zq (rn_neq Z (T.e 0 Z) evc)) Z ?_;intro ac T
 replace T:=T.pick [0,2,3] rfl
 refine Zln ?_
 refine wp_ifn (T.e 0 Z) ?_ ?_
 ·intro h1
  refine Zsr ?_
  refine Zg2 T (Zq (Zrm Z (T.e 1 Z))) Z (Za 0 Z Z) Z ?_;intro ac T
  refine wpList_nil ?_
  replace T:=T.pick [0] rfl
  replace M:=M.mask [false] rfl
  refine Znr ?_
  refine Zrt ?_
  refine rt_1 T Z (T.e 0 Z) ?_
  refine ⟨ret_int ?_,M.below⟩
  unfold checkB
  first | (simp_all [withinB,Bx.due];done) | (simp_all [withinB,Bx.due];omega)
 intro h1
 have gl:=lawE_good (l:=b.law) (by simpa using h1)
 obtain ⟨gl1,gl2,gl3,gl4⟩:=gl
 dsimp only at gl1 gl2 gl3 gl4
 refine Zsk ?_
 refine wp_seq ?_
 refine cut_seq (fun ac wc=>Tm ac 40 [(1,.pointer (some ⟨g1,0,none⟩)),(24,.bool ((!(withinB b.note 0 11)) || (!(withinB (b.first+b.step * b.note) 0 30))))]∧Mem w noEx wc [(g1,.cells [.int .i64 b.first,.int .i64 b.step,.int .i64 b.span,.int .i64 b.press,.int .i64 b.note,.slice A b.lows.length c,.slice B b.highs.length d,.int .i64 b.t0,.int .i64 b.t1,.int .i64 b.r0,.int .i64 b.r1,.int .i64 b.u0,.int .i64 b.u1,.int .i64 b.d0,.int .i64 b.d1,.int .i64 b.a0,.int .i64 b.a1,.int .i64 b.b0,.int .i64 b.b1,.int .i64 b.le,.int .i64 b.me])]) ?_ ?_
 ·refine wp_region_lit ?_
  refine Zg2 (v1:=(.pointer (some ⟨g1,4,none⟩))) T (Zq (Zrg 4 Z (T.e 2 Z))) Z (Zo M 0 0 Z Z Z Z) Z ?_;intro ac T
  refine Zl2 ?_
  refine Zod T Z Z Z Z evf (.cons (T.e 0 Z) (.cons evc (.cons evc .nil))) func104 Z Z ?_
  refine Calls.mono (among5_any b.note 0 11 _) ?_
  clear T;rintro e wc ⟨rfl,hb⟩ ac T
  replace M:=M.call hb;clear hb
  refine Zg2 T (Zq (rn_not Z (T.e 0 Z))) Z (Zm 0 Z Z) Z ?_;intro ac T
  rcases Zx9 (!(withinB b.note 0 11)) with h2 | h2
  ·have hn9:=h2
   refine Zg8 T (Zp (Zwn Z Z (T.e 0 Z) h2)) Z (fun _ T=>Zp (Zwn Z Z (T.e 1 Z) h2)) Z (fun _ T=>Zp (Zwn Z Z (T.e 2 Z) h2)) Z (fun _ T=>Zp (Zwn Z Z (T.e 3 Z) h2)) Z (fun _ T=>Zp (Zwn Z Z (T.e 4 Z) h2)) Z (fun _ T=>Zp (Zwn Z Z (T.e 5 Z) h2)) Z (fun _ T=>Zp (Zwn Z Z (T.e 6 Z) h2)) Z (fun _ T=>Zq (Zr1 Z (T.e 7 Z) h2 evc)) Z ?_;intro ac T
   refine wpList_nil ?_
   replace T:=T.pick [0,15] rfl
   exact ⟨(T.pick (E':=[(1,.pointer (some ⟨g1,0,none⟩)),(24,.bool true)]) [1,0] Z).as (by (try rw [show (!(withinB b.note 0 11))=true from h2]);(try rfl)),M.mask [true] Z⟩
  have hn9:0≤b.note∧b.note≤11:=by unfold withinB at h2;simpa using h2
  refine Zg4 (v1:=(.pointer (some ⟨g1,0,none⟩))) (v3:=(.pointer (some ⟨g1,4,none⟩))) T (Zw (Zwy Z Z (T.e 0 Z) h2) (Zrg 0 Z (T.e 7 Z))) Z (fun _ T=>Zw (Zwy Z Z (T.e 1 Z) h2) (Zrr (Mem.nth M 0 Z) Z (T.e 0 Z) Z)) Z (fun _ T=>Zw (Zwy Z Z (T.e 2 Z) h2) (Zrg 4 Z (T.e 9 Z))) Z (fun _ T=>Zw (Zwy Z Z (T.e 3 Z) h2) (Zro (Mem.nth M 0 Z) Z (T.e 0 Z) Z)) Z ?_;intro ac T
  refine l_w (Zwy Z Z (T.e 4 Z) h2) ?_;intro K hK
  refine Zod T Z Z Z Z evf (.cons (T.e 2 Z) (.cons (T.e 0 Z) .nil)) func105 Z Z ?_
  refine Calls.mono (due5_any b.law b.note _ (by (try dsimp only);omega) (by (try dsimp only);omega) (by (try dsimp only);omega)) ?_
  clear T;rintro e wc ⟨rfl,hb⟩ ac T
  replace M:=M.call hb;clear hb
  refine Zso hK _ _ ?_;clear hK K
  refine l_w (Zwy Z Z (T.e 5 Z) h2) ?_;intro K hK
  refine Zod T Z Z Z Z evf (.cons (T.e 0 Z) (.cons evc (.cons evc .nil))) func104 Z Z ?_
  refine Calls.mono (among5_any (b.first+b.step * b.note) 0 30 _) ?_
  clear T;rintro e wc ⟨rfl,hb⟩ ac T
  replace M:=M.call hb;clear hb
  refine Zso hK _ _ ?_;clear hK K
  refine Zg2 T (Zw (Zwy Z Z (T.e 6 Z) h2) (rn_not Z (T.e 0 Z))) Z (fun _ T=>Zq (Zr0 Z (T.e 7 Z) h2 (T.e 0 Z))) Z ?_;intro ac T
  refine wpList_nil ?_
  replace T:=T.pick [0,15] rfl
  exact ⟨(T.pick (E':=[(1,.pointer (some ⟨g1,0,none⟩)),(24,.bool (!(withinB (b.first+b.step * b.note) 0 30)))]) [1,0] Z).as (by (try rw [show (!(withinB b.note 0 11))=false from h2]);(try rfl)),M.mask [true] Z⟩
 clear T M
 rintro ac wc ⟨T,M⟩
 refine wp_cond_split (T.e 1 Z) ?_ ?_
 ·intro h3
  (have h3':=h3;try simp only [Zb1,Zb2,Zb3,Zb4,Zb5,Zb6,Zb7] at h3')
  refine Zsr ?_
  refine lq T (Zra Z evc) ?_;intro ac T
  refine wpList_nil ?_
  replace T:=T.pick [0] rfl
  replace M:=M.mask [false] rfl
  refine Znr ?_
  refine Zrt ?_
  refine rt_1 T Z (T.e 0 Z) ?_
  refine ⟨ret_int ?_,M.below⟩
  unfold checkB
  first | (simp_all [withinB,Bx.due];done) | (simp_all [withinB,Bx.due];omega)
 intro h3
 (have h3':=h3;try simp only [Zb1,Zb2,Zb3,Zb4,Zb5,Zb6,Zb7] at h3')
 refine Zsk ?_
 refine wp_seq ?_
 refine Zsr ?_
 refine Zg2 (v1:=(.pointer (some ⟨g1,5,none⟩))) T (Zq (Zrg 5 Z (T.e 0 Z))) Z (Zo M 0 0 Z Z Z Z) Z ?_;intro ac T
 refine Zl2 ?_
 refine Zod T Z Z Z Z evf (.cons (T.e 0 Z) (.cons evc .nil)) func106 Z Z ?_
 refine Calls.mono (checkSounds5_any _ _ _ b.lows 4 _ (SA.rd M (Zz9 _)) (by first | omega | (simp only [Zx1,Zx2];omega))) ?_
 clear T;rintro e wc ⟨rfl,hb⟩ ac T
 replace M:=M.call hb;clear hb
 refine lq T (Zra Z (T.e 0 Z)) ?_;intro ac T
 replace T:=T.pick [0,4] rfl
 refine Zln ?_
 refine Zsr ?_
 refine Zg2 T (Zq (Zrm Z (T.e 0 Z))) Z (fun _ T=>Zq (rn_neq Z (T.e 0 Z) evc)) Z ?_;intro ac T
 replace T:=T.pick [0,2,3] rfl
 refine Zln ?_
 refine wp_ifn (T.e 0 Z) ?_ ?_
 ·intro h4
  refine Zsr ?_
  refine Zg2 T (Zq (Zrm Z (T.e 1 Z))) Z (Za 0 Z Z) Z ?_;intro ac T
  refine wpList_nil ?_
  replace T:=T.pick [0] rfl
  replace M:=M.mask [false] rfl
  refine Znr ?_
  refine Zrt ?_
  refine rt_1 T Z (T.e 0 Z) ?_
  refine ⟨ret_int ?_,M.below⟩
  unfold checkB
  first | (simp_all [withinB,Bx.due];done) | (simp_all [withinB,Bx.due];omega)
 intro h4
 refine Zsk ?_
 refine wp_seq ?_
 refine Zsr ?_
 refine Zg2 (v1:=(.pointer (some ⟨g1,6,none⟩))) T (Zq (Zrg 6 Z (T.e 2 Z))) Z (Zo M 0 0 Z Z Z Z) Z ?_;intro ac T
 refine Zl2 ?_
 refine Zod T Z Z Z Z evf (.cons (T.e 0 Z) (.cons evc .nil)) func106 Z Z ?_
 refine Calls.mono (checkSounds5_any _ _ _ b.highs 5 _ (SB.rd M (Zz9 _)) (by first | omega | (simp only [Zx1,Zx2];omega))) ?_
 clear T;rintro e wc ⟨rfl,hb⟩ ac T
 replace M:=M.call hb;clear hb
 refine lq T (Zra Z (T.e 0 Z)) ?_;intro ac T
 replace T:=T.pick [0,6] rfl
 refine Zln ?_
 refine Zsr ?_
 refine Zg2 T (Zq (Zrm Z (T.e 0 Z))) Z (fun _ T=>Zq (rn_neq Z (T.e 0 Z) evc)) Z ?_;intro ac T
 replace T:=T.pick [0,2,3] rfl
 refine Zln ?_
 refine wp_ifn (T.e 0 Z) ?_ ?_
 ·intro h5
  refine Zsr ?_
  refine Zg2 T (Zq (Zrm Z (T.e 1 Z))) Z (Za 0 Z Z) Z ?_;intro ac T
  refine wpList_nil ?_
  replace T:=T.pick [0] rfl
  replace M:=M.mask [false] rfl
  refine Znr ?_
  refine Zrt ?_
  refine rt_1 T Z (T.e 0 Z) ?_
  refine ⟨ret_int ?_,M.below⟩
  unfold checkB
  first | (simp_all [withinB,Bx.due];done) | (simp_all [withinB,Bx.due];omega)
 intro h5
 refine Zsk ?_
 refine Zsr ?_
 refine lq T (Zrr (Mem.nth M 0 Z) Z (T.e 2 Z) Z) ?_;intro ac T
 refine Zl2 ?_
 refine Zod T Z Z Z Z evf (.cons (T.e 0 Z) .nil) func108 Z Z ?_
 refine Calls.mono (plain5_any b A c B d _) ?_
 clear T;rintro e wc ⟨rfl,hb⟩ ac T
 replace M:=M.call hb;clear hb
 refine Zl2 ?_
 refine Zod T Z Z Z Z evf (.cons (T.e 0 Z) .nil) func107 Z Z ?_
 refine Calls.mono (rCheck_any (blankJ b) none 0 _ Rd.empty (by show (0:Nat)≤_;omega)) ?_
 clear T;rintro e wc ⟨rfl,hb⟩ ac T
 replace M:=M.call hb;clear hb
 refine lq T (Zra Z (T.e 0 Z)) ?_;intro ac T
 refine wpList_nil ?_
 replace T:=T.pick [0] rfl
 replace M:=M.mask [false] rfl
 refine Znr ?_
 refine rt_1 T Z (T.e 0 Z) ?_
 refine ⟨ret_int ?_,M.below⟩
 unfold checkB
 first | (simp_all [withinB,Bx.due];done) | (simp_all [withinB,Bx.due];omega)
theorem g_m4 {P:Program} {ops:Array Oper} {Q:Exit→Act→World→Prop} {S:Array Bool→World→Prop} {fuel:Nat} {l:Array Bool} {a:Act} {w:World} {i j k k4:Nat} (hr:Region.ready .any ops l=[i,j,k,k4])
  (h:wpGi P ops Q S fuel l i a w) (h':wpGi P ops Q S fuel l j a w) (h'':wpGi P ops Q S fuel l k a w) (h4:wpGi P ops Q S fuel l k4 a w):wpG P ops Q S (fuel+1) l a w:=fun hD _ =>
 ⟨fun h0=>(by rw [hr] at h0;cases h0),fun m hk=>by
  have hk':=hk
  rw [hr] at hk'
  simp only [Zx7,Zx8,or_false] at hk'
  rcases hk' with rfl | rfl | rfl | rfl
  ·exact h (hD.step hk)
  ·exact h' (hD.step hk)
  ·exact h'' (hD.step hk)
  ·exact h4 (hD.step hk)⟩
def shlI (x n:Int):Int:=IntKind.i64.wrap (x * 2 ^ min n.toNat 64)
def shrI (x n:Int):Int:=x.fdiv (2 ^ min n.toNat 64)
def andI (x y:Int):Int:=IntKind.i64.wrap ((BitVec.ofInt 64 x &&& BitVec.ofInt 64 y).toNat)
def orI (x y:Int):Int:=IntKind.i64.wrap ((BitVec.ofInt 64 x ||| BitVec.ofInt 64 y).toNat)
section
variable {P:Program} {op:Oper} {a:Act} {w:World} {t t':TypeId} {x y:Operand} {p q:Int}
theorem rn_shl (ho:op.op=.binOp .shl t x y t') (hx:a.eval x=.int .i64 p) (hy:a.eval y=.int .i64 q) (hb:0≤q):Runs P op a (.int .i64 (shlI p q)) w :=
 rn_bin ho hx hy (by
  show (Op.shift .shl .i64 p .i64 q).run P w=_
  unfold Op.shift
  rw [if_neg (by omega)]
  rfl)
theorem rn_shr (ho:op.op=.binOp .shr t x y t') (hx:a.eval x=.int .i64 p) (hy:a.eval y=.int .i64 q) (hb:0≤q):Runs P op a (.int .i64 (shrI p q)) w :=
 rn_bin ho hx hy (by
  show (Op.shift .shr .i64 p .i64 q).run P w=_
  unfold Op.shift
  rw [if_neg (by omega)]
  rfl)
theorem rn_and (ho:op.op=.binOp .and t x y t') (hx:a.eval x=.int .i64 p) (hy:a.eval y=.int .i64 q):Runs P op a (.int .i64 (andI p q)) w:=rn_bin ho hx hy rfl
theorem rn_or (ho:op.op=.binOp .or t x y t') (hx:a.eval x=.int .i64 p) (hy:a.eval y=.int .i64 q):Runs P op a (.int .i64 (orI p q)) w:=rn_bin ho hx hy rfl
end
def hasI (s n:Int):Bool:=decide (andI (shrI s n) 1=1)
def withI (s n:Int):Int:=orI s (shlI 1 n)
def sizeI (s:Int):Nat:=(List.range 5).countP fun k=>hasI s (k:Nat)
theorem with_fin:∀ (s:Fin 32) (n:Fin 5),(0≤withI s.val n.val∧withI s.val n.val < 32)∧∀ k:Fin 5,hasI (withI s.val n.val) k.val=(hasI s.val k.val || decide (k=n)):=by decide +kernel
theorem size_fin:∀ s:Fin 32,0 < s.val→(0≤andI s.val ((s.val:Int) - 1)∧andI s.val ((s.val:Int) - 1) < s.val)∧sizeI (andI s.val ((s.val:Int) - 1))+1=sizeI s.val:=by decide +kernel
theorem with_bd {s n:Int} (hs:0≤s∧s < 32) (hn:0≤n∧n < 5):0≤withI s n∧withI s n < 32:=by
 have h:=(with_fin ⟨s.toNat,by omega⟩ ⟨n.toNat,by omega⟩).1
 simp only [Int.toNat_of_nonneg hs.1,Int.toNat_of_nonneg hn.1] at h
 exact h
theorem with_has {s n k:Int} (hs:0≤s∧s < 32) (hn:0≤n∧n < 5) (hk:0≤k∧k < 5):hasI (withI s n) k=(hasI s k || decide (k=n)):=by
 have h:=(with_fin ⟨s.toNat,by omega⟩ ⟨n.toNat,by omega⟩).2 ⟨k.toNat,by omega⟩
 simp only [Int.toNat_of_nonneg hs.1,Int.toNat_of_nonneg hn.1,Int.toNat_of_nonneg hk.1] at h
 rw [h]
 congr 1
 apply decide_eq_decide.2
 rw [Fin.mk.injEq]
 omega
theorem size_step {s:Int} (hs:0 < s∧s < 32):(0≤andI s (s - 1)∧andI s (s - 1) < s)∧sizeI (andI s (s - 1))+1=sizeI s:=by
 have h:=size_fin ⟨s.toNat,by omega⟩ (by show 0 < s.toNat;omega)
 simp only [Int.toNat_of_nonneg (show 0≤s by omega)] at h
 exact h
theorem has0 {k:Int} (hk:0≤k∧k < 5):hasI 0 k=false:=by
 have h:∀ k:Fin 5,hasI 0 k.val=false:=by decide +kernel
 have:=h ⟨k.toNat,by omega⟩
 simpa only [Int.toNat_of_nonneg hk.1] using this
theorem size0:sizeI 0=0:=by decide +kernel
def pairsP:List Int→Int
 | []=>0
 | h::l=>(if 0≤h then 1 else 0)+pairsP l
theorem pairsP_snoc (l:List Int) (h:Int):pairsP (l++[h])=pairsP l+(if 0≤h then 1 else 0):=by
 induction l with
 | nil=>simp [pairsP]
 | cons x l ih =>
  show _+pairsP (l++[h])=_+pairsP l+_
  rw [ih]
  omega
def offerP:Option (List Int)→List Int→Option (List Int)
 | none,l=>some l
 | some b,l=>if pairsP b < pairsP l then some l else some b
def goP (may:Nat→Nat→Bool) (l:List Int) (h:Nat):Bool:=!(l.contains (h:Int)) && may l.length h
def prsP (may:Nat→Nat→Bool) (highs:Nat):Nat→List Int→List (List Int)
 | 0,l=>[l]
 | r+1,l=>((List.range highs).flatMap fun h=>if goP may l h then prsP may highs r (l++[(h:Int)]) else [])++prsP may highs r (l++[-1])
def growP (may:Nat→Nat→Bool) (highs r:Nat) (l:List Int) (b:Option (List Int)):Option (List Int):=(prsP may highs r l).foldl offerP b
def partP (may:Nat→Nat→Bool) (highs r:Nat) (l:List Int) (b:Option (List Int)) (h:Nat):Option (List Int):=((List.range h).flatMap fun h=>if goP may l h then prsP may highs r (l++[(h:Int)]) else []).foldl offerP b
theorem partP_zero (may:Nat→Nat→Bool) (highs r:Nat) (l:List Int) (b:Option (List Int)):partP may highs r l b 0=b:=rfl
theorem partP_skip {may:Nat→Nat→Bool} {highs r:Nat} {l:List Int} {b:Option (List Int)} {h:Nat} (hg:goP may l h=false):partP may highs r l b (h+1)=partP may highs r l b h:=by
 unfold partP
 rw [List.range_succ,List.flatMap_append,List.foldl_append]
 simp [hg]
theorem partP_go {may:Nat→Nat→Bool} {highs r:Nat} {l:List Int} {b:Option (List Int)} {h:Nat} (hg:goP may l h=true):partP may highs r l b (h+1)=growP may highs r (l++[(h:Int)]) (partP may highs r l b h):=by
 unfold partP growP
 rw [List.range_succ,List.flatMap_append,List.foldl_append]
 simp [hg]
theorem growP_succ (may:Nat→Nat→Bool) (highs r:Nat) (l:List Int) (b:Option (List Int)):growP may highs (r+1) l b=growP may highs r (l++[-1]) (partP may highs r l b highs):=by
 unfold growP partP
 rw [prsP,List.foldl_append]
def tabP (T:List (List Int)) (ok:Int→Bool) (i k:Nat):Bool:=ok ((T.getD i []).getD k 0)
def mostO (T:List (List Int)) (ok:Int→Bool) (lows highs:Nat):Option (List Int):=growP (tabP T ok) highs lows [] none
def mostP (T:List (List Int)) (ok:Int→Bool) (lows highs:Nat):List Int:=(mostO T ok lows highs).getD []
theorem Mem.joinX {w0 w w':World} {ex ex':Nat→Prop} {X X' F:List (Nat×BA)} (M:Mem w0 ex w (X++F)) (N:Mem w ex' w' X') (hx:∀ b,ex' b→inL X b):Mem w0 ex w' (X'++F):=by
 have hX:∀ b,ex' b→w0.heap.size≤b∨ex b:=fun b hb=>by
  obtain ⟨q,hq,rfl⟩:=List.mem_map.1 (hx b hb)
  exact (M.blk q (List.mem_append_left _ hq)).1
 have hnd:=M.nd
 rw [List.map_append] at hnd
 obtain ⟨n1,n2,n3⟩:=List.nodup_append.1 hnd
 refine ⟨N.os.trans M.os,N.tape.trans M.tape,N.output.trans M.output,Nat.le_trans M.size N.size,fun b hb hxb=>?_,fun q hq=>?_,?_⟩
 ·refine (N.block b (Nat.lt_of_lt_of_le hb M.size) fun e=>?_).trans (M.block b hb hxb)
  rcases hX b e with h | h
  ·omega
  ·exact hxb h
 ·rcases List.mem_append.1 hq with hq | hq
  ·have h:=N.blk q hq
   refine ⟨?_,h.2⟩
   rcases h.1 with h | h
   ·exact .inl (Nat.le_trans M.size h)
   ·exact hX _ h
  ·have h:=M.blk q (List.mem_append_right _ hq)
   exact ⟨h.1,BA.same h.2 N.size (N.block _ (BA.lt h.2) fun e=>by
    obtain ⟨r,hr,e2⟩:=List.mem_map.1 (hx _ e)
    exact n3 r.1 (List.mem_map.2 ⟨r,hr,Z⟩) q.1 (List.mem_map.2 ⟨q,hq,Z⟩) e2)⟩
 ·rw [List.map_append]
  refine List.nodup_append.2 ⟨N.nd,n2,fun a ha b hb e=>?_⟩
  obtain ⟨q,hq,rfl⟩:=List.mem_map.1 ha
  obtain ⟨r,hr,rfl⟩:=List.mem_map.1 hb
  have h2:=BA.lt (M.blk r (List.mem_append_right _ hr)).2
  rcases (N.blk q hq).1 with h1 | h1
  ·omega
  ·obtain ⟨s,hs,e2⟩:=List.mem_map.1 (hx _ h1)
   exact n3 s.1 (List.mem_map.2 ⟨s,hs,Z⟩) r.1 (List.mem_map.2 ⟨r,hr,Z⟩) (e2.trans e)
theorem Mem.spin {w0 w:World} {ex:Nat→Prop} (X Y Z:List (Nat×BA)) (M:Mem w0 ex w (X++(Y++Z))):Mem w0 ex w (X++(Z++Y)) :=
 have hp:(X++(Y++Z)).Perm (X++(Z++Y)):=List.Perm.append_left X List.perm_append_comm
 ⟨M.os,M.tape,M.output,M.size,M.block,fun p h=>M.blk p (hp.mem_iff.2 h),(hp.map _).nodup_iff.1 M.nd⟩
theorem Mem.wide {w0 w w':World} {ex ex':Nat→Prop} {L L':List (Nat×BA)} (M:Mem w0 ex w L) (N:Mem w ex' w' L') (hx:∀ b,ex' b→inL L b):Mem w0 ex w' [] :=
 (Mem.joinX (F:=[]) (by rw [Zx4];exact M) N hx).sub (Zz9 _)
theorem Sp.move {w0 w:World} {ex ex':Nat→Prop} {L:List (Nat×BA)} {A:Option Addr} {n size b o:Nat} {xs:List Value} (M:Mem w0 ex w L) (hx:∀ b,ex' b→inL L b) (S:Sp w0 ex [] A n size b o xs):Sp w ex' [] A n size b o xs :=
 ⟨S.at0,S.len,fun w' L' M' _ hn=>S.lt w' [] (M.wide M' hx) (List.Sublist.refl _) hn,fun w' L' M' _ j v hv=>S.cell w' [] (M.wide M' hx) (List.Sublist.refl _) j v hv⟩
def Old (w:World) (ex:Nat→Prop) (g:Nat) (cs:List Value):Prop:=Bk w g cs.toArray∧¬ ex g
theorem Old.move {w0 w:World} {ex ex':Nat→Prop} {L:List (Nat×BA)} {g:Nat} {cs:List Value} (M:Mem w0 ex w L) (hx:∀ b,ex' b→inL L b) (h:Old w0 ex g cs):Old w ex' g cs :=
 ⟨M.old h.1 h.2,fun e=>by
  obtain ⟨q,hq,rfl⟩:=List.mem_map.1 (hx _ e)
  have:=h.1.lt
  rcases (M.blk q hq).1 with h1 | h1
  ·omega
  ·exact h.2 h1⟩
theorem Old.of {w0 w:World} {ex ex':Nat→Prop} {L X:List (Nat×BA)} {g:Nat} {cs:List Value} (M:Mem w0 ex w (X++L)) (hx:∀ b,ex' b→inL X b) (h:(g,BA.cells cs)∈L):Old w ex' g cs :=
 ⟨M.get (List.mem_append_right _ h),fun e=>by
  have hnd:=M.nd
  rw [List.map_append] at hnd
  obtain ⟨s,hs,e2⟩:=List.mem_map.1 (hx _ e)
  exact (List.nodup_append.1 hnd).2.2 s.1 (List.mem_map.2 ⟨s,hs,Z⟩) g (List.mem_map.2 ⟨_,h,Z⟩) e2⟩
theorem Sp.of {w0 w:World} {ex ex':Nat→Prop} {L X I:List (Nat×BA)} {A:Option Addr} {n size b o:Nat} {xs:List Value} (M:Mem w0 ex w (X++L)) (hx:∀ b,ex' b→inL X b) (S:Sp w0 ex I A n size b o xs) (hI:I.Sublist L):Sp w ex' [] A n size b o xs :=
 ⟨S.at0,S.len,fun w' L' M' _ hn=>S.lt w' _ (Mem.joinX M M' hx) (hI.trans (Zsq _ _)) hn,fun w' L' M' _ j v hv=>S.cell w' _ (Mem.joinX M M' hx) (hI.trans (Zsq _ _)) j v hv⟩
theorem Sp.other {w:World} {n g:Nat} {A:Option Addr} {l:List Int} {cs:List Value} (h:Rd w w.heap.size 1 A n (ic l)) (hB:Bk w g cs.toArray) (hc:∀ v∈cs,∀ k i,v≠.int k i):∃ b o,Sp w (fun b=>b=g) [] A n 1 b o (ic l):=by
 rcases Nat.eq_zero_or_pos n with rfl | hn
 ·refine ⟨0,0,by omega,h.1,fun _ _ _ _ h=>absurd h (by omega),fun _ _ _ _ j u hu=>?_⟩
  have:ic l=[]:=List.eq_nil_of_length_eq_zero (by have:=h.1;omega)
  simp [this] at hu
 ·obtain ⟨b,o,h1,h2,h3⟩:=h.2 hn
  refine ⟨b,o,fun _=>h1,h.1,fun w' L M _ _=>Nat.lt_of_lt_of_le h2 M.size,fun w' L M _ j u hu=>(World.cell?_of_block (w:=w) (a:=⟨b,o+j,none⟩) (M.block b h2 fun e=>?_)).trans (h3 j u hu)⟩
  have e:b=g:=e
  subst e
  have hl:=h.1
  rw [ic_length] at hl
  obtain ⟨x,hx⟩:∃ x,l[0]? = some x:=⟨_,List.getElem?_eq_getElem (by omega)⟩
  have h4:=h3 0 (.int .i64 x) (by unfold ic;rw [List.getElem?_map,hx];rfl)
  rw [hB.cell] at h4
  have h5:(cs.toArray)[o+0]? = some (.int .i64 x):=h4
  have h6:Value.int .i64 x∈cs:=by
   rw [List.getElem?_toArray] at h5
   exact List.mem_of_getElem? h5
  exact hc _ h6 _ _ Z
def KS (best:Option (List Int)) (A:Option Addr) (n:Nat) (is:Bool) (I:List (Nat×BA)):Prop :=
 n=(best.getD []).length∧n≤5∧is=best.isSome∧∃ b o,∀ (w:World) (ex:Nat→Prop),Sp w ex I A n 1 b o (ic (best.getD []))
theorem KS.nil (A:Option Addr):KS none A 0 false []:=⟨rfl,by omega,rfl,0,0,fun _ _=>Sp.nil⟩
def offC (is:Bool) (lb l:List Int) (new old:Value):List Value:=if ((!is) || decide (pairsP lb < pairsP l))=true then [new,.bool true] else [old,.bool is]
theorem offer_ks {best:Option (List Int)} {l:List Int} {A Ab:Option Addr} {n nb c cb:Nat} {is:Bool} {I Ib:List (Nat×BA)} (h:KS best Ab nb is Ib) (hl:∃ b o,∀ (w:World) (ex:Nat→Prop),Sp w ex I A n 1 b o (ic l)) (hn:n=l.length) (hn5:n≤5) :
  ∃ A' n' c' is' I',offC is (best.getD []) l (.slice A n c) (.slice Ab nb cb)=[.slice A' n' c',.bool is']∧KS (offerP best l) A' n' is' I'∧(I'=I∨I'=Ib):=by
 obtain ⟨h1,h2,rfl,h3⟩:=h
 cases best with
 | none=>exact ⟨A,n,c,true,I,by simp [offC],⟨hn,hn5,rfl,hl⟩,.inl rfl⟩
 | some b =>
  by_cases hp:pairsP b < pairsP l
  ·exact ⟨A,n,c,true,I,by simp [offC,hp],by simp only [offerP,hp,if_true];exact ⟨hn,hn5,Z,hl⟩,.inl Z⟩
  ·exact ⟨Ab,nb,cb,true,Ib,by simp [offC,hp],by simp only [offerP,hp,if_false];exact ⟨h1,h2,Z,h3⟩,.inr Z⟩
def UsedOk (s:Int) (l:List Int):Prop:=(0≤s∧s < 32)∧∀ k:Nat,k < 5→hasI s k=l.contains (k:Int)
theorem UsedOk.nil:UsedOk 0 []:=⟨by omega,fun k hk=>by rw [has0 (by omega)];rfl⟩
theorem UsedOk.with {s:Int} {l:List Int} {h:Nat} (u:UsedOk s l) (hh:h < 5):UsedOk (withI s h) (l++[(h:Int)]):=by
 refine ⟨with_bd u.1 (by omega),fun k hk=>?_⟩
 rw [with_has u.1 (by omega) (by omega),u.2 k hk]
 simp [List.contains_eq_any_beq,List.any_append,eq_comm]
 try rfl
theorem UsedOk.skip {s:Int} {l:List Int} (u:UsedOk s l):UsedOk s (l++[-1]):=by
 refine ⟨u.1,fun k hk=>?_⟩
 rw [u.2 k hk]
 have:((k:Int) == -1)=false:=by rw [beq_eq_false_iff_ne];omega
 simp [List.contains_eq_any_beq,List.any_append,this]
def stG (may:Nat→Nat→Bool) (highs r:Nat) (l:List Int) (b:Option (List Int)) (h:Nat):Option (List Int):=if h≤highs then partP may highs r l b h else growP may highs (r+1) l b
theorem stG_zero (may:Nat→Nat→Bool) (highs r:Nat) (l:List Int) (b:Option (List Int)):stG may highs r l b 0=b:=by rw [stG,if_pos (Nat.zero_le _),partP_zero]
theorem stG_skip {may:Nat→Nat→Bool} {highs r:Nat} {l:List Int} {b:Option (List Int)} {h:Nat} (hh:h < highs) (hg:goP may l h=false):stG may highs r l b (h+1)=stG may highs r l b h:=by
 rw [stG,if_pos (by omega),stG,if_pos (by omega),partP_skip hg]
theorem stG_go {may:Nat→Nat→Bool} {highs r:Nat} {l:List Int} {b:Option (List Int)} {h:Nat} (hh:h < highs) (hg:goP may l h=true):stG may highs r l b (h+1)=growP may highs r (l++[(h:Int)]) (stG may highs r l b h):=by
 rw [stG,if_pos (by omega),stG,if_pos (by omega),partP_go hg]
theorem stG_last {may:Nat→Nat→Bool} {highs r:Nat} {l:List Int} {b:Option (List Int)}:stG may highs r l b (highs+1)=growP may highs r (l++[-1]) (stG may highs r l b highs):=by
 rw [stG,if_neg (by omega),stG,if_pos (Nat.le_refl _),growP_succ]
theorem stG_end {may:Nat→Nat→Bool} {highs r:Nat} {l:List Int} {b:Option (List Int)} {h:Nat} (hh:highs < h):stG may highs r l b h=growP may highs (r+1) l b:=by rw [stG,if_neg (by omega)]
structure GE where
 lo:Nat
 me:Nat
 hi:Nat
 ma:Nat
 gr:Nat
 kb:Nat
 mb:Nat
 tb:Nat
 fo:Nat
 lows:Nat
 highs:Nat
 A:Option Addr
 c:Nat
 LL:List LE
abbrev pV (g:Nat):Value:=.pointer (some ⟨g,0,none⟩)
structure GEnv (e:GE) (w:World) (ex:Nat→Prop):Prop where
 lo:Old w ex e.lo [.int .i64 (e.lows:Int)]
 me:Old w ex e.me [.func (.func 155) #[] #[pV e.kb]]
 hi:Old w ex e.hi [.int .i64 (e.highs:Int)]
 ma:Old w ex e.ma [.func (.func 154) #[] #[pV e.mb,pV e.tb]]
 gr:Old w ex e.gr [.func (.func 203) #[] #[pV e.lo,pV e.me,pV e.hi,pV e.ma,pV e.gr]]
 mb:Old w ex e.mb [.func (.func e.fo) #[] #[]]
 tb:Old w ex e.tb [.slice e.A e.LL.length e.c]
 sp:∃ b o,Sp w ex [] e.A e.LL.length 1 b o (lc e.LL)
 els:∀ x∈e.LL,∃ b o,Sp w ex [] x.2.1 x.1.length 1 b o (ic x.1)
theorem GEnv.move {e:GE} {w0 w:World} {ex ex':Nat→Prop} {L:List (Nat×BA)} (M:Mem w0 ex w L) (hx:∀ b,ex' b→inL L b) (h:GEnv e w0 ex):GEnv e w ex' :=
 ⟨h.lo.move M hx,h.me.move M hx,h.hi.move M hx,h.ma.move M hx,h.gr.move M hx,h.mb.move M hx,h.tb.move M hx,
  (by obtain ⟨b,o,h1⟩:=h.sp;exact ⟨b,o,h1.move M hx⟩),fun x hx'=>(by obtain ⟨b,o,h1⟩:=h.els x hx';exact ⟨b,o,h1.move M hx⟩)⟩
def GrowPost (kb:Nat) (best:Option (List Int)) (w:World) (ex:Nat→Prop) (e:Ending) (w':World):Prop :=
 ∃ A n c is I,e=.returned (.bool true)∧KS best A n is I∧Mem w ex w' ((kb,.cells [.slice A n c,.bool is])::I)
def MayOk (e:GE) (may:Nat→Nat→Bool):Prop:=∀ (w:World) (i h:Nat),GEnv e w noEx→i < e.lows→h < e.highs→Calls prog 154 #[.int .i64 (i:Int),.int .i64 (h:Int),pV e.mb,pV e.tb] w (fun en w'=>en=.returned (.bool (may i h))∧Below w.heap.size w w')
theorem goP_of {may:Nat→Nat→Bool} {used:Int} {l:List Int} {h:Nat} {v:Bool} (hu:UsedOk used l) (hh:h < 5) (h5:(hasI used (h:Int) || !may l.length h)=v):goP may l h = !v:=by
 unfold goP
 rw [← hu.2 h hh,← h5]
 cases hasI used (h:Int) <;> cases may l.length h <;> rfl
theorem stG_last' {may:Nat→Nat→Bool} {highs r:Nat} {l:List Int} {b:Option (List Int)} {h:Nat} (hh:h=highs):stG may highs r l b (h+1)=growP may highs r (l++[-1]) (stG may highs r l b h):=by subst hh;exact stG_last
def GrowSpec (e:GE) (may:Nat→Nat→Bool) (r:Nat):Prop :=
 ∀ (w:World) (exq:Nat→Prop) (l:List Int) (A:Option Addr) (m c:Nat) (used:Int) (bo:Option (List Int)) (Ab:Option Addr) (nb cb:Nat) (is:Bool) (Il Ib:List (Nat×BA)),
  m=l.length→l.length+r=e.lows→UsedOk used l→KS bo Ab nb is Ib→(∃ b o,∀ (w:World) (ex:Nat→Prop),Sp w ex Il A m 1 b o (ic l))→GEnv e w exq→Mem w exq w ((e.kb,.cells [.slice Ab nb cb,.bool is])::(Ib++Il)) →
  Calls prog 203 #[.slice A m c,.int .i64 used,pV e.lo,pV e.me,pV e.hi,pV e.ma,pV e.gr] w (GrowPost e.kb (growP may e.highs r l bo) w exq)
theorem ic_one (l:List Int):∀ u∈ic l,u.oneCell'=true:=by
 intro u hu
 obtain ⟨p,_,rfl⟩:=List.mem_map.1 hu
 rfl
theorem pairsP_take {l:List Int} {k:Nat} {x:Int} (h:l[k]? = some x):pairsP (l.take (k+1))=pairsP (l.take k)+(if 0≤x then 1 else 0):=by
 rw [List.take_add_one,h]
 exact pairsP_snoc _ _
theorem with_any (s n:Int) (w:World) (hn:0≤n) :
  Calls prog 95 #[Zi s,Zi n] w fun e w'=>e=.returned (Zi (withI s n))∧Below w.heap.size w w':=by
 refine Zpx noEx func95 Z 9 Z [Zi s,Zi n] Z Z (Mem.init w _) ?_
 intro ac wc T M
 refine Zsr ?_
 refine lq T (Zra Z evc) ?_;intro ac T
 replace T:=T.pick [1,2] rfl
 refine Zln ?_
 refine Zsr ?_
 refine Zg5 T (Zq (Zrm Z (T.e 0 Z))) Z (Zm 2 Z Z) Z (fun _ T=>Zq (rn_shl Z evc (T.e 0 Z) (by omega))) Z (fun _ T=>Zq (rn_or Z (T.e 2 Z) (T.e 0 Z))) Z (Za 0 Z Z) Z ?_;intro ac T
 replace T:=T.pick [0] rfl
 refine Zln ?_
 refine wp_ret ?_
 refine rt_1 T Z (T.e 0 Z) ?_
 exact ⟨rfl,M.below⟩
theorem hasT_any (s n:Int) (w:World) (hn:0≤n) :
  Calls prog 204 #[Zi s,Zi n] w fun e w'=>e=.returned (.bool (hasI s n))∧Below w.heap.size w w':=by
 refine Zpx noEx func204 Z 10 Z [Zi s,Zi n] Z Z (Mem.init w _) ?_
 intro ac wc T M
 refine Zsr ?_
 refine lq T (Zra Z evc) ?_;intro ac T
 replace T:=T.pick [1,2] rfl
 refine Zln ?_
 refine Zsr ?_
 refine Zg6 T (Zq (Zrm Z (T.e 0 Z))) Z (Zm 2 Z Z) Z (fun _ T=>Zq (rn_shr Z (T.e 1 Z) (T.e 0 Z) (by omega))) Z (fun _ T=>Zq (rn_and Z (T.e 0 Z) evc)) Z (fun _ T=>Zq (rn_eql Z (T.e 0 Z) evc)) Z (Za 0 Z Z) Z ?_;intro ac T
 replace T:=T.pick [0] rfl
 refine Zln ?_
 refine wp_ret ?_
 refine rt_1 T Z (T.e 0 Z) ?_
 exact ⟨rfl,M.below⟩
theorem size_any (s:Int) (w:World) (hs:0≤s∧s < 32) :
   Calls prog 94 #[Zi s] w fun e w'=>e=.returned (Zi (sizeI s:Nat))∧Below w.heap.size w w':=by
 refine Zpx noEx func94 Z 13 Z [Zi s] Z Z (Mem.init w _) ?_
 intro ac wc T M
 refine Zsr ?_
 refine lq T (Zra Z evc) ?_;intro ac T
 replace T:=T.pick [1] rfl
 refine Zln ?_
 refine Zsr ?_
 refine lq T (Zra Z evc) ?_;intro ac T
 refine Zln ?_
 refine wp_seq ?_
 refine wp_block ?_
 refine wp_loop_n (fun mz ac wc=>∃ (r k:Int),mz=r.toNat∧(0≤r∧r < 32)∧(0≤k∧k≤32 - r)∧((sizeI s:Int)=k+(sizeI r:Nat))∧Tm ac 13 [(0,Zi r),(3,Zi k)]∧Mem w noEx wc []) ?_ ?_
 ·exact ⟨_,s,0,Z,(by omega),(by omega),(by omega),T.pick [1,0] Z,M.mask [] Z⟩
 clear T M
 rintro mz ac wc ⟨r,k,hmm1,hr,hk,H,T,M⟩
 refine wp_seq ?_
 refine Zsr ?_
 refine Zg2 T (Zq (Zrm Z (T.e 0 Z))) Z (fun _ T=>Zq (rn_gtr Z (T.e 0 Z) evc)) Z ?_;intro ac T
 replace T:=T.pick [0,2,3] rfl
 refine Zln ?_
 refine wp_if (T.e 0 Z) ?_ ?_
 ·intro h1
  have hz:=size_step (s:=r) (by omega)
  refine Zsk ?_
  refine wp_seq ?_
  refine wp_block ?_
  refine wp_region_lit ?_
  refine Zg2 T (Zq (Zrm Z (T.e 2 Z))) Z (fun _ T=>Zq (rn_add Z (T.e 0 Z) evc (by omega))) Z ?_;intro ac T
  refine l_q (v:=(Zi (k+1))) (T.pick [0,1,2,3] Z) Z Z Z Z (Zra Z (T.e 0 Z)) ?_;intro ac T
  refine wpList_nil ?_
  replace T:=T.pick [0,4] rfl
  refine Znb ?_
  refine nm_then ?_
  refine wp_region_lit ?_
  refine Zg4 T (Zq (Zrm Z (T.e 1 Z))) Z (Zm 2 Z Z) Z (fun _ T=>Zq (rn_sub Z (T.e 0 Z) evc (by omega))) Z (fun _ T=>Zq (rn_and Z (T.e 2 Z) (T.e 0 Z))) Z ?_;intro ac T
  refine l_q (v:=(Zi (andI r (r - 1)))) (T.pick [0,1,2,3,4] Z) Z Z Z Z (Zra Z (T.e 0 Z)) ?_;intro ac T
  replace T:=T.pick [0,5] rfl
  refine Zln ?_
  exact ⟨_,by omega,_,_,Z,(by omega),(by omega),(by omega),T.pick [0,1] Z,M.mask [] Z⟩
 intro h1
 obtain rfl:r=0:=by omega
 rw [size0] at H
 refine wp_exit ?_
 refine Zet ?_
 refine Zet ?_
 refine ex_hit ?_
 refine nm_then ?_
 refine Zsr ?_
 refine Zg2 T (Zq (Zrm Z (T.e 2 Z))) Z (Za 0 Z Z) Z ?_;intro ac T
 replace T:=T.pick [0] rfl
 refine Zln ?_
 refine wp_ret ?_
 refine rt_1 T Z (T.e 0 Z) ?_
 exact ⟨ret_int (by omega),M.below⟩
theorem pairs_any (A:Option Addr) (m c:Nat) (l:List Int) (w:World) (hr:Rd w w.heap.size 1 A m (ic l)) (hm:m≤1000000)  :
   Calls prog 91 #[.slice A m c] w fun e w'=>e=.returned (Zi (pairsP l))∧Below w.heap.size w w':=by
 have hml:=hr.len1
 obtain ⟨bA,oA,SA⟩:=Sp.old hr
 refine Zpx noEx func91 Z 18 Z [.slice A m c] Z Z (Mem.init w _) ?_
 intro ac wc T M
 refine Zsr ?_
 refine lq T (Zra Z evc) ?_;intro ac T
 replace T:=T.pick [1] rfl
 refine Zln ?_
 refine Zsr ?_
 refine lq T (Zra Z evc) ?_;intro ac T
 refine Zln ?_
 refine wp_seq ?_
 refine Zsr ?_
 refine Zg3 T (Zq (Zrm Z (T.e 1 Z))) Z (Zl underlying31 0 Z Z) Z (fun _ T=>Zq (Zrm Z evc)) Z ?_;intro ac T
 replace T:=T.pick [0,1,2,3] rfl
 refine Zln ?_
 refine wp_block ?_
 refine wp_loop_n (fun mz ac wc=>∃ (k:Nat) (q:Int),mz=m - k∧(k≤m)∧(0≤q∧q≤k)∧(q=pairsP (l.take k))∧Tm ac 18 [(3,Zi q),(6,.slice A m c),(7,Zi ((m:Nat):Int)),(8,Zi (k:Int))]∧Mem w noEx wc []) ?_ ?_
 ·exact ⟨_,0,0,Z,(Nat.zero_le _),(by omega),Z,T.pick [3,2,1,0] Z,M.mask [] Z⟩
 clear T M
 rintro mz ac wc ⟨k,q,hmm1,hk,hq,H,T,M⟩
 refine Zsr ?_
 refine lq T (rn_lss Z (T.e 3 Z) (T.e 2 Z)) ?_;intro ac T
 refine Zln ?_
 refine wp_seq ?_
 refine wp_if (T.e 0 Z) ?_ ?_
 ·intro h1
  obtain ⟨x,hkx,-⟩:=ic_next (l:=l) (k:=k) (by omega)
  have hpt:=pairsP_take hkx
  refine Zsk ?_
  refine cut_seq (fun ac wc=>Tm ac 18 [(3,Zi (if 0≤x then (q+1) else q)),(6,.slice A m c),(7,Zi ((m:Nat):Int)),(8,Zi (k:Int))]∧Mem w noEx wc []) ?_ ?_
  ·refine wp_block ?_
   refine Zsr ?_
   refine Zg3 T (Zq (Zri (size:=1) k Z (T.e 2 Z) (T.e 4 Z) ⟨_,underlying31,by kernel_rfl⟩ Z (by omega) (SA.at0 (by omega)))) Z (fun _ T=>Zq (rn_cell (Sp.ic0 SA M (Zz9 _) hkx) Z (T.e 0 Z))) Z (Za 0 Z Z) Z ?_;intro ac T
   replace T:=T.pick [0,4,5,6,7] rfl
   refine Zln ?_
   refine Zsr ?_
   refine Zg2 T (Zq (Zrm Z (T.e 0 Z))) Z (fun _ T=>Zq (rn_geq Z (T.e 0 Z) evc)) Z ?_;intro ac T
   replace T:=T.pick [0,3,4,5,6] rfl
   refine Zln ?_
   refine wp_if (T.e 0 Z) ?_ ?_
   ·intro h2
    refine wp_region_lit ?_
    refine Zg2 T (Zq (Zrm Z (T.e 1 Z))) Z (fun _ T=>Zq (rn_add Z (T.e 0 Z) evc (by omega))) Z ?_;intro ac T
    refine l_q (v:=(Zi (q+1))) (T.pick [0,1,2,4,5,6] Z) Z Z Z Z (Zra Z (T.e 0 Z)) ?_;intro ac T
    refine wpList_nil ?_
    replace T:=T.pick [0,4,5,6] rfl
    refine Znb ?_
    exact ⟨(T.pick (E':=[(3,Zi (q+1)),(6,.slice A m c),(7,Zi ((m:Nat):Int)),(8,Zi (k:Int))]) [0,1,2,3] Z).as (by (try rw [show (decide (0≤x))=true from (Zdt h2)]);(try simp only [if_pos h2]);(try rfl)),M.mask [] Z⟩
   intro h2
   refine wp_skip ?_
   refine Znb ?_
   exact ⟨(T.pick (E':=[(3,Zi q),(6,.slice A m c),(7,Zi ((m:Nat):Int)),(8,Zi (k:Int))]) [1,2,3,4] Z).as (by (try rw [show (decide (0≤x))=false from (Zdf h2)]);(try simp only [if_neg h2]);(try rfl)),M.mask [] Z⟩
  clear T M
  rintro ac wc ⟨T,M⟩
  refine wp_region_lit ?_
  refine lq T (rn_add Z (T.e 3 Z) evc (by omega)) ?_;intro ac T
  refine l_q (v:=(Zi ((k:Int)+1))) (T.pick [0,1,2,3] Z) Z Z Z Z (Zrm Z (T.e 0 Z)) ?_;intro ac T
  replace T:=T.pick [0,2,3,4] rfl
  refine Zln ?_
  exact ⟨_,by omega,k+1,_,Z,(by omega),(by (try split) <;> omega),(by rw [hpt,← H];(try split) <;> omega),T.pick [1,2,3,0] Z,M.mask [] Z⟩
 intro h1
 rw [List.take_of_length_le (by omega)] at H
 refine wp_exit ?_
 refine Zet ?_
 refine Zet ?_
 refine ex_hit ?_
 refine nm_then ?_
 refine Zsr ?_
 refine Zg2 T (Zq (Zrm Z (T.e 1 Z))) Z (Za 0 Z Z) Z ?_;intro ac T
 replace T:=T.pick [0] rfl
 refine Zln ?_
 refine wp_ret ?_
 refine rt_1 T Z (T.e 0 Z) ?_
 exact ⟨ret_int H,M.below⟩
theorem always_any (x:Int) (w:World)  :
  Calls prog 82 #[Zi x] w fun e w'=>e=.returned (.bool (decide (x=1)))∧Below w.heap.size w w':=by
 refine Zpx noEx func82 Z 5 Z [Zi x] Z Z (Mem.init w _) ?_
 intro ac wc T M
 refine Zsr ?_
 refine lq T (Zra Z evc) ?_;intro ac T
 replace T:=T.pick [1] rfl
 refine Zln ?_
 refine Zsr ?_
 refine Zg3 T (Zq (Zrm Z (T.e 0 Z))) Z (fun _ T=>Zq (rn_eql Z (T.e 0 Z) evc)) Z (Za 0 Z Z) Z ?_;intro ac T
 replace T:=T.pick [0] rfl
 refine Zln ?_
 refine wp_ret ?_
 refine rt_1 T Z (T.e 0 Z) ?_
 exact ⟨rfl,M.below⟩
theorem better_any (A:Option Addr) (m c:Nat) (l:List Int) (B:Option Addr) (d f:Nat) (lb:List Int) (w:World) (hl:Rd w w.heap.size 1 A m (ic l)) (hm:m≤1000000) (hb:Rd w w.heap.size 1 B d (ic lb)) (hd:d≤1000000)  :
  Calls prog 157 #[.slice A m c,.slice B d f] w fun e w'=>e=.returned (.bool (decide (pairsP lb < pairsP l)))∧Below w.heap.size w w':=by
 obtain ⟨bA,oA,SA⟩:=Sp.old hl
 obtain ⟨bB,oB,SB⟩:=Sp.old hb
 refine Zpx noEx func157 Z 10 Z [.slice A m c,.slice B d f] Z Z (Mem.init w _) ?_
 intro ac wc T M
 refine Zsr ?_
 refine lq T (Zra Z evc) ?_;intro ac T
 replace T:=T.pick [1,2] rfl
 refine Zln ?_
 refine Zsr ?_
 refine lq T (Zrm Z (T.e 0 Z)) ?_;intro ac T
 refine Zl2 ?_
 refine Zod T Z Z Z Z evf (.cons (T.e 0 Z) .nil) func91 Z Z ?_
 refine Calls.mono (pairs_any _ _ _ l _ (SA.rd M (Zz9 _)) (by omega)) ?_
 clear T;rintro e wc ⟨rfl,hb⟩ ac T
 replace M:=M.call hb;clear hb
 refine lq T (Zrm Z (T.e 3 Z)) ?_;intro ac T
 refine Zl2 ?_
 refine Zod T Z Z Z Z evf (.cons (T.e 0 Z) .nil) func91 Z Z ?_
 refine Calls.mono (pairs_any _ _ _ lb _ (SB.rd M (Zz9 _)) (by omega)) ?_
 clear T;rintro e wc ⟨rfl,hb⟩ ac T
 replace M:=M.call hb;clear hb
 refine Zg2 T (Zq (rn_gtr Z (T.e 2 Z) (T.e 0 Z))) Z (Za 0 Z Z) Z ?_;intro ac T
 replace T:=T.pick [0] rfl
 refine Zln ?_
 refine wp_ret ?_
 refine rt_1 T Z (T.e 0 Z) ?_
 exact ⟨rfl,M.below⟩
def OfferPost (kb:Nat) (is:Bool) (lb l:List Int) (new old:Value) (v:Value) (w:World) (e:Ending) (w':World):Prop:=e=.returned v∧Mem w (fun b=>b=kb) w' [(kb,.cells (offC is lb l new old))]
theorem offer_any (kb:Nat) (is:Bool) (A:Option Addr) (m c:Nat) (l:List Int) (B:Option Addr) (d f:Nat) (lb:List Int) (w:World) (hl:Rd w w.heap.size 1 A m (ic l)) (hm:m≤1000000) (hb:Rd w w.heap.size 1 B d (ic lb)) (hd:d≤1000000) (hk:Bk w kb #[.slice B d f,.bool is]) :
   Calls prog 156 #[Zj kb,.slice A m c,.func (.func 157) #[] #[]] w (OfferPost kb is lb l (.slice A m c) (.slice B d f) (.tuple #[]) w):=by
 obtain ⟨bA,oA,SA⟩:=Sp.other hl hk (by intro v hv k i;simp only [Zx7,Zx8,or_false] at hv;rcases hv with rfl | rfl <;> simp)
 obtain ⟨bB,oB,SB⟩:=Sp.other hb hk (by intro v hv k i;simp only [Zx7,Zx8,or_false] at hv;rcases hv with rfl | rfl <;> simp)
 refine Zpx (fun b=>b=kb) func156 Z 27 Z [Zj kb,.slice A m c,.func (.func 157) #[] #[]] Z Z (Mem.initEx (p:=.cells [.slice B d f,.bool is]) hk) ?_
 intro ac wc T M
 refine cut_seq (fun ac wc=>Tm ac 27 [(0,Zj kb),(1,.slice A m c),(19,.bool ((!is) || (decide (pairsP lb < pairsP l))))]∧Mem w (fun b=>b=kb) wc [(kb,.cells [.slice B d f,.bool is])]) ?_ ?_
 ·refine wp_region_lit ?_
  refine Zg6 (v3:=(.pointer (some ⟨kb,1,none⟩))) T (Zq (Zrm Z (T.e 0 Z))) Z (fun _ T=>Zq (rn_nil Z (T.e 0 Z))) Z (Zf 1 0 Z Z) Z (Zo M 0 0 Z Z Z Z) Z (fun _ T=>Zq (rn_not Z (T.e 0 Z))) Z (Zm 0 Z Z) Z ?_;intro ac T
  rcases Zx9 (!is) with h1 | h1
  ·refine Zg8 T (Zp (Zwn Z Z (T.e 0 Z) h1)) Z (fun _ T=>Zp (Zwn Z Z (T.e 1 Z) h1)) Z (fun _ T=>Zp (Zwn Z Z (T.e 2 Z) h1)) Z (fun _ T=>Zp (Zwn Z Z (T.e 3 Z) h1)) Z (fun _ T=>Zp (Zwn Z Z (T.e 4 Z) h1)) Z (fun _ T=>Zp (Zwn Z Z (T.e 5 Z) h1)) Z (fun _ T=>Zp (Zwn Z Z (T.e 6 Z) h1)) Z (fun _ T=>Zq (Zr1 Z (T.e 7 Z) h1 evc)) Z ?_;intro ac T
   refine wpList_nil ?_
   replace T:=T.pick [0,14,15] rfl
   exact ⟨(T.pick (E':=[(0,Zj kb),(1,.slice A m c),(19,.bool true)]) [1,2,0] Z).as (by (try rw [show (!is)=true from h1]);(try rfl)),M.mask [true] Z⟩
  refine Zg6 (v5:=(Zj kb)) T (Zw (Zwy Z Z (T.e 0 Z) h1) (Zrm Z (T.e 8 Z))) Z (fun _ T=>Zw (Zwy Z Z (T.e 1 Z) h1) (Zrm Z (T.e 8 Z))) Z (fun _ T=>Zw (Zwy Z Z (T.e 2 Z) h1) (Zrm Z (T.e 8 Z))) Z (fun _ T=>Zw (Zwy Z Z (T.e 3 Z) h1) (rn_nil Z (T.e 0 Z))) Z (fun _ T=>Zw (Zwy Z Z (T.e 4 Z) h1) (Zrg 0 Z (T.e 0 Z))) Z (fun _ T=>Zw (Zwy Z Z (T.e 5 Z) h1) (Zro (Mem.nth M 0 Z) Z (T.e 0 Z) Z)) Z ?_;intro ac T
  refine l_w (Zwy Z Z (T.e 6 Z) h1) ?_;intro K hK
  refine Zod T Z Z Z Z (T.e 5 Z) (.cons (T.e 4 Z) (.cons (T.e 0 Z) .nil)) func157 Z Z ?_
  refine Calls.mono (better_any _ _ _ l _ _ _ lb _ (SA.rd M (Zz9 _)) hm (SB.rd M (Zz9 _)) hd) ?_
  clear T;rintro e wc ⟨rfl,hb⟩ ac T
  replace M:=M.call hb;clear hb
  refine Zso hK _ _ ?_;clear hK K
  refine lq T (Zr0 Z (T.e 7 Z) h1 (T.e 0 Z)) ?_;intro ac T
  refine wpList_nil ?_
  replace T:=T.pick [0,14,15] rfl
  exact ⟨(T.pick (E':=[(0,Zj kb),(1,.slice A m c),(19,.bool (decide (pairsP lb < pairsP l)))]) [1,2,0] Z).as (by (try rw [show (!is)=false from h1]);(try rfl)),M.mask [true] Z⟩
 clear T M
 rintro ac wc ⟨T,M⟩
 refine wp_cond_split (T.e 2 Z) ?_ ?_
 ·intro h2
  (have h2':=h2;try simp only [Zb1,Zb2,Zb3,Zb4,Zb5,Zb6,Zb7] at h2')
  refine wp_region_lit ?_
  refine Zg5 (v5:=(Zj kb)) T (Zq (Zrm Z (T.e 0 Z))) Z (Zm 1 Z Z) Z (Zm 3 Z Z) Z (fun _ T=>Zq (rn_nil Z (T.e 2 Z))) Z (Zf 0 0 Z Z) Z ?_;intro ac T
  refine Zl2 ?_
  refine Zot M T Z Z (T.e 0 Z) (T.e 2 Z) Z .head Z Z ?_;clear M T;intro wc ac M T
  refine Zg2 (v2:=(.pointer (some ⟨kb,1,none⟩))) T (Zq (rn_nil Z (T.e 3 Z))) Z (Zf 1 0 Z Z) Z ?_;intro ac T
  refine Zl2 ?_
  refine Zot M T Z Z (T.e 0 Z) evc Z .head Z Z ?_;clear M T;intro wc ac M T
  refine wpList_nil ?_
  replace T:=T.pick [] rfl
  refine nm_0 T Z ?_
  exact ⟨rfl,by unfold offC;rw [if_pos (by simp_all)];exact M⟩
 intro h2
 (have h2':=h2;try simp only [Zb1,Zb2,Zb3,Zb4,Zb5,Zb6,Zb7] at h2')
 refine wp_skip ?_
 refine nm_0 T Z ?_
 exact ⟨rfl,by unfold offC;rw [if_neg (by simp_all)];exact M⟩
theorem met_any (kb:Nat) (is:Bool) (A:Option Addr) (m c:Nat) (l:List Int) (B:Option Addr) (d f:Nat) (lb:List Int) (w:World) (hl:Rd w w.heap.size 1 A m (ic l)) (hm:m≤1000000) (hb:Rd w w.heap.size 1 B d (ic lb)) (hd:d≤1000000) (hk:Bk w kb #[.slice B d f,.bool is]) :
  Calls prog 155 #[.slice A m c,Zj kb] w (OfferPost kb is lb l (.slice A m c) (.slice B d f) (.bool true) w):=by
 obtain ⟨bA,oA,SA⟩:=Sp.other hl hk (by intro v hv k i;simp only [Zx7,Zx8,or_false] at hv;rcases hv with rfl | rfl <;> simp)
 obtain ⟨bB,oB,SB⟩:=Sp.other hb hk (by intro v hv k i;simp only [Zx7,Zx8,or_false] at hv;rcases hv with rfl | rfl <;> simp)
 refine Zpx (fun b=>b=kb) func155 Z 6 Z [.slice A m c,Zj kb] Z Z (Mem.initEx (p:=.cells [.slice B d f,.bool is]) hk) ?_
 intro ac wc T M
 refine Zsr ?_
 refine lq T (Zra Z evc) ?_;intro ac T
 replace T:=T.pick [1,2] rfl
 refine Zln ?_
 refine Zsr ?_
 refine lq T (Zrm Z (T.e 0 Z)) ?_;intro ac T
 refine Zl2 ?_
 refine Zod T Z Z Z Z evf (.cons (T.e 2 Z) (.cons (T.e 0 Z) (.cons evf .nil))) func156 Z Z ?_
 refine Calls.mono (offer_any kb is _ _ _ l _ _ _ lb _ (SA.rd M (Zz9 _)) hm (SB.rd M (Zz9 _)) hd (M.nth 0 Z)) ?_
 clear T;rintro e wc ⟨rfl,N⟩ ac T
 replace M:=Mem.joinX (X:=[(kb,.cells [.slice B d f,.bool is])]) (F:=[]) M N (fun b h=>by subst h;exact Zz2)
 clear N
 replace T:=T.pick [] rfl
 refine Zln ?_
 refine Zsr ?_
 refine lq T (Zra Z evc) ?_;intro ac T
 refine Zln ?_
 refine wp_ret ?_
 refine rt_1 T Z (T.e 0 Z) ?_
 exact ⟨rfl,M⟩
theorem may_always (mb tb:Nat) (A:Option Addr) (c:Nat) (LL:List LE) (i k:Nat) (x:List Int) (B:Option Addr) (d:Nat) (y:Int) (w:World) (hmb:Bk w mb #[.func (.func 82) #[] #[]]) (htb:Bk w tb #[.slice A LL.length c]) (hA:Rd w w.heap.size 1 A LL.length (lc LL)) (hx:LL[i]? = some (x,B,d)) (hB:Rd w w.heap.size 1 B x.length (ic x)) (hy:x[k]? = some y) :
  Calls prog 154 #[Zi (i:Int),Zi (k:Int),Zj mb,Zj tb] w fun e w'=>e=.returned (.bool (decide (y=1)))∧Below w.heap.size w w':=by
 obtain ⟨bA,oA,SA⟩:=Sp.old hA
 obtain ⟨bB,oB,SB⟩:=Sp.old hB
 have hi:=(List.getElem?_eq_some_iff.1 hx).1
 have hk:=(List.getElem?_eq_some_iff.1 hy).1
 refine Zpx noEx func154 Z 16 Z [Zi (i:Int),Zi (k:Int),Zj mb,Zj tb] Z Z (Mem.init w _) ?_
 intro ac wc T M
 refine Zsr ?_
 refine lq T (Zra Z evc) ?_;intro ac T
 replace T:=T.pick [1,2,3,4] rfl
 refine Zln ?_
 refine wp_seq ?_
 refine Zgs M (M.mask [] Z) 10 (by kernel_rfl) Z (by kernel_rfl) ?_
 clear M;intro wc M
 refine gq T 0 1 Z (fun B w' hD hl hS=>(Zro (Mem.old (show Mem w noEx w' _ from hS) hmb (fun h=>h)) Z (T.e 2 Z) Z)) ?_;intro ac T
 refine gq T 1 3 Z (fun B w' hD hl hS=>(Zro (Mem.old (show Mem w noEx w' _ from hS) htb (fun h=>h)) Z (T.e 4 Z) Z)) ?_;intro ac T
 refine Zgq T 2 7 Z (fun _=>(Zrm Z (T.e 2 Z))) ?_;intro ac T
 refine Zgq T 3 15 Z (fun _=>(Zri (size:=1) i Z (T.e 1 Z) (T.e 0 Z) ⟨_,underlying159,by kernel_rfl⟩ Z (by omega) (SA.at0 (by omega)))) ?_;intro ac T
 refine gq (v:=(.slice B x.length d)) T 4 31 Z (fun B w' hD hl hS=>(rn_cell (Sp.lc0 SA (show Mem w noEx w' _ from hS) (Zz9 _) hx) Z (T.e 0 Z))) ?_;intro ac T
 refine Zgq T 5 63 Z (fun _=>(Zrm Z (T.e 6 Z))) ?_;intro ac T
 refine Zgq T 6 127 Z (fun _=>(Zri (size:=1) k Z (T.e 1 Z) (T.e 0 Z) ⟨_,underlying31,by kernel_rfl⟩ Z (by omega) (SB.at0 (by omega)))) ?_;intro ac T
 refine gq T 7 255 Z (fun B w' hD hl hS=>(rn_cell (Sp.ic0 SB (show Mem w noEx w' _ from hS) (Zz9 _) hy) Z (T.e 0 Z))) ?_;intro ac T
 refine gw 8 511 ?_;intro K hK
 refine Zod T Z Z Z Z (T.e 7 Z) (.cons (T.e 0 Z) .nil) func82 Z Z ?_
 refine Calls.mono (always_any y _) ?_
 clear T;rintro e wc ⟨rfl,hb⟩ ac T
 replace M:=M.call hb;clear hb
 refine Zso hK _ _ (M.mask [] Z) ?_;clear hK K
 refine Zgq T 9 1023 Z (fun _=>(Zra Z (T.e 0 Z))) ?_;intro ac T
 refine Zgd (by kernel_rfl) ?_
 replace T:=T.pick [0] rfl
 refine Znr ?_
 refine rt_1 T Z (T.e 0 Z) ?_
 exact ⟨rfl,M.below⟩
theorem grow_step (ge:GE) (may:Nat→Nat→Bool) (r:Nat) (exq:Nat→Prop) (l:List Int) (A:Option Addr) (c:Nat) (used:Int) (bo:Option (List Int)) (Ab:Option Addr) (nb cb:Nat) (is:Bool) (Il Ib:List (Nat×BA)) (w:World) (hlo:ge.lows≤4) (hhi:ge.highs≤5) (hmay:MayOk ge may) (ih:∀ r',r=r'+1→GrowSpec ge may r') (hlr:l.length+r=ge.lows) (hu:UsedOk used l) (hks:KS bo Ab nb is Ib) (hl:∃ b o,∀ (w:World) (ex:Nat→Prop),Sp w ex Il A l.length 1 b o (ic l)) (genv:GEnv ge w exq) (M0:Mem w exq w ((ge.kb,.cells [.slice Ab nb cb,.bool is])::(Ib++Il))) :
   Calls prog 203 #[.slice A l.length c,Zi used,.pointer (some ⟨ge.lo,0,none⟩),.pointer (some ⟨ge.me,0,none⟩),.pointer (some ⟨ge.hi,0,none⟩),.pointer (some ⟨ge.ma,0,none⟩),.pointer (some ⟨ge.gr,0,none⟩)] w (GrowPost ge.kb (growP may ge.highs r l bo) w exq):=by
 have hls:=hl
 obtain ⟨bl,ol,hSl⟩:=hls
 have Sl0:=hSl w exq
 have hks0:=hks
 obtain ⟨hkn,hk5,hki,bb,ob,hSb⟩:=hks0
 have Sb0:=hSb w exq
 refine Zpx exq func203 Z 60 Z [.slice A l.length c,Zi used,.pointer (some ⟨ge.lo,0,none⟩),.pointer (some ⟨ge.me,0,none⟩),.pointer (some ⟨ge.hi,0,none⟩),.pointer (some ⟨ge.ma,0,none⟩),.pointer (some ⟨ge.gr,0,none⟩)] Z Z M0 ?_
 intro ac wc T M
 refine Zsr ?_
 refine lq T (Zra Z evc) ?_;intro ac T
 replace T:=T.pick [1,2,3,4,5,6,7] rfl
 refine Zln ?_
 refine wp_scope_straight ?_
 refine wp_seq ?_
 refine Zsr ?_
 refine Zg4 T (Zq (Zrm Z (T.e 0 Z))) Z (Zl underlying31 0 Z Z) Z (fun _ T=>Zq (Zro (Mem.old M genv.lo.1 genv.lo.2) Z (T.e 4 Z) Z)) Z (fun _ T=>Zq (rn_eql Z (T.e 1 Z) (T.e 0 Z))) Z ?_;intro ac T
 replace T:=T.pick [0,4,5,7,8,9,10] rfl
 refine Zln ?_
 refine wp_if (T.e 0 Z) ?_ ?_
 ·intro h1
  obtain rfl:r=0:=by omega
  refine Zsr ?_
  refine Zg2 T (Zq (Zro (Mem.old M genv.me.1 genv.me.2) Z (T.e 3 Z) Z)) Z (Zm 2 Z Z) Z ?_;intro ac T
  refine Zl2 ?_
  refine Zoc (first:=[]) (cap:=[.pointer (some ⟨ge.kb,0,none⟩)]) T Z Z Z Z (T.e 1 Z) (.cons (T.e 0 Z) .nil) func155 Z Z ?_
  refine Calls.mono (met_any ge.kb is _ _ _ l _ _ _ (bo.getD []) _ (Sl0.rd M (.cons _ (Zsq _ _))) (by omega) (Sb0.rd M (.cons _ (subL (List.Sublist.refl _)))) (by omega) (M.nth 0 Z)) ?_
  clear T;rintro e wc ⟨rfl,N⟩ ac T
  obtain ⟨Au1,nu1,cu1,iu1,Iu1,hocu1,hksu1,hIu1⟩:=offer_ks (c:=c) (cb:=cb) hks hl rfl (by omega)
  rw [hocu1] at N
  replace M:=Mem.joinX (X:=[(ge.kb,.cells [.slice Ab nb cb,.bool is])]) (F:=Ib++Il) M N (fun b h=>by subst h;exact Zz2)
  clear N
  replace M:Mem w exq wc ((ge.kb,.cells [.slice Au1 nu1 cu1,.bool iu1])::(Ib++Il)):=M
  refine lq T (Zra Z (T.e 0 Z)) ?_;intro ac T
  replace T:=T.pick [0] rfl
  refine Zln ?_
  refine wp_ret ?_
  refine Zrt ?_
  refine rt_ng ?_
  refine rt_1 T Z (T.e 0 Z) ?_
  refine ⟨Au1,nu1,cu1,iu1,Iu1,Z,hksu1,M.sub (.cons_cons _ ?_)⟩
  rcases hIu1 with rfl | rfl
  · exact Zsq _ _
  · exact Zsl _ _
 intro h1
 obtain ⟨r1,rfl⟩:∃ k,r=k+1:=⟨r - 1,by omega⟩
 have ih1:=ih r1 rfl
 refine Zsk ?_
 refine Zsr ?_
 refine Zg3 (v2:=(.func (.func 204) #[Zi used] #[])) T (Zq (Zrm Z (T.e 2 Z))) Z (fun _ T=>Zq (rn_makeFunc Z (.cons (T.e 0 Z) .nil) .nil)) Z (Za 0 Z Z) Z ?_;intro ac T
 replace T:=T.pick [0,4,5,7,8,9] rfl
 refine Zln ?_
 refine wp_seq ?_
 refine wp_label ?_
 refine Zns ?_
 refine Zsr ?_
 refine Zg3 T (Zq (Zro (Mem.old M genv.hi.1 genv.hi.2) Z (T.e 3 Z) Z)) Z (fun _ T=>Zq (rn_add Z (T.e 0 Z) evc (by omega))) Z (fun _ T=>Zq (Zrm Z evc)) Z ?_;intro ac T
 replace T:=T.pick [0,1,3,4,5,6,7,8] rfl
 refine Zln ?_
 refine wp_block ?_
 refine wp_loop_n (fun mz ac wc=>∃ (h:Nat) (A3:Option Addr) (n3 c3:Nat) (i3:Bool) (I3:List (Nat×BA)),mz=ge.highs+1 - h∧(h≤ge.highs+1)∧(KS (stG may ge.highs r1 l bo h) A3 n3 i3 I3)∧Tm ac 60 [(0,.slice A l.length c),(1,Zi used),(4,.pointer (some ⟨ge.hi,0,none⟩)),(5,.pointer (some ⟨ge.ma,0,none⟩)),(6,.pointer (some ⟨ge.gr,0,none⟩)),(10,.func (.func 204) #[Zi used] #[]),(24,Zi (((ge.highs:Nat):Int)+1)),(25,Zi (h:Int))]∧Mem w exq wc ((ge.kb,.cells [.slice A3 n3 c3,.bool i3])::(I3++Il))) ?_ ?_
 ·exact ⟨_,0,Ab,nb,cb,is,Ib,Z,(by omega),(by rw [stG_zero];exact hks),T.pick [3,4,5,6,7,2,1,0] Z,M.mask [true] Z⟩
 clear T M
 rintro mz ac wc ⟨h,A3,n3,c3,i3,I3,hmm1,hh,hKs,T,M⟩
 refine Zsr ?_
 refine lq T (rn_lss Z (T.e 7 Z) (T.e 6 Z)) ?_;intro ac T
 refine Zln ?_
 refine wp_seq ?_
 refine wp_if (T.e 0 Z) ?_ ?_
 ·intro h2
  refine Zsk ?_
  refine wp_seq ?_
  refine wp_block ?_
  refine Zsr ?_
  refine Zg2 T (Zq (Zrm Z (T.e 8 Z))) Z (Za 0 Z Z) Z ?_;intro ac T
  replace T:=T.pick [0,3,4,5,6,7,8,9,10] rfl
  refine Zln ?_
  refine Zsr ?_
  refine Zg4 T (Zq (Zrm Z (T.e 0 Z))) Z (Zm 3 Z Z) Z (Za 1 Z Z) Z (Za 1 Z Z) Z ?_;intro ac T
  replace T:=T.pick [0,1,4,5,6,7,8,9,10,11,12] rfl
  refine Zln ?_
  refine wp_seq ?_
  refine wp_block ?_
  refine Zsr ?_
  refine Zg4 T (Zq (Zrm Z (T.e 2 Z))) Z (fun _ T=>Zq (Zro (Mem.old M genv.hi.1 genv.hi.2) Z (T.e 6 Z) Z)) Z (fun _ T=>Zq (rn_eql Z (T.e 1 Z) (T.e 0 Z))) Z (Za 0 Z Z) Z ?_;intro ac T
  replace T:=T.pick [0,4,5,6,7,8,9,10,11,12,13,14] rfl
  refine Zln ?_
  refine wp_if (T.e 0 Z) ?_ ?_
  ·intro h3
   refine wp_region_lit ?_
   refine l_q (v:=(Zi (-1))) (T.pick [0,1,3,4,5,6,7,8,9,10,11] Z) Z Z Z Z (Zra Z evc) ?_;intro ac T
   refine wpList_nil ?_
   replace T:=T.pick [0,2,4,5,6,7,8,9,10,11] rfl
   refine Znb ?_
   refine Zns ?_
   refine Zgs M (M.perm [] Z Z) 10 (by kernel_rfl) Z (by kernel_rfl) ?_
   clear M;intro wc M
   refine gq T 0 1 Z (fun B w' hD hl hS=>(Zro (Mem.old (show Mem w exq w' _ from hS) genv.gr.1 genv.gr.2) Z (T.e 6 Z) Z)) ?_;intro ac T
   refine Zgq T 2 5 Z (fun _=>(Zrm Z (T.e 3 Z))) ?_;intro ac T
   refine Zgq T 4 21 Z (fun _=>(Zrm Z (T.e 2 Z))) ?_;intro ac T
   refine Zgq T 7 149 Z (fun _=>(Zrm Z (T.e 4 Z))) ?_;intro ac T
   refine g_m2 (i:=1) (j:=5) (by kernel_rfl) ?_ ?_
   ·refine gi 151 ?_;intro K hK
    refine ow_bs0 (e:=3) M T Z Z Z Z (fun _=>by kernel_rfl) ?_;clear M T;intro gr12_1 wc ac M T
    refine Zso hK _ _ (M.perm [] Z Z) ?_;clear hK K
    refine g_m2 (i:=3) (j:=5) (by kernel_rfl) ?_ ?_
    ·refine gi 159 ?_;intro K hK
     refine ow_appS Tryz.info3 M T Z Z Z Z (fun g w=>Tryz.append0i _ _ g _ w) underlying31 Z Z Z (by omega) (T.e 0 Z) (T.e 3 Z) (Sl0.rd M (.cons _ (.cons _ (Zsq _ _)))) (ic_one _) ?_;clear M T;intro Au12_3 cu12_3 Iu12_3 wc ac hSm12_3 M T
     replace M:Mem w exq wc ((ge.kb,.cells [.slice A3 n3 c3,.bool i3])::(I3++Il++Iu12_3)):=M.swapI
     refine Zso hK _ _ (M.perm [] Z Z) ?_;clear hK K
     refine gw 5 191 ?_;intro K hK
     refine ow_bs (e:=3) [Zi (-1)] M T Z Z Z Z (.cons (T.e 3 Z) .nil) (fun _=>by kernel_rfl) ?_;clear M T;intro gr12_5 wc ac M T
     refine Zso hK _ _ (M.perm [] Z Z) ?_;clear hK K
     refine gw 6 255 ?_;intro K hK
     refine ow_appM (((gr12_5,.cells [Zi (-1)])::(ge.kb,.cells [.slice A3 n3 c3,.bool i3])::(I3++Il))) Tryz.info3 hSm12_3 M (by first | rfl | simp) T Z Z Z Z underlying31 Z Z Z (by omega) (T.e 1 Z) (T.e 0 Z) (Zne (i:=0) Z) Z Z ?_;clear M T;intro ga12_6 ca12_6 wc ac M T
     refine Zso hK _ _ (M.perm [] Z Z) ?_;clear hK K
     refine gw 8 511 ?_;intro K hK
     have Mq:Mem w exq wc ((ge.kb,.cells [.slice A3 n3 c3,.bool i3])::(ga12_6,.row 3 1 (l.length+1) (ic l++[Zi (-1)]) ca12_6)::(I3++Il)):=M.permT [2,0] 3 rfl rfl rfl rfl
     have My:Mem w exq wc ((ge.kb,.cells [.slice A3 n3 c3,.bool i3])::(ga12_6,.row 3 1 (l.length+1) (ic l++[Zi (-1)]) ca12_6)::I3):=Mq.sub ((Zsl I3 Il).cons_cons _ |>.cons_cons _)
     have Mx:Mem wc (inL ((ge.kb,.cells [.slice A3 n3 c3,.bool i3])::(ga12_6,.row 3 1 (l.length+1) (ic l++[Zi (-1)]) ca12_6)::I3)) wc ((ge.kb,.cells [.slice A3 n3 c3,.bool i3])::(I3++[(ga12_6,.row 3 1 (l.length+1) (ic l++[Zi (-1)]) ca12_6)])):=Mem.spin [(ge.kb,.cells [.slice A3 n3 c3,.bool i3])] [(ga12_6,.row 3 1 (l.length+1) (ic l++[Zi (-1)]) ca12_6)] I3 My.rebase
     have gx:=genv.move (ex':=inL ((ge.kb,.cells [.slice A3 n3 c3,.bool i3])::(ga12_6,.row 3 1 (l.length+1) (ic l++[Zi (-1)]) ca12_6)::I3)) Mq (fun b hb=>by unfold inL at hb ⊢;exact (((Zsl I3 Il).cons_cons _).cons_cons _ |>.map _).subset hb)
     refine Zoc (first:=[]) (cap:=[.pointer (some ⟨ge.lo,0,none⟩),.pointer (some ⟨ge.me,0,none⟩),.pointer (some ⟨ge.hi,0,none⟩),.pointer (some ⟨ge.ma,0,none⟩),.pointer (some ⟨ge.gr,0,none⟩)]) T Z Z Z Z (T.e 7 Z) (.cons (T.e 0 Z) (.cons (T.e 4 Z) .nil)) func203 Z Z ?_
     refine Calls.mono (ih1 wc _ (l++[-1]) _ _ _ _ _ _ _ _ _ [(ga12_6,.row 3 1 (l.length+1) (ic l++[Zi (-1)]) ca12_6)] I3 (by simp) (by simp only [Zx3,Zx1,Zx2];omega) hu.skip hKs ⟨_,_,fun w ex=>by rw [← ic_snoc];exact Sp.row (by simp [ic_length])⟩ gx Mx) ?_
     clear T;rintro e wc ⟨Aur12_8,nur12_8,cur12_8,iur12_8,Iur12_8,rfl,hksur12_8,N⟩ ac T
     replace M:=Mem.joinX (X:=(ge.kb,.cells [.slice A3 n3 c3,.bool i3])::(ga12_6,.row 3 1 (l.length+1) (ic l++[Zi (-1)]) ca12_6)::I3) (F:=Il) Mq N (fun b h=>h)
     clear N Mq My Mx gx
     replace M:Mem w exq wc ((ge.kb,.cells [.slice Aur12_8 nur12_8 cur12_8,.bool iur12_8])::(Iur12_8++Il)):=M
     refine Zso hK _ _ (M.perm [] Z Z) ?_;clear hK K
     refine Zgq (v:=(.bool false)) T 9 1023 Z (fun _=>(Zrq (rn_not Z (T.e 0 Z)) (by simp))) ?_;intro ac T
     refine Zgd (by kernel_rfl) ?_
     replace T:=T.pick [0,12,13,14,15,16,17,18,19] rfl
     refine nm_then ?_
     refine wp_cond_false (T.e 0 Z) ?_
     refine wp_skip ?_
     refine Znb ?_
     refine nm_then ?_
     refine wp_region_lit ?_
     refine lq T (rn_add Z (T.e 8 Z) evc (by omega)) ?_;intro ac T
     refine l_q (v:=(Zi ((h:Int)+1))) (T.pick [0,1,2,3,4,5,6,7,8] Z) Z Z Z Z (Zrm Z (T.e 0 Z)) ?_;intro ac T
     replace T:=T.pick [0,3,4,5,6,7,8,9] rfl
     refine Zln ?_
     exact ⟨_,by omega,h+1,Aur12_8,nur12_8,cur12_8,iur12_8,Iur12_8,Z,(by omega),(by rw [stG_last' (by omega)];exact hksur12_8),T.pick [1,2,3,4,5,6,7,0] Z,M⟩
    refine gi 183 ?_;intro K hK
    refine ow_bs (e:=3) [Zi (-1)] M T Z Z Z Z (.cons (T.e 2 Z) .nil) (fun _=>by kernel_rfl) ?_;clear M T;intro gr12_5 wc ac M T
    refine Zso hK _ _ (M.perm [] Z Z) ?_;clear hK K
    refine gw 3 191 ?_;intro K hK
    replace M:=M.permT [1,0,2] 3 rfl rfl rfl rfl
    refine ow_appS Tryz.info3 M T Z Z Z Z (fun g w=>Tryz.append0i _ _ g _ w) underlying31 Z Z Z (by omega) (T.e 1 Z) (T.e 4 Z) (Sl0.rd M (.cons _ (.cons _ (.cons _ (Zsq _ _))))) (ic_one _) ?_;clear M T;intro Au12_3 cu12_3 Iu12_3 wc ac hSm12_3 M T
    replace M:Mem w exq wc ((gr12_5,.cells [Zi (-1)])::(ge.kb,.cells [.slice A3 n3 c3,.bool i3])::(I3++Il++Iu12_3)):=M.swapI
    refine Zso hK _ _ (M.perm [] Z Z) ?_;clear hK K
    refine gw 6 255 ?_;intro K hK
    refine ow_appM (((gr12_5,.cells [Zi (-1)])::(ge.kb,.cells [.slice A3 n3 c3,.bool i3])::(I3++Il))) Tryz.info3 hSm12_3 M (by first | rfl | simp) T Z Z Z Z underlying31 Z Z Z (by omega) (T.e 0 Z) (T.e 1 Z) (Zne (i:=0) Z) Z Z ?_;clear M T;intro ga12_6 ca12_6 wc ac M T
    refine Zso hK _ _ (M.perm [] Z Z) ?_;clear hK K
    refine gw 8 511 ?_;intro K hK
    have Mq:Mem w exq wc ((ge.kb,.cells [.slice A3 n3 c3,.bool i3])::(ga12_6,.row 3 1 (l.length+1) (ic l++[Zi (-1)]) ca12_6)::(I3++Il)):=M.permT [2,0] 3 rfl rfl rfl rfl
    have My:Mem w exq wc ((ge.kb,.cells [.slice A3 n3 c3,.bool i3])::(ga12_6,.row 3 1 (l.length+1) (ic l++[Zi (-1)]) ca12_6)::I3):=Mq.sub ((Zsl I3 Il).cons_cons _ |>.cons_cons _)
    have Mx:Mem wc (inL ((ge.kb,.cells [.slice A3 n3 c3,.bool i3])::(ga12_6,.row 3 1 (l.length+1) (ic l++[Zi (-1)]) ca12_6)::I3)) wc ((ge.kb,.cells [.slice A3 n3 c3,.bool i3])::(I3++[(ga12_6,.row 3 1 (l.length+1) (ic l++[Zi (-1)]) ca12_6)])):=Mem.spin [(ge.kb,.cells [.slice A3 n3 c3,.bool i3])] [(ga12_6,.row 3 1 (l.length+1) (ic l++[Zi (-1)]) ca12_6)] I3 My.rebase
    have gx:=genv.move (ex':=inL ((ge.kb,.cells [.slice A3 n3 c3,.bool i3])::(ga12_6,.row 3 1 (l.length+1) (ic l++[Zi (-1)]) ca12_6)::I3)) Mq (fun b hb=>by unfold inL at hb ⊢;exact (((Zsl I3 Il).cons_cons _).cons_cons _ |>.map _).subset hb)
    refine Zoc (first:=[]) (cap:=[.pointer (some ⟨ge.lo,0,none⟩),.pointer (some ⟨ge.me,0,none⟩),.pointer (some ⟨ge.hi,0,none⟩),.pointer (some ⟨ge.ma,0,none⟩),.pointer (some ⟨ge.gr,0,none⟩)]) T Z Z Z Z (T.e 7 Z) (.cons (T.e 0 Z) (.cons (T.e 4 Z) .nil)) func203 Z Z ?_
    refine Calls.mono (ih1 wc _ (l++[-1]) _ _ _ _ _ _ _ _ _ [(ga12_6,.row 3 1 (l.length+1) (ic l++[Zi (-1)]) ca12_6)] I3 (by simp) (by simp only [Zx3,Zx1,Zx2];omega) hu.skip hKs ⟨_,_,fun w ex=>by rw [← ic_snoc];exact Sp.row (by simp [ic_length])⟩ gx Mx) ?_
    clear T;rintro e wc ⟨Aur12_8,nur12_8,cur12_8,iur12_8,Iur12_8,rfl,hksur12_8,N⟩ ac T
    replace M:=Mem.joinX (X:=(ge.kb,.cells [.slice A3 n3 c3,.bool i3])::(ga12_6,.row 3 1 (l.length+1) (ic l++[Zi (-1)]) ca12_6)::I3) (F:=Il) Mq N (fun b h=>h)
    clear N Mq My Mx gx
    replace M:Mem w exq wc ((ge.kb,.cells [.slice Aur12_8 nur12_8 cur12_8,.bool iur12_8])::(Iur12_8++Il)):=M
    refine Zso hK _ _ (M.perm [] Z Z) ?_;clear hK K
    refine Zgq (v:=(.bool false)) T 9 1023 Z (fun _=>(Zrq (rn_not Z (T.e 0 Z)) (by simp))) ?_;intro ac T
    refine Zgd (by kernel_rfl) ?_
    replace T:=T.pick [0,12,13,14,15,16,17,18,19] rfl
    refine nm_then ?_
    refine wp_cond_false (T.e 0 Z) ?_
    refine wp_skip ?_
    refine Znb ?_
    refine nm_then ?_
    refine wp_region_lit ?_
    refine lq T (rn_add Z (T.e 8 Z) evc (by omega)) ?_;intro ac T
    refine l_q (v:=(Zi ((h:Int)+1))) (T.pick [0,1,2,3,4,5,6,7,8] Z) Z Z Z Z (Zrm Z (T.e 0 Z)) ?_;intro ac T
    replace T:=T.pick [0,3,4,5,6,7,8,9] rfl
    refine Zln ?_
    exact ⟨_,by omega,h+1,Aur12_8,nur12_8,cur12_8,iur12_8,Iur12_8,Z,(by omega),(by rw [stG_last' (by omega)];exact hksur12_8),T.pick [1,2,3,4,5,6,7,0] Z,M⟩
   refine gi 181 ?_;intro K hK
   refine ow_bs (e:=3) [Zi (-1)] M T Z Z Z Z (.cons (T.e 1 Z) .nil) (fun _=>by kernel_rfl) ?_;clear M T;intro gr12_5 wc ac M T
   refine Zso hK _ _ (M.perm [] Z Z) ?_;clear hK K
   refine gw 1 183 ?_;intro K hK
   refine ow_bs0 (e:=3) M T Z Z Z Z (fun _=>by kernel_rfl) ?_;clear M T;intro gr12_1 wc ac M T
   refine Zso hK _ _ (M.perm [] Z Z) ?_;clear hK K
   refine gw 3 191 ?_;intro K hK
   refine ow_appS Tryz.info3 M T Z Z Z Z (fun g w=>Tryz.append0i _ _ g _ w) underlying31 Z Z Z (by omega) (T.e 0 Z) (T.e 4 Z) (Sl0.rd M (.cons _ (.cons _ (.cons _ (Zsq _ _))))) (ic_one _) ?_;clear M T;intro Au12_3 cu12_3 Iu12_3 wc ac hSm12_3 M T
   replace M:Mem w exq wc ((gr12_5,.cells [Zi (-1)])::(ge.kb,.cells [.slice A3 n3 c3,.bool i3])::(I3++Il++Iu12_3)):=M.swapI
   refine Zso hK _ _ (M.perm [] Z Z) ?_;clear hK K
   refine gw 6 255 ?_;intro K hK
   refine ow_appM (((gr12_5,.cells [Zi (-1)])::(ge.kb,.cells [.slice A3 n3 c3,.bool i3])::(I3++Il))) Tryz.info3 hSm12_3 M (by first | rfl | simp) T Z Z Z Z underlying31 Z Z Z (by omega) (T.e 0 Z) (T.e 2 Z) (Zne (i:=0) Z) Z Z ?_;clear M T;intro ga12_6 ca12_6 wc ac M T
   refine Zso hK _ _ (M.perm [] Z Z) ?_;clear hK K
   refine gw 8 511 ?_;intro K hK
   have Mq:Mem w exq wc ((ge.kb,.cells [.slice A3 n3 c3,.bool i3])::(ga12_6,.row 3 1 (l.length+1) (ic l++[Zi (-1)]) ca12_6)::(I3++Il)):=M.permT [2,0] 3 rfl rfl rfl rfl
   have My:Mem w exq wc ((ge.kb,.cells [.slice A3 n3 c3,.bool i3])::(ga12_6,.row 3 1 (l.length+1) (ic l++[Zi (-1)]) ca12_6)::I3):=Mq.sub ((Zsl I3 Il).cons_cons _ |>.cons_cons _)
   have Mx:Mem wc (inL ((ge.kb,.cells [.slice A3 n3 c3,.bool i3])::(ga12_6,.row 3 1 (l.length+1) (ic l++[Zi (-1)]) ca12_6)::I3)) wc ((ge.kb,.cells [.slice A3 n3 c3,.bool i3])::(I3++[(ga12_6,.row 3 1 (l.length+1) (ic l++[Zi (-1)]) ca12_6)])):=Mem.spin [(ge.kb,.cells [.slice A3 n3 c3,.bool i3])] [(ga12_6,.row 3 1 (l.length+1) (ic l++[Zi (-1)]) ca12_6)] I3 My.rebase
   have gx:=genv.move (ex':=inL ((ge.kb,.cells [.slice A3 n3 c3,.bool i3])::(ga12_6,.row 3 1 (l.length+1) (ic l++[Zi (-1)]) ca12_6)::I3)) Mq (fun b hb=>by unfold inL at hb ⊢;exact (((Zsl I3 Il).cons_cons _).cons_cons _ |>.map _).subset hb)
   refine Zoc (first:=[]) (cap:=[.pointer (some ⟨ge.lo,0,none⟩),.pointer (some ⟨ge.me,0,none⟩),.pointer (some ⟨ge.hi,0,none⟩),.pointer (some ⟨ge.ma,0,none⟩),.pointer (some ⟨ge.gr,0,none⟩)]) T Z Z Z Z (T.e 7 Z) (.cons (T.e 0 Z) (.cons (T.e 4 Z) .nil)) func203 Z Z ?_
   refine Calls.mono (ih1 wc _ (l++[-1]) _ _ _ _ _ _ _ _ _ [(ga12_6,.row 3 1 (l.length+1) (ic l++[Zi (-1)]) ca12_6)] I3 (by simp) (by simp only [Zx3,Zx1,Zx2];omega) hu.skip hKs ⟨_,_,fun w ex=>by rw [← ic_snoc];exact Sp.row (by simp [ic_length])⟩ gx Mx) ?_
   clear T;rintro e wc ⟨Aur12_8,nur12_8,cur12_8,iur12_8,Iur12_8,rfl,hksur12_8,N⟩ ac T
   replace M:=Mem.joinX (X:=(ge.kb,.cells [.slice A3 n3 c3,.bool i3])::(ga12_6,.row 3 1 (l.length+1) (ic l++[Zi (-1)]) ca12_6)::I3) (F:=Il) Mq N (fun b h=>h)
   clear N Mq My Mx gx
   replace M:Mem w exq wc ((ge.kb,.cells [.slice Aur12_8 nur12_8 cur12_8,.bool iur12_8])::(Iur12_8++Il)):=M
   refine Zso hK _ _ (M.perm [] Z Z) ?_;clear hK K
   refine Zgq (v:=(.bool false)) T 9 1023 Z (fun _=>(Zrq (rn_not Z (T.e 0 Z)) (by simp))) ?_;intro ac T
   refine Zgd (by kernel_rfl) ?_
   replace T:=T.pick [0,12,13,14,15,16,17,18,19] rfl
   refine nm_then ?_
   refine wp_cond_false (T.e 0 Z) ?_
   refine wp_skip ?_
   refine Znb ?_
   refine nm_then ?_
   refine wp_region_lit ?_
   refine lq T (rn_add Z (T.e 8 Z) evc (by omega)) ?_;intro ac T
   refine l_q (v:=(Zi ((h:Int)+1))) (T.pick [0,1,2,3,4,5,6,7,8] Z) Z Z Z Z (Zrm Z (T.e 0 Z)) ?_;intro ac T
   replace T:=T.pick [0,3,4,5,6,7,8,9] rfl
   refine Zln ?_
   exact ⟨_,by omega,h+1,Aur12_8,nur12_8,cur12_8,iur12_8,Iur12_8,Z,(by omega),(by rw [stG_last' (by omega)];exact hksur12_8),T.pick [1,2,3,4,5,6,7,0] Z,M⟩
  intro h3
  refine cut_seq (fun ac wc=>Tm ac 60 [(0,.slice A l.length c),(1,Zi used),(4,.pointer (some ⟨ge.hi,0,none⟩)),(5,.pointer (some ⟨ge.ma,0,none⟩)),(6,.pointer (some ⟨ge.gr,0,none⟩)),(10,.func (.func 204) #[Zi used] #[]),(11,Zi (h:Int)),(12,Zi (h:Int)),(24,Zi (((ge.highs:Nat):Int)+1)),(25,Zi (h:Int)),(37,.bool ((hasI used (h:Int)) || (!(may l.length h))))]∧Mem w exq wc ((ge.kb,.cells [.slice A3 n3 c3,.bool i3])::(I3++Il))) ?_ ?_
  ·refine wp_region_lit ?_
   refine Zg2 T (Zq (Zrm Z (T.e 9 Z))) Z (Zm 4 Z Z) Z ?_;intro ac T
   refine Zl2 ?_
   refine Zoc (first:=[Zi used]) (cap:=[]) T Z Z Z Z (T.e 1 Z) (.cons (T.e 0 Z) .nil) func204 Z Z ?_
   refine Calls.mono (hasT_any used (h:Int) _ (by omega)) ?_
   clear T;rintro e wc ⟨rfl,hb⟩ ac T
   replace M:=M.call hb;clear hb
   refine lq T (Zrm Z (T.e 0 Z)) ?_;intro ac T
   rcases Zx9 (hasI used (h:Int)) with h4 | h4
   ·refine Zg8 T (Zp (Zwn Z Z (T.e 0 Z) h4)) Z (fun _ T=>Zp (Zwn Z Z (T.e 1 Z) h4)) Z (fun _ T=>Zp (Zwn Z Z (T.e 2 Z) h4)) Z (fun _ T=>Zp (Zwn Z Z (T.e 3 Z) h4)) Z (fun _ T=>Zp (Zwn Z Z (T.e 4 Z) h4)) Z (fun _ T=>Zp (Zwn Z Z (T.e 5 Z) h4)) Z (fun _ T=>Zq (Zr1 Z (T.e 6 Z) h4 evc)) Z (Za 0 Z Z) Z ?_;intro ac T
    refine wpList_nil ?_
    replace T:=T.pick [0,2,3,4,5,6,7,14,15,16,17,18,19,20,21,22,23] rfl
    exact ⟨(T.pick (E':=[(0,.slice A l.length c),(1,Zi used),(4,.pointer (some ⟨ge.hi,0,none⟩)),(5,.pointer (some ⟨ge.ma,0,none⟩)),(6,.pointer (some ⟨ge.gr,0,none⟩)),(10,.func (.func 204) #[Zi used] #[]),(11,Zi (h:Int)),(12,Zi (h:Int)),(24,Zi (((ge.highs:Nat):Int)+1)),(25,Zi (h:Int)),(37,.bool true)]) [9,10,11,12,13,14,8,7,15,16,0] Z).as (by (try rw [show (hasI used (h:Int))=true from h4]);(try rfl)),M.mask [true] Z⟩
   refine Zg4 T (Zw (Zwy Z Z (T.e 0 Z) h4) (Zro (Mem.old M genv.ma.1 genv.ma.2) Z (T.e 11 Z) Z)) Z (fun _ T=>Zw (Zwy Z Z (T.e 1 Z) h4) (Zrm Z (T.e 9 Z))) Z (fun _ T=>Zw (Zwy Z Z (T.e 2 Z) h4) (Zrl Z underlying31 (T.e 0 Z))) Z (fun _ T=>Zw (Zwy Z Z (T.e 3 Z) h4) (Zrm Z (T.e 10 Z))) Z ?_;intro ac T
   refine l_w (Zwy Z Z (T.e 4 Z) h4) ?_;intro K hK
   refine Zoc (first:=[]) (cap:=[.pointer (some ⟨ge.mb,0,none⟩),.pointer (some ⟨ge.tb,0,none⟩)]) T Z Z Z Z (T.e 3 Z) (.cons (T.e 1 Z) (.cons (T.e 0 Z) .nil)) func154 Z Z ?_
   refine Calls.mono (hmay _ l.length h (genv.move M (fun _ h=>h.elim)) (by omega) (by omega)) ?_
   clear T;rintro e wc ⟨rfl,hb⟩ ac T
   replace M:=M.call hb;clear hb
   refine Zso hK _ _ ?_;clear hK K
   refine Zg3 T (Zw (Zwy Z Z (T.e 5 Z) h4) (rn_not Z (T.e 0 Z))) Z (fun _ T=>Zq (Zr0 Z (T.e 6 Z) h4 (T.e 0 Z))) Z (Za 0 Z Z) Z ?_;intro ac T
   refine wpList_nil ?_
   replace T:=T.pick [0,2,3,4,5,6,7,14,15,16,17,18,19,20,21,22,23] rfl
   exact ⟨(T.pick (E':=[(0,.slice A l.length c),(1,Zi used),(4,.pointer (some ⟨ge.hi,0,none⟩)),(5,.pointer (some ⟨ge.ma,0,none⟩)),(6,.pointer (some ⟨ge.gr,0,none⟩)),(10,.func (.func 204) #[Zi used] #[]),(11,Zi (h:Int)),(12,Zi (h:Int)),(24,Zi (((ge.highs:Nat):Int)+1)),(25,Zi (h:Int)),(37,.bool (!(may l.length h)))]) [9,10,11,12,13,14,8,7,15,16,0] Z).as (by (try rw [show (hasI used (h:Int))=false from h4]);(try rfl)),M.mask [true] Z⟩
  clear T M
  rintro ac wc ⟨T,M⟩
  refine wp_cond_split (T.e 10 Z) ?_ ?_
  ·intro h5
   (have h5':=h5;try simp only [Zb1,Zb2,Zb3,Zb4,Zb5,Zb6,Zb7] at h5')
   refine wp_exit ?_
   refine ex_miss Z ?_
   refine Zet ?_
   refine ex_hit ?_
   refine nm_then ?_
   refine wp_region_lit ?_
   refine lq T (rn_add Z (T.e 9 Z) evc (by omega)) ?_;intro ac T
   refine l_q (v:=(Zi ((h:Int)+1))) (T.pick [0,1,2,3,4,5,6,7,8,9,11] Z) Z Z Z Z (Zrm Z (T.e 0 Z)) ?_;intro ac T
   replace T:=T.pick [0,2,3,4,5,6,7,10] rfl
   refine Zln ?_
   exact ⟨_,by omega,h+1,A3,n3,c3,i3,I3,Z,(by omega),(by rw [stG_skip (by omega) (goP_of hu (by omega) h5)];exact hKs),T.pick [1,2,3,4,5,6,7,0] Z,M⟩
  intro h5
  (have h5':=h5;try simp only [Zb1,Zb2,Zb3,Zb4,Zb5,Zb6,Zb7] at h5')
  refine wp_region_lit ?_
  refine Zg2 T (Zq (Zrm Z (T.e 1 Z))) Z (Zm 7 Z Z) Z ?_;intro ac T
  refine Zl2 ?_
  refine Zod T Z Z Z Z evf (.cons (T.e 1 Z) (.cons (T.e 0 Z) .nil)) func95 Z Z ?_
  refine Calls.mono (with_any used (h:Int) _ (by omega)) ?_
  clear T;rintro e wc ⟨rfl,hb⟩ ac T
  replace M:=M.call hb;clear hb
  refine lq T (Zra Z (T.e 0 Z)) ?_;intro ac T
  refine wpList_nil ?_
  replace T:=T.pick [0,4,5,6,7,8,9,11,12,13] rfl
  refine Znb ?_
  refine Zns ?_
  refine Zgs M (M.perm [] Z Z) 10 (by kernel_rfl) Z (by kernel_rfl) ?_
  clear M;intro wc M
  refine gq T 0 1 Z (fun B w' hD hl hS=>(Zro (Mem.old (show Mem w exq w' _ from hS) genv.gr.1 genv.gr.2) Z (T.e 5 Z) Z)) ?_;intro ac T
  refine Zgq T 2 5 Z (fun _=>(Zrm Z (T.e 2 Z))) ?_;intro ac T
  refine Zgq T 4 21 Z (fun _=>(Zrm Z (T.e 9 Z))) ?_;intro ac T
  refine Zgq T 7 149 Z (fun _=>(Zrm Z (T.e 3 Z))) ?_;intro ac T
  refine g_m2 (i:=1) (j:=5) (by kernel_rfl) ?_ ?_
  ·refine gi 151 ?_;intro K hK
   refine ow_bs0 (e:=3) M T Z Z Z Z (fun _=>by kernel_rfl) ?_;clear M T;intro gr12_1 wc ac M T
   refine Zso hK _ _ (M.perm [] Z Z) ?_;clear hK K
   refine g_m2 (i:=3) (j:=5) (by kernel_rfl) ?_ ?_
   ·refine gi 159 ?_;intro K hK
    refine ow_appS Tryz.info3 M T Z Z Z Z (fun g w=>Tryz.append0i _ _ g _ w) underlying31 Z Z Z (by omega) (T.e 0 Z) (T.e 3 Z) (Sl0.rd M (.cons _ (.cons _ (Zsq _ _)))) (ic_one _) ?_;clear M T;intro Au12_3 cu12_3 Iu12_3 wc ac hSm12_3 M T
    replace M:Mem w exq wc ((ge.kb,.cells [.slice A3 n3 c3,.bool i3])::(I3++Il++Iu12_3)):=M.swapI
    refine Zso hK _ _ (M.perm [] Z Z) ?_;clear hK K
    refine gw 5 191 ?_;intro K hK
    refine ow_bs (e:=3) [Zi (h:Int)] M T Z Z Z Z (.cons (T.e 3 Z) .nil) (fun _=>by kernel_rfl) ?_;clear M T;intro gr12_5 wc ac M T
    refine Zso hK _ _ (M.perm [] Z Z) ?_;clear hK K
    refine gw 6 255 ?_;intro K hK
    refine ow_appM (((gr12_5,.cells [Zi (h:Int)])::(ge.kb,.cells [.slice A3 n3 c3,.bool i3])::(I3++Il))) Tryz.info3 hSm12_3 M (by first | rfl | simp) T Z Z Z Z underlying31 Z Z Z (by omega) (T.e 1 Z) (T.e 0 Z) (Zne (i:=0) Z) Z Z ?_;clear M T;intro ga12_6 ca12_6 wc ac M T
    refine Zso hK _ _ (M.perm [] Z Z) ?_;clear hK K
    refine gw 8 511 ?_;intro K hK
    have Mq:Mem w exq wc ((ge.kb,.cells [.slice A3 n3 c3,.bool i3])::(ga12_6,.row 3 1 (l.length+1) (ic l++[Zi (h:Int)]) ca12_6)::(I3++Il)):=M.permT [2,0] 3 rfl rfl rfl rfl
    have My:Mem w exq wc ((ge.kb,.cells [.slice A3 n3 c3,.bool i3])::(ga12_6,.row 3 1 (l.length+1) (ic l++[Zi (h:Int)]) ca12_6)::I3):=Mq.sub ((Zsl I3 Il).cons_cons _ |>.cons_cons _)
    have Mx:Mem wc (inL ((ge.kb,.cells [.slice A3 n3 c3,.bool i3])::(ga12_6,.row 3 1 (l.length+1) (ic l++[Zi (h:Int)]) ca12_6)::I3)) wc ((ge.kb,.cells [.slice A3 n3 c3,.bool i3])::(I3++[(ga12_6,.row 3 1 (l.length+1) (ic l++[Zi (h:Int)]) ca12_6)])):=Mem.spin [(ge.kb,.cells [.slice A3 n3 c3,.bool i3])] [(ga12_6,.row 3 1 (l.length+1) (ic l++[Zi (h:Int)]) ca12_6)] I3 My.rebase
    have gx:=genv.move (ex':=inL ((ge.kb,.cells [.slice A3 n3 c3,.bool i3])::(ga12_6,.row 3 1 (l.length+1) (ic l++[Zi (h:Int)]) ca12_6)::I3)) Mq (fun b hb=>by unfold inL at hb ⊢;exact (((Zsl I3 Il).cons_cons _).cons_cons _ |>.map _).subset hb)
    refine Zoc (first:=[]) (cap:=[.pointer (some ⟨ge.lo,0,none⟩),.pointer (some ⟨ge.me,0,none⟩),.pointer (some ⟨ge.hi,0,none⟩),.pointer (some ⟨ge.ma,0,none⟩),.pointer (some ⟨ge.gr,0,none⟩)]) T Z Z Z Z (T.e 7 Z) (.cons (T.e 0 Z) (.cons (T.e 4 Z) .nil)) func203 Z Z ?_
    refine Calls.mono (ih1 wc _ (l++[(h:Int)]) _ _ _ _ _ _ _ _ _ [(ga12_6,.row 3 1 (l.length+1) (ic l++[Zi (h:Int)]) ca12_6)] I3 (by simp) (by simp only [Zx3,Zx1,Zx2];omega) (hu.with (by omega)) hKs ⟨_,_,fun w ex=>by rw [← ic_snoc];exact Sp.row (by simp [ic_length])⟩ gx Mx) ?_
    clear T;rintro e wc ⟨Aur12_8,nur12_8,cur12_8,iur12_8,Iur12_8,rfl,hksur12_8,N⟩ ac T
    replace M:=Mem.joinX (X:=(ge.kb,.cells [.slice A3 n3 c3,.bool i3])::(ga12_6,.row 3 1 (l.length+1) (ic l++[Zi (h:Int)]) ca12_6)::I3) (F:=Il) Mq N (fun b h=>h)
    clear N Mq My Mx gx
    replace M:Mem w exq wc ((ge.kb,.cells [.slice Aur12_8 nur12_8 cur12_8,.bool iur12_8])::(Iur12_8++Il)):=M
    refine Zso hK _ _ (M.perm [] Z Z) ?_;clear hK K
    refine Zgq (v:=(.bool false)) T 9 1023 Z (fun _=>(Zrq (rn_not Z (T.e 0 Z)) (by simp))) ?_;intro ac T
    refine Zgd (by kernel_rfl) ?_
    replace T:=T.pick [0,11,12,13,14,15,16,18,19] rfl
    refine nm_then ?_
    refine wp_cond_false (T.e 0 Z) ?_
    refine wp_skip ?_
    refine Znb ?_
    refine nm_then ?_
    refine wp_region_lit ?_
    refine lq T (rn_add Z (T.e 8 Z) evc (by omega)) ?_;intro ac T
    refine l_q (v:=(Zi ((h:Int)+1))) (T.pick [0,1,2,3,4,5,6,7,8] Z) Z Z Z Z (Zrm Z (T.e 0 Z)) ?_;intro ac T
    replace T:=T.pick [0,3,4,5,6,7,8,9] rfl
    refine Zln ?_
    exact ⟨_,by omega,h+1,Aur12_8,nur12_8,cur12_8,iur12_8,Iur12_8,Z,(by omega),(by rw [stG_go (by omega) (goP_of hu (by omega) h5)];exact hksur12_8),T.pick [1,2,3,4,5,6,7,0] Z,M⟩
   refine gi 183 ?_;intro K hK
   refine ow_bs (e:=3) [Zi (h:Int)] M T Z Z Z Z (.cons (T.e 2 Z) .nil) (fun _=>by kernel_rfl) ?_;clear M T;intro gr12_5 wc ac M T
   refine Zso hK _ _ (M.perm [] Z Z) ?_;clear hK K
   refine gw 3 191 ?_;intro K hK
   replace M:=M.permT [1,0,2] 3 rfl rfl rfl rfl
   refine ow_appS Tryz.info3 M T Z Z Z Z (fun g w=>Tryz.append0i _ _ g _ w) underlying31 Z Z Z (by omega) (T.e 1 Z) (T.e 4 Z) (Sl0.rd M (.cons _ (.cons _ (.cons _ (Zsq _ _))))) (ic_one _) ?_;clear M T;intro Au12_3 cu12_3 Iu12_3 wc ac hSm12_3 M T
   replace M:Mem w exq wc ((gr12_5,.cells [Zi (h:Int)])::(ge.kb,.cells [.slice A3 n3 c3,.bool i3])::(I3++Il++Iu12_3)):=M.swapI
   refine Zso hK _ _ (M.perm [] Z Z) ?_;clear hK K
   refine gw 6 255 ?_;intro K hK
   refine ow_appM (((gr12_5,.cells [Zi (h:Int)])::(ge.kb,.cells [.slice A3 n3 c3,.bool i3])::(I3++Il))) Tryz.info3 hSm12_3 M (by first | rfl | simp) T Z Z Z Z underlying31 Z Z Z (by omega) (T.e 0 Z) (T.e 1 Z) (Zne (i:=0) Z) Z Z ?_;clear M T;intro ga12_6 ca12_6 wc ac M T
   refine Zso hK _ _ (M.perm [] Z Z) ?_;clear hK K
   refine gw 8 511 ?_;intro K hK
   have Mq:Mem w exq wc ((ge.kb,.cells [.slice A3 n3 c3,.bool i3])::(ga12_6,.row 3 1 (l.length+1) (ic l++[Zi (h:Int)]) ca12_6)::(I3++Il)):=M.permT [2,0] 3 rfl rfl rfl rfl
   have My:Mem w exq wc ((ge.kb,.cells [.slice A3 n3 c3,.bool i3])::(ga12_6,.row 3 1 (l.length+1) (ic l++[Zi (h:Int)]) ca12_6)::I3):=Mq.sub ((Zsl I3 Il).cons_cons _ |>.cons_cons _)
   have Mx:Mem wc (inL ((ge.kb,.cells [.slice A3 n3 c3,.bool i3])::(ga12_6,.row 3 1 (l.length+1) (ic l++[Zi (h:Int)]) ca12_6)::I3)) wc ((ge.kb,.cells [.slice A3 n3 c3,.bool i3])::(I3++[(ga12_6,.row 3 1 (l.length+1) (ic l++[Zi (h:Int)]) ca12_6)])):=Mem.spin [(ge.kb,.cells [.slice A3 n3 c3,.bool i3])] [(ga12_6,.row 3 1 (l.length+1) (ic l++[Zi (h:Int)]) ca12_6)] I3 My.rebase
   have gx:=genv.move (ex':=inL ((ge.kb,.cells [.slice A3 n3 c3,.bool i3])::(ga12_6,.row 3 1 (l.length+1) (ic l++[Zi (h:Int)]) ca12_6)::I3)) Mq (fun b hb=>by unfold inL at hb ⊢;exact (((Zsl I3 Il).cons_cons _).cons_cons _ |>.map _).subset hb)
   refine Zoc (first:=[]) (cap:=[.pointer (some ⟨ge.lo,0,none⟩),.pointer (some ⟨ge.me,0,none⟩),.pointer (some ⟨ge.hi,0,none⟩),.pointer (some ⟨ge.ma,0,none⟩),.pointer (some ⟨ge.gr,0,none⟩)]) T Z Z Z Z (T.e 7 Z) (.cons (T.e 0 Z) (.cons (T.e 4 Z) .nil)) func203 Z Z ?_
   refine Calls.mono (ih1 wc _ (l++[(h:Int)]) _ _ _ _ _ _ _ _ _ [(ga12_6,.row 3 1 (l.length+1) (ic l++[Zi (h:Int)]) ca12_6)] I3 (by simp) (by simp only [Zx3,Zx1,Zx2];omega) (hu.with (by omega)) hKs ⟨_,_,fun w ex=>by rw [← ic_snoc];exact Sp.row (by simp [ic_length])⟩ gx Mx) ?_
   clear T;rintro e wc ⟨Aur12_8,nur12_8,cur12_8,iur12_8,Iur12_8,rfl,hksur12_8,N⟩ ac T
   replace M:=Mem.joinX (X:=(ge.kb,.cells [.slice A3 n3 c3,.bool i3])::(ga12_6,.row 3 1 (l.length+1) (ic l++[Zi (h:Int)]) ca12_6)::I3) (F:=Il) Mq N (fun b h=>h)
   clear N Mq My Mx gx
   replace M:Mem w exq wc ((ge.kb,.cells [.slice Aur12_8 nur12_8 cur12_8,.bool iur12_8])::(Iur12_8++Il)):=M
   refine Zso hK _ _ (M.perm [] Z Z) ?_;clear hK K
   refine Zgq (v:=(.bool false)) T 9 1023 Z (fun _=>(Zrq (rn_not Z (T.e 0 Z)) (by simp))) ?_;intro ac T
   refine Zgd (by kernel_rfl) ?_
   replace T:=T.pick [0,11,12,13,14,15,16,18,19] rfl
   refine nm_then ?_
   refine wp_cond_false (T.e 0 Z) ?_
   refine wp_skip ?_
   refine Znb ?_
   refine nm_then ?_
   refine wp_region_lit ?_
   refine lq T (rn_add Z (T.e 8 Z) evc (by omega)) ?_;intro ac T
   refine l_q (v:=(Zi ((h:Int)+1))) (T.pick [0,1,2,3,4,5,6,7,8] Z) Z Z Z Z (Zrm Z (T.e 0 Z)) ?_;intro ac T
   replace T:=T.pick [0,3,4,5,6,7,8,9] rfl
   refine Zln ?_
   exact ⟨_,by omega,h+1,Aur12_8,nur12_8,cur12_8,iur12_8,Iur12_8,Z,(by omega),(by rw [stG_go (by omega) (goP_of hu (by omega) h5)];exact hksur12_8),T.pick [1,2,3,4,5,6,7,0] Z,M⟩
  refine gi 181 ?_;intro K hK
  refine ow_bs (e:=3) [Zi (h:Int)] M T Z Z Z Z (.cons (T.e 1 Z) .nil) (fun _=>by kernel_rfl) ?_;clear M T;intro gr12_5 wc ac M T
  refine Zso hK _ _ (M.perm [] Z Z) ?_;clear hK K
  refine gw 1 183 ?_;intro K hK
  refine ow_bs0 (e:=3) M T Z Z Z Z (fun _=>by kernel_rfl) ?_;clear M T;intro gr12_1 wc ac M T
  refine Zso hK _ _ (M.perm [] Z Z) ?_;clear hK K
  refine gw 3 191 ?_;intro K hK
  refine ow_appS Tryz.info3 M T Z Z Z Z (fun g w=>Tryz.append0i _ _ g _ w) underlying31 Z Z Z (by omega) (T.e 0 Z) (T.e 4 Z) (Sl0.rd M (.cons _ (.cons _ (.cons _ (Zsq _ _))))) (ic_one _) ?_;clear M T;intro Au12_3 cu12_3 Iu12_3 wc ac hSm12_3 M T
  replace M:Mem w exq wc ((gr12_5,.cells [Zi (h:Int)])::(ge.kb,.cells [.slice A3 n3 c3,.bool i3])::(I3++Il++Iu12_3)):=M.swapI
  refine Zso hK _ _ (M.perm [] Z Z) ?_;clear hK K
  refine gw 6 255 ?_;intro K hK
  refine ow_appM (((gr12_5,.cells [Zi (h:Int)])::(ge.kb,.cells [.slice A3 n3 c3,.bool i3])::(I3++Il))) Tryz.info3 hSm12_3 M (by first | rfl | simp) T Z Z Z Z underlying31 Z Z Z (by omega) (T.e 0 Z) (T.e 2 Z) (Zne (i:=0) Z) Z Z ?_;clear M T;intro ga12_6 ca12_6 wc ac M T
  refine Zso hK _ _ (M.perm [] Z Z) ?_;clear hK K
  refine gw 8 511 ?_;intro K hK
  have Mq:Mem w exq wc ((ge.kb,.cells [.slice A3 n3 c3,.bool i3])::(ga12_6,.row 3 1 (l.length+1) (ic l++[Zi (h:Int)]) ca12_6)::(I3++Il)):=M.permT [2,0] 3 rfl rfl rfl rfl
  have My:Mem w exq wc ((ge.kb,.cells [.slice A3 n3 c3,.bool i3])::(ga12_6,.row 3 1 (l.length+1) (ic l++[Zi (h:Int)]) ca12_6)::I3):=Mq.sub ((Zsl I3 Il).cons_cons _ |>.cons_cons _)
  have Mx:Mem wc (inL ((ge.kb,.cells [.slice A3 n3 c3,.bool i3])::(ga12_6,.row 3 1 (l.length+1) (ic l++[Zi (h:Int)]) ca12_6)::I3)) wc ((ge.kb,.cells [.slice A3 n3 c3,.bool i3])::(I3++[(ga12_6,.row 3 1 (l.length+1) (ic l++[Zi (h:Int)]) ca12_6)])):=Mem.spin [(ge.kb,.cells [.slice A3 n3 c3,.bool i3])] [(ga12_6,.row 3 1 (l.length+1) (ic l++[Zi (h:Int)]) ca12_6)] I3 My.rebase
  have gx:=genv.move (ex':=inL ((ge.kb,.cells [.slice A3 n3 c3,.bool i3])::(ga12_6,.row 3 1 (l.length+1) (ic l++[Zi (h:Int)]) ca12_6)::I3)) Mq (fun b hb=>by unfold inL at hb ⊢;exact (((Zsl I3 Il).cons_cons _).cons_cons _ |>.map _).subset hb)
  refine Zoc (first:=[]) (cap:=[.pointer (some ⟨ge.lo,0,none⟩),.pointer (some ⟨ge.me,0,none⟩),.pointer (some ⟨ge.hi,0,none⟩),.pointer (some ⟨ge.ma,0,none⟩),.pointer (some ⟨ge.gr,0,none⟩)]) T Z Z Z Z (T.e 7 Z) (.cons (T.e 0 Z) (.cons (T.e 4 Z) .nil)) func203 Z Z ?_
  refine Calls.mono (ih1 wc _ (l++[(h:Int)]) _ _ _ _ _ _ _ _ _ [(ga12_6,.row 3 1 (l.length+1) (ic l++[Zi (h:Int)]) ca12_6)] I3 (by simp) (by simp only [Zx3,Zx1,Zx2];omega) (hu.with (by omega)) hKs ⟨_,_,fun w ex=>by rw [← ic_snoc];exact Sp.row (by simp [ic_length])⟩ gx Mx) ?_
  clear T;rintro e wc ⟨Aur12_8,nur12_8,cur12_8,iur12_8,Iur12_8,rfl,hksur12_8,N⟩ ac T
  replace M:=Mem.joinX (X:=(ge.kb,.cells [.slice A3 n3 c3,.bool i3])::(ga12_6,.row 3 1 (l.length+1) (ic l++[Zi (h:Int)]) ca12_6)::I3) (F:=Il) Mq N (fun b h=>h)
  clear N Mq My Mx gx
  replace M:Mem w exq wc ((ge.kb,.cells [.slice Aur12_8 nur12_8 cur12_8,.bool iur12_8])::(Iur12_8++Il)):=M
  refine Zso hK _ _ (M.perm [] Z Z) ?_;clear hK K
  refine Zgq (v:=(.bool false)) T 9 1023 Z (fun _=>(Zrq (rn_not Z (T.e 0 Z)) (by simp))) ?_;intro ac T
  refine Zgd (by kernel_rfl) ?_
  replace T:=T.pick [0,11,12,13,14,15,16,18,19] rfl
  refine nm_then ?_
  refine wp_cond_false (T.e 0 Z) ?_
  refine wp_skip ?_
  refine Znb ?_
  refine nm_then ?_
  refine wp_region_lit ?_
  refine lq T (rn_add Z (T.e 8 Z) evc (by omega)) ?_;intro ac T
  refine l_q (v:=(Zi ((h:Int)+1))) (T.pick [0,1,2,3,4,5,6,7,8] Z) Z Z Z Z (Zrm Z (T.e 0 Z)) ?_;intro ac T
  replace T:=T.pick [0,3,4,5,6,7,8,9] rfl
  refine Zln ?_
  exact ⟨_,by omega,h+1,Aur12_8,nur12_8,cur12_8,iur12_8,Iur12_8,Z,(by omega),(by rw [stG_go (by omega) (goP_of hu (by omega) h5)];exact hksur12_8),T.pick [1,2,3,4,5,6,7,0] Z,M⟩
 intro h2
 rw [stG_end (by omega)] at hKs
 refine wp_exit ?_
 refine Zet ?_
 refine Zet ?_
 refine ex_hit ?_
 refine nm_then ?_
 refine Zsr ?_
 refine lq T (Zra Z evc) ?_;intro ac T
 replace T:=T.pick [0] rfl
 refine Zln ?_
 refine wp_ret ?_
 refine rt_ng ?_
 refine rt_1 T Z (T.e 0 Z) ?_
 exact ⟨A3,n3,c3,i3,I3,Z,hKs,M.sub (.cons_cons _ (Zsl _ _))⟩
theorem grow_any (ge:GE) (may:Nat→Nat→Bool) (hlo:ge.lows≤4) (hhi:ge.highs≤5) (hmay:MayOk ge may):∀ r:Nat,GrowSpec ge may r
 | 0=>fun w exq l A m c used bo Ab nb cb is Il Ib hm hlr hu hks hl genv M0=>by
  subst hm
  exact grow_step ge may 0 exq l A c used bo Ab nb cb is Il Ib w hlo hhi hmay (fun _ h=>by cases h) hlr hu hks hl genv M0
 | r+1=>fun w exq l A m c used bo Ab nb cb is Il Ib hm hlr hu hks hl genv M0=>by
  subst hm
  exact grow_step ge may (r+1) exq l A c used bo Ab nb cb is Il Ib w hlo hhi hmay (fun r' h=>by injection h with h;subst h;exact grow_any ge may hlo hhi hmay _) hlr hu hks hl genv M0
def PairPost (kb:Nat) (best:Option (List Int)) (w:World) (e:Ending) (w':World):Prop :=
 ∃ A n c is I,e=.returned (.tuple #[])∧KS best A n is I∧Mem w (fun b=>b=kb) w' ((kb,.cells [.slice A n c,.bool is])::I)
def MostPost (l:List Int) (w:World) (e:Ending) (w':World):Prop:=∃ A c I,e=.returned (.slice A l.length c)∧l.length≤5∧(∃ b o,∀ (w:World) (ex:Nat→Prop),Sp w ex I A l.length 1 b o (ic l))∧Mem w noEx w' I
theorem pairings_any (lows highs kb mb tb fo:Nat) (A:Option Addr) (c:Nat) (LL:List LE) (may:Nat→Nat→Bool) (w:World) (hlo:lows≤4) (hhi:highs≤5) (hmay:∀ lo me hi ma gr,MayOk ⟨lo,me,hi,ma,gr,kb,mb,tb,fo,lows,highs,A,c,LL⟩ may) (hmb:Old w (fun b=>b=kb) mb [.func (.func fo) #[] #[]]) (htb:Old w (fun b=>b=kb) tb [.slice A LL.length c]) (hA:∃ b o,Sp w (fun b=>b=kb) [] A LL.length 1 b o (lc LL)) (hE:∀ x∈LL,∃ b o,Sp w (fun b=>b=kb) [] x.2.1 x.1.length 1 b o (ic x.1)) (hk:Bk w kb #[.slice none 0 0,.bool false]) :
  Calls prog 153 #[Zi ((lows:Nat):Int),Zi ((highs:Nat):Int),.func (.func 154) #[] #[Zj mb,Zj tb],.func (.func 155) #[] #[Zj kb]] w (PairPost kb (growP may highs lows [] none) w):=by
 refine Zpx (fun b=>b=kb) func153 Z 12 Z [Zi ((lows:Nat):Int),Zi ((highs:Nat):Int),.func (.func 154) #[] #[Zj mb,Zj tb],.func (.func 155) #[] #[Zj kb]] Z Z (Mem.initEx (p:=.cells [.slice none 0 0,.bool false]) hk) ?_
 intro ac wc T M
 refine Zsr ?_
 refine Zl2 ?_
 refine Zob M T Z Z Z Z (T.e 0 Z) Z ?_;clear M T;intro g1 wc ac M T
 refine Zl2 ?_
 refine Zob M T Z Z Z Z (T.e 2 Z) Z ?_;clear M T;intro g2 wc ac M T
 refine Zl2 ?_
 refine Zob M T Z Z Z Z (T.e 4 Z) Z ?_;clear M T;intro g3 wc ac M T
 refine Zl2 ?_
 refine Zob M T Z Z Z Z (T.e 6 Z) Z ?_;clear M T;intro g4 wc ac M T
 replace T:=T.pick [0,1,2,3] rfl
 refine Zln ?_
 refine Zsr ?_
 refine Zl2 ?_
 refine Zoa M T Z Z Z Z ?_;clear M T;intro g5 wc ac M T
 refine Zln ?_
 refine Zsr ?_
 refine lq (v:=(.func (.func 203) #[] #[Zj g1,Zj g4,Zj g2,Zj g3,Zj g5])) T (rn_makeFunc Z .nil (.cons (T.e 4 Z) (.cons (T.e 1 Z) (.cons (T.e 3 Z) (.cons (T.e 2 Z) (.cons (T.e 0 Z) .nil)))))) ?_;intro ac T
 refine Zl2 ?_
 refine Zot M T Z Z (T.e 1 Z) (T.e 0 Z) Z .head Z Z ?_;clear M T;intro wc ac M T
 replace T:=T.pick [1] rfl
 refine Zln ?_
 refine wp_region_lit ?_
 refine lq T (Zro (Mem.nth M 0 Z) Z (T.e 0 Z) Z) ?_;intro ac T
 refine Zl2 ?_
 have Mq:Mem w (fun b=>b=kb) wc ([(kb,.cells [.slice none 0 0,.bool false])]++[(g1,.cells [Zi ((lows:Nat):Int)]),(g4,.cells [.func (.func 155) #[] #[Zj kb]]),(g2,.cells [Zi ((highs:Nat):Int)]),(g3,.cells [.func (.func 154) #[] #[Zj mb,Zj tb]]),(g5,.cells [.func (.func 203) #[] #[Zj g1,Zj g4,Zj g2,Zj g3,Zj g5]])]):=M.perm [5,4,1,3,2,0] rfl rfl
 have hi0:∀ b,inL [(kb,.cells [.slice none 0 0,.bool false])] b→inL ([(kb,.cells [.slice none 0 0,.bool false])]++[(g1,.cells [Zi ((lows:Nat):Int)]),(g4,.cells [.func (.func 155) #[] #[Zj kb]]),(g2,.cells [Zi ((highs:Nat):Int)]),(g3,.cells [.func (.func 154) #[] #[Zj mb,Zj tb]]),(g5,.cells [.func (.func 203) #[] #[Zj g1,Zj g4,Zj g2,Zj g3,Zj g5]])]) b:=fun b hb=>by unfold inL at hb ⊢;exact ((Zsl _ _).map _).subset hb
 have gx:GEnv (⟨g1,g4,g2,g3,g5,kb,mb,tb,fo,lows,highs,A,c,LL⟩:GE) wc (inL [(kb,.cells [.slice none 0 0,.bool false])]):=⟨Old.of Mq (fun _ h=>h) (Zne (i:=0) rfl),Old.of Mq (fun _ h=>h) (Zne (i:=1) rfl),Old.of Mq (fun _ h=>h) (Zne (i:=2) rfl),Old.of Mq (fun _ h=>h) (Zne (i:=3) rfl),Old.of Mq (fun _ h=>h) (Zne (i:=4) rfl),hmb.move Mq hi0,htb.move Mq hi0,(by obtain ⟨b9,o9,h9⟩:=hA;exact ⟨b9,o9,h9.move Mq hi0⟩),fun x hx=>(by obtain ⟨b9,o9,h9⟩:=hE x hx;exact ⟨b9,o9,h9.move Mq hi0⟩)⟩
 have My:Mem w (fun b=>b=kb) wc [(kb,.cells [.slice none 0 0,.bool false])]:=Mq.sub (Zsl _ _)
 refine Zoc (first:=[]) (cap:=[Zj g1,Zj g4,Zj g2,Zj g3,Zj g5]) T Z Z Z Z (T.e 0 Z) (.cons evc (.cons evc .nil)) func203 Z Z ?_
 refine Calls.mono (grow_any (⟨g1,g4,g2,g3,g5,kb,mb,tb,fo,lows,highs,A,c,LL⟩:GE) may hlo hhi (hmay _ _ _ _ _) lows wc _ [] none 0 0 0 none none 0 0 false [] [] Z (by simp) UsedOk.nil (KS.nil _) ⟨0,0,fun _ _=>Sp.nil⟩ gx My.rebase) ?_
 clear T;rintro e wc ⟨Au1,nu1,cu1,iu1,Iu1,rfl,hksu1,N⟩ ac T
 replace M:=Mem.joinX (X:=[(kb,.cells [.slice none 0 0,.bool false])]) (F:=[]) My N (fun b h=>h)
 clear N Mq My gx
 rw [Zx4] at M
 replace M:Mem w (fun b=>b=kb) wc ((kb,.cells [.slice Au1 nu1 cu1,.bool iu1])::Iu1):=M
 refine wpList_nil ?_
 replace T:=T.pick [] rfl
 refine nm_0 T Z ?_
 exact ⟨Au1,nu1,cu1,iu1,Iu1,Z,hksu1,M⟩
theorem lc_at {LL:List LE} {T:List (List Int)} (h:LL.map (·.1)=T) {i:Nat} (hi:i < T.length):∃ B d,LL[i]? = some (T.getD i [],B,d):=by
 subst h
 have hi':i < LL.length:=by simpa using hi
 refine ⟨LL[i].2.1,LL[i].2.2,?_⟩
 rw [List.getElem?_eq_getElem hi']
 congr 1
 have:(LL.map (·.1)).getD i []=LL[i].1:=by rw [List.getD_eq_getElem?_getD,List.getElem?_map,List.getElem?_eq_getElem hi'];rfl
 rw [this]
theorem tableP_len (b:Bx):(tableP b).length=b.lows.length∧∀ x∈tableP b,x.length=b.highs.length:=by
 refine ⟨by simp [tableP],fun x hx=>?_⟩
 obtain ⟨y,_,rfl⟩:=List.mem_map.1 hx
 exact rowP_length b y
def okA (v:Int):Bool:=decide (v=1)
theorem mayok_always {T:List (List Int)} {lows highs:Nat} {LL:List LE} (h:LL.map (·.1)=T) (hl:T.length=lows) (hh:∀ x∈T,x.length=highs) (lo me hi ma gr kb mb tb:Nat) (A:Option Addr) (c:Nat) :
   MayOk ⟨lo,me,hi,ma,gr,kb,mb,tb,82,lows,highs,A,c,LL⟩ (tabP T okA):=fun w i k g hi' hk'=>by
 have hi2:i < T.length:=by rw [hl];exact hi'
 obtain ⟨B,d,hx⟩:=lc_at h hi2
 have hxT:T.getD i []∈T:=by rw [List.getD_eq_getElem?_getD,List.getElem?_eq_getElem hi2];exact List.getElem_mem _
 have hk2:k < (T.getD i []).length:=by rw [hh _ hxT];exact hk'
 have hy:(T.getD i [])[k]? = some ((T.getD i []).getD k 0):=by rw [List.getD_eq_getElem?_getD (l:=T.getD i []),List.getElem?_eq_getElem hk2];rfl
 obtain ⟨b1,o1,S1⟩:=g.sp
 obtain ⟨b2,o2,S2⟩:=g.els _ (List.mem_of_getElem? hx)
 exact may_always mb tb A c LL i k (T.getD i []) B d ((T.getD i []).getD k 0) w g.mb.1 g.tb.1 (S1.rd (Mem.init w _) (List.Sublist.refl _)) hx (S2.rd (Mem.init w _) (List.Sublist.refl _)) hy
theorem most_always (b:Bx) (A:Option Addr) (c:Nat) (B:Option Addr) (d:Nat) (w:World) (hA:Rd w w.heap.size 4 A b.lows.length (sc b.lows)) (hB:Rd w w.heap.size 4 B b.highs.length (sc b.highs)) (gb:b.good) :
  Calls prog 81 #[bxV b A c B d,.func (.func 82) #[] #[]] w (MostPost (mostP (tableP b) okA b.lows.length b.highs.length) w):=by
 have hlA:=hA.len4
 have hlB:=hB.len4
 obtain ⟨bA,oA,SA⟩:=Sp.old hA
 obtain ⟨bB,oB,SB⟩:=Sp.old hB
 refine Zpx noEx func81 Z 20 Z [(bxV b A c B d),.func (.func 82) #[] #[]] Z Z (Mem.init w _) ?_
 intro ac wc T M
 refine Zsr ?_
 refine Zl2 ?_
 refine Zob M T Z Z Z Z (T.e 0 Z) Z ?_;clear M T;intro g1 wc ac M T
 refine Zl2 ?_
 refine Zob M T Z Z Z Z (T.e 2 Z) Z ?_;clear M T;intro g2 wc ac M T
 refine lq T (Zra Z evc) ?_;intro ac T
 replace T:=T.pick [1,2] rfl
 refine Zln ?_
 refine Zsr ?_
 refine lq T (Zrr (Mem.nth M 1 Z) Z (T.e 1 Z) Z) ?_;intro ac T
 refine Zl2 ?_
 refine Zod T Z Z Z Z evf (.cons (T.e 0 Z) .nil) func92 Z Z ?_
 refine Calls.mono (table_any b A c B d _ (SA.rd M (Zz9 _)) (SB.rd M (Zz9 _)) gb) ?_
 clear T;rintro e wc ⟨Au1,cu1,LLu1,Iu1,rfl,hLu1,hSu1,hEu1,N⟩ ac T
 replace M:=(M.join N).swapI
 replace M:Mem w noEx wc ((g2,.cells [.func (.func 82) #[] #[]])::(g1,.cells (Zbx b A c B d))::Iu1):=M
 clear N
 refine Zl2 ?_
 refine Zoa M T Z Z Z Z ?_;clear M T;intro g3 wc ac M T
 refine Zl2 ?_
 refine Zot M T Z Z (T.e 0 Z) (T.e 1 Z) Z .head Z Z ?_;clear M T;intro wc ac M T
 replace T:=T.pick [0,3,4] rfl
 refine Zln ?_
 refine Zsr ?_
 refine Zl2 ?_
 refine Zoa M T Z Z Z Z ?_;clear M T;intro g4 wc ac M T
 refine Zln ?_
 refine Zsr ?_
 refine Zg8 (v1:=(.pointer (some ⟨g1,5,none⟩))) (v4:=(.pointer (some ⟨g1,6,none⟩))) (v7:=(.func (.func 154) #[] #[Zj g2,Zj g3])) (v8:=(.func (.func 155) #[] #[Zj g4])) T (Zq (Zrg 5 Z (T.e 3 Z))) Z (Zo M 3 0 Z Z Z Z) Z (Zl underlying24 0 Z Z) Z (Zf 6 6 Z Z) Z (Zo M 3 0 Z Z Z Z) Z (Zl underlying24 0 Z Z) Z (fun _ T=>Zq (rn_makeFunc Z .nil (.cons (T.e 8 Z) (.cons (T.e 7 Z) .nil)))) Z (fun _ T=>Zq (rn_makeFunc Z .nil (.cons (T.e 7 Z) .nil))) Z ?_;intro ac T
 refine Zl2 ?_
 have Mq:Mem w noEx wc ([(g4,.cells [.slice none 0 0,.bool false])]++((g3,.cells [.slice Au1 LLu1.length cu1])::(g2,.cells [.func (.func 82) #[] #[]])::(g1,.cells (Zbx b A c B d))::Iu1)):=M.permT [0,1,2,3] 4 rfl rfl rfl rfl
 have hi0:∀ b,(fun b=>b=g4) b→inL [(g4,.cells [.slice none 0 0,.bool false])] b:=fun b hb=>by subst hb;exact Zz2
 refine Zod T Z Z Z Z evf (.cons (T.e 5 Z) (.cons (T.e 2 Z) (.cons (T.e 1 Z) (.cons (T.e 0 Z) .nil)))) func153 Z Z ?_
 refine Calls.mono (pairings_any b.lows.length b.highs.length g4 g2 g3 82 Au1 cu1 LLu1 (tabP (tableP b) okA) _ gb.lows.1 gb.highs.1 (fun _ _ _ _ _=>mayok_always hLu1 (tableP_len b).1 (tableP_len b).2 _ _ _ _ _ _ _ _ _ _) (Old.of Mq hi0 (Zne (i:=1) rfl)) (Old.of Mq hi0 (Zne (i:=0) rfl)) (by obtain ⟨b9,o9,h9⟩:=hSu1;exact ⟨b9,o9,Sp.of Mq hi0 (h9 w noEx) (.cons _ (.cons _ (.cons _ (List.Sublist.refl _))))⟩) (fun x hx=>by obtain ⟨b9,o9,h9⟩:=hEu1 x hx;exact ⟨b9,o9,Sp.of Mq hi0 (h9 w noEx) (.cons _ (.cons _ (.cons _ (List.Sublist.refl _))))⟩) (M.nth 0 rfl)) ?_
 clear T;rintro e wc ⟨Au2,nu2,cu2,iu2,Iu2,rfl,hksu2,N⟩ ac T
 replace M:=(Mem.joinX (X:=[(g4,.cells [.slice none 0 0,.bool false])]) (F:=((g3,.cells [.slice Au1 LLu1.length cu1])::(g2,.cells [.func (.func 82) #[] #[]])::(g1,.cells (Zbx b A c B d))::Iu1)) Mq N hi0).sub (Zsl _ _)
 clear N Mq
 replace M:Mem w noEx wc ((g4,.cells [.slice Au2 nu2 cu2,.bool iu2])::Iu2):=M
 replace T:=T.pick [9] rfl
 refine Zln ?_
 refine Zsr ?_
 refine Zg3 (v1:=(Zj g4)) T (Zq (Zrg 0 Z (T.e 0 Z))) Z (Zo M 0 0 Z Z Z Z) Z (Za 0 Z Z) Z ?_;intro ac T
 refine wpList_nil ?_
 replace T:=T.pick [0] rfl
 replace M:=M.mask [false] rfl
 refine Znr ?_
 refine rt_1 T Z (T.e 0 Z) ?_
 obtain ⟨hn1,hn2,hn3,hn4⟩:=hksu2
 subst hn1
 refine ⟨Au2,cu2,Iu2,Z,hn2,hn4,M⟩
def moreP (up:Int):List Int→Nat→Int
 | [],_=>up
 | v::r,h=>moreP (if v=1 then withI up h else up) r (h+1)
def shortP (T:List (List Int)) (n:Nat):Nat→List Int→Nat→Int→Option (List Int)
 | 0,l,_,up=>if sizeI up < l.length then some l else none
 | k+1,l,first,up=>(List.range' first (n - first)).findSome? fun (i:Nat)=>shortP T n k (l++[(i:Int)]) (i+1) (moreP up (T.getD i []) 0)
def sFrom (T:List (List Int)) (n k:Nat) (l:List Int) (up:Int) (i:Nat):Option (List Int):=(List.range' i (n - i)).findSome? fun (i:Nat)=>shortP T n k (l++[(i:Int)]) (i+1) (moreP up (T.getD i []) 0)
theorem shortP_succ (T:List (List Int)) (n k:Nat) (l:List Int) (first:Nat) (up:Int):shortP T n (k+1) l first up=sFrom T n k l up first:=rfl
theorem sFrom_some {T:List (List Int)} {n k:Nat} {l:List Int} {up:Int} {i:Nat} (hi:i < n) (h:(shortP T n k (l++[(i:Int)]) (i+1) (moreP up (T.getD i []) 0)).isSome=true):sFrom T n k l up i=shortP T n k (l++[(i:Int)]) (i+1) (moreP up (T.getD i []) 0):=by
 unfold sFrom
 obtain ⟨d,hd⟩:∃ d,n - i=d+1:=⟨n - i - 1,by omega⟩
 rw [hd,List.range'_succ,List.findSome?_cons]
 obtain ⟨q,hq⟩:=Option.isSome_iff_exists.1 h
 rw [hq]
theorem sFrom_none {T:List (List Int)} {n k:Nat} {l:List Int} {up:Int} {i:Nat} (hi:i < n) (h:(shortP T n k (l++[(i:Int)]) (i+1) (moreP up (T.getD i []) 0)).isSome=false):sFrom T n k l up i=sFrom T n k l up (i+1):=by
 unfold sFrom
 obtain ⟨d,hd⟩:∃ d,n - i=d+1:=⟨n - i - 1,by omega⟩
 rw [hd,List.range'_succ,List.findSome?_cons]
 have:shortP T n k (l++[(i:Int)]) (i+1) (moreP up (T.getD i []) 0)=none:=by simpa using h
 rw [this,show n - (i+1)=d by omega]
theorem sFrom_end {T:List (List Int)} {n k:Nat} {l:List Int} {up:Int} {i:Nat} (hi:n≤i):sFrom T n k l up i=none:=by
 unfold sFrom
 rw [show n - i=0 by omega]
 rfl
def sizeF (T:List (List Int)) (n s:Nat):Option (List Int):=(List.range' s (n+1 - s)).findSome? fun (s:Nat)=>if s=0 then none else shortP T n s [] 0 0
theorem sizeF_zero (T:List (List Int)) (n:Nat):sizeF T n 0=sizeF T n 1:=by
 unfold sizeF
 rw [show n+1 - 0=n+1 by omega,List.range'_succ,List.findSome?_cons]
 simp
theorem sizeF_some {T:List (List Int)} {n s:Nat} (hs:s≤n) (h0:0 < s) (h:(shortP T n s [] 0 0).isSome=true):sizeF T n s=shortP T n s [] 0 0:=by
 unfold sizeF
 obtain ⟨d,hd⟩:∃ d,n+1 - s=d+1:=⟨n - s,by omega⟩
 rw [hd,List.range'_succ,List.findSome?_cons,if_neg (by omega)]
 obtain ⟨q,hq⟩:=Option.isSome_iff_exists.1 h
 rw [hq]
theorem sizeF_none {T:List (List Int)} {n s:Nat} (hs:s≤n) (h0:0 < s) (h:(shortP T n s [] 0 0).isSome=false):sizeF T n s=sizeF T n (s+1):=by
 unfold sizeF
 obtain ⟨d,hd⟩:∃ d,n+1 - s=d+1:=⟨n - s,by omega⟩
 have:shortP T n s [] 0 0=none:=by simpa using h
 rw [hd,List.range'_succ,List.findSome?_cons,if_neg (by omega),this,show n+1 - (s+1)=d by omega]
theorem sizeF_end {T:List (List Int)} {n s:Nat} (hs:n < s):sizeF T n s=none:=by
 unfold sizeF
 rw [show n+1 - s=0 by omega]
 rfl
def FS (res:Option (List Int)) (A:Option Addr) (n c:Nat) (I:List (Nat×BA)):Prop :=
 (res=none∧A=none∧n=0∧c=0∧I=[])∨∃ l,res=some l∧n=l.length∧n≤5∧A.isSome=true∧∃ b o,∀ (w:World) (ex:Nat→Prop),Sp w ex I A n 1 b o (ic l)
theorem FS.none {res:Option (List Int)} {A:Option Addr} {n c:Nat} {I:List (Nat×BA)} (h:FS res A n c I) (h0:res.isSome=false):A=.none∧n=0∧c=0∧I=[]:=by
 rcases h with ⟨_,h⟩ | ⟨l,rfl,_⟩
 · exact h
 · cases h0
theorem FS.len {res:Option (List Int)} {A:Option Addr} {n c:Nat} {I:List (Nat×BA)} (h:FS res A n c I):n=(res.getD []).length∧n≤5:=by
 rcases h with ⟨rfl,_,rfl,_⟩ | ⟨l,rfl,h1,h2,_⟩
 · exact ⟨rfl,by omega⟩
 · exact ⟨h1,h2⟩
theorem FS.sp {res:Option (List Int)} {A:Option Addr} {n c:Nat} {I:List (Nat×BA)} (h:FS res A n c I):∃ b o,∀ (w:World) (ex:Nat→Prop),Sp w ex I A n 1 b o (ic (res.getD [])):=by
 rcases h with ⟨rfl,_,rfl,_⟩ | ⟨l,rfl,_,_,_,h⟩
 · exact ⟨0,0,fun _ _=>⟨fun h=>absurd h (by omega),by simp [ic],fun _ _ _ _ h=>absurd h (by omega),fun _ _ _ _ j u hu=>by simp [ic] at hu⟩⟩
 · exact h
structure SE where
 fo:Nat
 bb:Nat
 tb:Nat
 gr:Nat
 b:Bx
 A0:Option Addr
 c0:Nat
 B0:Option Addr
 d0:Nat
 A:Option Addr
 c:Nat
 LL:List LE
abbrev bxC (b:Bx) (A:Option Addr) (c:Nat) (B:Option Addr) (d:Nat):List Value:=[.int .i64 b.first,.int .i64 b.step,.int .i64 b.span,.int .i64 b.press,.int .i64 b.note,.slice A b.lows.length c,.slice B b.highs.length d,.int .i64 b.t0,.int .i64 b.t1,.int .i64 b.r0,.int .i64 b.r1,.int .i64 b.u0,.int .i64 b.u1,.int .i64 b.d0,.int .i64 b.d1,.int .i64 b.a0,.int .i64 b.a1,.int .i64 b.b0,.int .i64 b.b1,.int .i64 b.le,.int .i64 b.me]
structure SEnv (e:SE) (w:World) (ex:Nat→Prop):Prop where
 bb:Old w ex e.bb (bxC e.b e.A0 e.c0 e.B0 e.d0)
 tb:Old w ex e.tb [.slice e.A e.LL.length e.c]
 gr:Old w ex e.gr [.func (.func 93) #[] #[pV e.fo,pV e.bb,pV e.tb,pV e.gr]]
 sp:∃ b o,Sp w ex [] e.A e.LL.length 1 b o (lc e.LL)
 els:∀ x∈e.LL,∃ b o,Sp w ex [] x.2.1 x.1.length 1 b o (ic x.1)
theorem SEnv.move {e:SE} {w0 w:World} {ex ex':Nat→Prop} {L:List (Nat×BA)} (M:Mem w0 ex w L) (hx:∀ b,ex' b→inL L b) (h:SEnv e w0 ex):SEnv e w ex' :=
 ⟨h.bb.move M hx,h.tb.move M hx,h.gr.move M hx,(by obtain ⟨b,o,h1⟩:=h.sp;exact ⟨b,o,h1.move M hx⟩),fun x hx'=>(by obtain ⟨b,o,h1⟩:=h.els x hx';exact ⟨b,o,h1.move M hx⟩)⟩
def FoundPost (fo:Nat) (res:Option (List Int)) (w:World) (ex:Nat→Prop) (e:Ending) (w':World):Prop :=
 ∃ A n c I,e=.returned (.bool res.isSome)∧FS res A n c I∧Mem w ex w' ((fo,.cells [.slice A n c])::I)
def ShortSpec (e:SE) (T:List (List Int)) (k:Nat):Prop :=
 ∀ (w:World) (exq:Nat→Prop) (l:List Int) (A:Option Addr) (m c:Nat) (fi lf:Int) (first:Nat) (up:Int) (Il:List (Nat×BA)),
  m=l.length→l.length+k≤5→fi=(first:Nat)→lf=(k:Nat)→first≤5→0≤up∧up < 32→(∃ b o,∀ (w:World) (ex:Nat→Prop),Sp w ex Il A m 1 b o (ic l))→SEnv e w exq→Mem w exq w ((e.fo,.cells [.slice none 0 0])::Il) →
  Calls prog 93 #[.slice A m c,.int .i64 fi,.int .i64 lf,.int .i64 up,pV e.fo,pV e.bb,pV e.tb,pV e.gr] w (FoundPost e.fo (shortP T e.b.lows.length k l first up) w exq)
theorem neqS31 {x:Operand} (A:Option Addr) (m c:Nat) (w:World):(do eqGuard .neq 31 x (.const (.slice none 0 0)) (.slice A m c) (.slice none 0 0);binOp .neq 31 (.slice A m c) (.slice none 0 0):Sem Value).run prog w=.ok (.bool A.isSome) w:=by
 cases A <;> go_simp
theorem found_step (se:SE) (Tb:List (List Int)) (k:Nat) (exq:Nat→Prop) (l:List Int) (A:Option Addr) (c:Nat) (lf:Int) (first:Nat) (up:Int) (Il:List (Nat×BA)) (w:World) (hLL:se.LL.map (·.1)=Tb) (hT1:Tb.length=se.b.lows.length) (hT2:∀ x∈Tb,x.length≤5) (hlo:se.b.lows.length≤4) (ih:∀ k',k=k'+1→ShortSpec se Tb k') (hlk:l.length+k≤5) (hlf:lf=(k:Nat)) (hf5:first≤5) (hup:0≤up∧up < 32) (hl:∃ b o,∀ (w:World) (ex:Nat→Prop),Sp w ex Il A l.length 1 b o (ic l)) (senv:SEnv se w exq) (M0:Mem w exq w ((se.fo,.cells [.slice none 0 0])::Il)) :
   Calls prog 93 #[.slice A l.length c,Zi (first:Int),Zi lf,Zi up,.pointer (some ⟨se.fo,0,none⟩),.pointer (some ⟨se.bb,0,none⟩),.pointer (some ⟨se.tb,0,none⟩),.pointer (some ⟨se.gr,0,none⟩)] w (FoundPost se.fo (shortP Tb se.b.lows.length k l first up) w exq):=by
 have hls:=hl
 obtain ⟨bl,ol,hSl⟩:=hls
 have Sl0:=hSl w exq
 obtain ⟨bt,ot,St⟩:=senv.sp
 refine Zpx exq func93 Z 65 Z [.slice A l.length c,Zi (first:Int),Zi lf,Zi up,.pointer (some ⟨se.fo,0,none⟩),.pointer (some ⟨se.bb,0,none⟩),.pointer (some ⟨se.tb,0,none⟩),.pointer (some ⟨se.gr,0,none⟩)] Z Z M0 ?_
 intro ac wc T M
 refine Zsr ?_
 refine lq T (Zra Z evc) ?_;intro ac T
 replace T:=T.pick [1,2,3,4,5,6,7,8] rfl
 refine Zln ?_
 refine wp_seq ?_
 refine Zsr ?_
 refine Zg2 T (Zq (Zrm Z (T.e 2 Z))) Z (fun _ T=>Zq (rn_eql Z (T.e 0 Z) evc)) Z ?_;intro ac T
 replace T:=T.pick [0,2,3,4,5,6,7,8,9] rfl
 refine Zln ?_
 refine wp_if (T.e 0 Z) ?_ ?_
 ·intro h1
  obtain rfl:k=0:=by omega
  refine wp_seq ?_
  refine Zsr ?_
  refine lq T (Zrm Z (T.e 4 Z)) ?_;intro ac T
  refine Zl2 ?_
  refine Zod T Z Z Z Z evf (.cons (T.e 0 Z) .nil) func94 Z Z ?_
  refine Calls.mono (size_any up _ (by omega)) ?_
  clear T;rintro e wc ⟨rfl,hb⟩ ac T
  replace M:=M.call hb;clear hb
  refine Zg3 T (Zq (Zrm Z (T.e 3 Z))) Z (Zl underlying31 0 Z Z) Z (fun _ T=>Zq (rn_lss Z (T.e 2 Z) (T.e 0 Z))) Z ?_;intro ac T
  replace T:=T.pick [0,6,10] rfl
  refine Zln ?_
  refine wp_if (T.e 0 Z) ?_ ?_
  ·intro h2
   refine wp_region_lit ?_
   refine lq T (Zrm Z (T.e 1 Z)) ?_;intro ac T
   refine Zl2 ?_
   refine Zot M T Z Z (T.e 3 Z) (T.e 0 Z) Z .head Z Z ?_;clear M T;intro wc ac M T
   replace T:=T.pick [3] rfl
   refine Zln ?_
   refine Zsr ?_
   refine Zg3 (v2:=(.bool A.isSome)) T (Zq (Zro (Mem.nth M 0 Z) Z (T.e 0 Z) Z)) Z (fun _ T=>Zq (rn_bin Z (T.e 0 Z) evc (neqS31 _ _ _ _))) Z (Za 0 Z Z) Z ?_;intro ac T
   replace T:=T.pick [0] rfl
   refine Zln ?_
   refine wp_ret ?_
   refine Zrt ?_
   refine rt_1 T Z (T.e 0 Z) ?_
   have hAs:A.isSome=true:=by rw [Sl0.at0 (by omega)];rfl
   have hsh:shortP Tb se.b.lows.length 0 l first up=some l:=by simp only [shortP];rw [if_pos (by omega)]
   exact ⟨A,l.length,c,Il,by rw [hsh,hAs];rfl,.inr ⟨l,hsh,Z,by omega,hAs,hl⟩,M⟩
  intro h2
  refine Zsk ?_
  refine Zsr ?_
  refine Zg3 (v2:=(.bool false)) T (Zq (Zro (Mem.nth M 0 Z) Z (T.e 2 Z) Z)) Z (fun _ T=>Zq (rn_bin Z (T.e 0 Z) evc (by kernel_rfl))) Z (Za 0 Z Z) Z ?_;intro ac T
  replace T:=T.pick [0] rfl
  refine Zln ?_
  refine wp_ret ?_
  refine Zrt ?_
  refine rt_1 T Z (T.e 0 Z) ?_
  exact ⟨none,0,0,[],by simp only [shortP];rw [if_neg (by omega)];rfl,.inl ⟨by simp only [shortP];rw [if_neg (by omega)],Z,Z,Z,Z⟩,M.sub (.cons_cons _ (Zz9 _))⟩
 intro h1
 obtain ⟨k1,rfl⟩:∃ k',k=k'+1:=⟨k - 1,by omega⟩
 have ih1:=ih k1 rfl
 refine Zsk ?_
 refine wp_seq ?_
 refine Zsr ?_
 refine Zg2 T (Zq (Zrm Z (T.e 2 Z))) Z (Za 0 Z Z) Z ?_;intro ac T
 replace T:=T.pick [0,3,5,6,8,9,10] rfl
 refine Zln ?_
 refine wp_block ?_
 refine wp_loop_n (fun mz ac wc=>∃ (i:Nat),mz=5 - i∧(first≤i)∧(i≤5)∧(shortP Tb se.b.lows.length (k1+1) l first up=sFrom Tb se.b.lows.length k1 l up i)∧Tm ac 65 [(0,.slice A l.length c),(2,Zi lf),(3,Zi up),(5,.pointer (some ⟨se.bb,0,none⟩)),(6,.pointer (some ⟨se.tb,0,none⟩)),(7,.pointer (some ⟨se.gr,0,none⟩)),(13,Zi (i:Int))]∧Mem w exq wc ((se.fo,.cells [.slice none 0 0])::Il)) ?_ ?_
 ·exact ⟨_,first,Z,(Nat.le_refl _),hf5,(shortP_succ _ _ _ _ _ _),T.pick [1,2,3,4,5,6,0] Z,M.mask [true] Z⟩
 clear T M
 rintro mz ac wc ⟨i,hmm1,hi,hi5,H,T,M⟩
 refine wp_seq ?_
 refine Zsr ?_
 refine Zg5 (v2:=(.pointer (some ⟨se.bb,5,none⟩))) T (Zq (Zrm Z (T.e 6 Z))) Z (Zf 5 4 Z Z) Z (fun _ T=>Zq (Zro (Mem.old M senv.bb.1 senv.bb.2) Z (T.e 0 Z) Z)) Z (Zl underlying24 0 Z Z) Z (fun _ T=>Zq (rn_lss Z (T.e 3 Z) (T.e 0 Z))) Z ?_;intro ac T
 replace T:=T.pick [0,5,6,7,8,9,10,11] rfl
 refine Zln ?_
 refine wp_if (T.e 0 Z) ?_ ?_
 ·intro h3
  have hiT:i < Tb.length:=by omega
  obtain ⟨Br,dr,hkx⟩:=lc_at hLL hiT
  have hrow:(Tb.getD i []).length≤5:=by rw [List.getD_eq_getElem?_getD,List.getElem?_eq_getElem hiT];exact hT2 _ (List.getElem_mem _)
  obtain ⟨br,orr,Sr⟩:=senv.els _ (List.mem_of_getElem? hkx)
  obtain ⟨xr,hxr⟩:∃ q,q=Tb.getD i []:=⟨_,rfl⟩
  rw [← hxr] at hkx hrow Sr
  have hir:=(List.getElem?_eq_some_iff.1 hkx).1
  dsimp only at Sr
  refine Zsk ?_
  refine wp_seq ?_
  refine wp_block ?_
  refine Zsr ?_
  refine Zg2 T (Zq (Zrm Z (T.e 3 Z))) Z (Za 0 Z Z) Z ?_;intro ac T
  replace T:=T.pick [0,3,4,5,6,7,8,9] rfl
  refine Zln ?_
  refine wp_seq ?_
  refine Zsr ?_
  refine Zg6 (v4:=(.slice Br xr.length dr)) T (Zq (Zro (Mem.old M senv.tb.1 senv.tb.2) Z (T.e 5 Z) Z)) Z (Zm 8 Z Z) Z (fun _ T=>Zq (Zri (size:=1) i Z (T.e 1 Z) (T.e 0 Z) ⟨_,underlying159,by kernel_rfl⟩ Z (by omega) (St.at0 (by omega)))) Z (fun _ T=>Zq (rn_cell (Sp.lc0 St M (Zz9 _) hkx) Z (T.e 0 Z))) Z (Zl underlying31 0 Z Z) Z (fun _ T=>Zq (Zrm Z evc)) Z ?_;intro ac T
  replace T:=T.pick [0,1,2,6,7,8,9,10,11,12,13] rfl
  refine Zln ?_
  refine wp_block ?_
  refine wp_loop_n (fun mz ac wc=>∃ (h:Nat) (mo:Int),mz=xr.length - h∧(h≤xr.length)∧(0≤mo∧mo < 32)∧(moreP up xr 0=moreP mo (xr.drop h) h)∧Tm ac 65 [(0,.slice A l.length c),(2,Zi lf),(3,Zi up),(5,.pointer (some ⟨se.bb,0,none⟩)),(6,.pointer (some ⟨se.tb,0,none⟩)),(7,.pointer (some ⟨se.gr,0,none⟩)),(13,Zi (i:Int)),(14,Zi mo),(39,.slice Br xr.length dr),(40,Zi ((xr.length:Nat):Int)),(41,Zi (h:Int))]∧Mem w exq wc ((se.fo,.cells [.slice none 0 0])::Il)) ?_ ?_
  ·exact ⟨_,0,up,Z,(Nat.zero_le _),hup,Z,T.pick [4,5,6,7,8,9,10,3,2,1,0] Z,M.mask [true] Z⟩
  clear T M
  rintro mz ac wc ⟨h,mo,hmm2,hh,hmo,Hm,T,M⟩
  refine Zsr ?_
  refine lq T (rn_lss Z (T.e 10 Z) (T.e 9 Z)) ?_;intro ac T
  refine Zln ?_
  refine wp_seq ?_
  refine wp_if (T.e 0 Z) ?_ ?_
  ·intro h4
   obtain ⟨yv,hky,hdy⟩:=ic_next (l:=xr) (k:=h) (by omega)
   rw [hdy,moreP] at Hm
   refine Zsk ?_
   refine wp_seq ?_
   refine wp_block ?_
   refine Zsr ?_
   refine Zg5 T (Zq (Zrm Z (T.e 11 Z))) Z (fun _ T=>Zq (Zri (size:=1) h Z (T.e 10 Z) (T.e 12 Z) ⟨_,underlying31,by kernel_rfl⟩ Z (by omega) (Sr.at0 (by omega)))) Z (fun _ T=>Zq (rn_cell (Sp.ic0 Sr M (Zz9 _) hky) Z (T.e 0 Z))) Z (Za 2 Z Z) Z (Za 1 Z Z) Z ?_;intro ac T
   replace T:=T.pick [0,1,6,7,8,9,10,11,12,13,14,15,16] rfl
   refine Zln ?_
   refine Zsr ?_
   refine Zg2 T (Zq (Zrm Z (T.e 0 Z))) Z (fun _ T=>Zq (rn_eql Z (T.e 0 Z) evc)) Z ?_;intro ac T
   replace T:=T.pick [0,3,4,5,6,7,8,9,10,11,12,13,14] rfl
   refine Zln ?_
   refine wp_if (T.e 0 Z) ?_ ?_
   ·intro h5
    refine wp_region_lit ?_
    refine Zg2 T (Zq (Zrm Z (T.e 9 Z))) Z (Zm 2 Z Z) Z ?_;intro ac T
    refine Zl2 ?_
    refine Zod T Z Z Z Z evf (.cons (T.e 1 Z) (.cons (T.e 0 Z) .nil)) func95 Z Z ?_
    refine Calls.mono (with_any mo (h:Int) _ (by omega)) ?_
    clear T;rintro e wc ⟨rfl,hb⟩ ac T
    replace M:=M.call hb;clear hb
    refine l_q (v:=(Zi (withI mo (h:Int)))) (T.pick [0,1,2,3,4,5,6,7,8,9,10,11,13,14,15] Z) Z Z Z Z (Zra Z (T.e 0 Z)) ?_;intro ac T
    refine wpList_nil ?_
    replace T:=T.pick [0,6,7,8,9,10,11,12,13,14,15] rfl
    refine Znb ?_
    refine nm_then ?_
    refine wp_region_lit ?_
    refine lq T (rn_add Z (T.e 10 Z) evc (by omega)) ?_;intro ac T
    refine l_q (v:=(Zi ((h:Int)+1))) (T.pick [0,1,2,3,4,5,6,7,8,9,10] Z) Z Z Z Z (Zrm Z (T.e 0 Z)) ?_;intro ac T
    replace T:=T.pick [0,2,3,4,5,6,7,8,9,10,11] rfl
    refine Zln ?_
    exact ⟨_,by omega,h+1,(withI mo (h:Int)),Z,(by omega),(by first | exact hmo | exact with_bd hmo (by omega)),(by simpa only [if_pos h5] using Hm),T.pick [2,3,4,5,6,7,8,1,9,10,0] Z,M.mask [true] Z⟩
   intro h5
   refine wp_skip ?_
   refine Znb ?_
   refine nm_then ?_
   refine wp_region_lit ?_
   refine lq T (rn_add Z (T.e 12 Z) evc (by omega)) ?_;intro ac T
   refine l_q (v:=(Zi ((h:Int)+1))) (T.pick [0,1,2,3,4,5,6,7,8,9,10,11,12] Z) Z Z Z Z (Zrm Z (T.e 0 Z)) ?_;intro ac T
   replace T:=T.pick [0,4,5,6,7,8,9,10,11,12,13] rfl
   refine Zln ?_
   exact ⟨_,by omega,h+1,mo,Z,(by omega),(by first | exact hmo | exact with_bd hmo (by omega)),(by simpa only [if_neg h5] using Hm),T.pick [1,2,3,4,5,6,7,8,9,10,0] Z,M.mask [true] Z⟩
  intro h4
  rw [List.drop_of_length_le (by omega),moreP] at Hm
  refine wp_exit ?_
  refine Zet ?_
  refine Zet ?_
  refine ex_hit ?_
  refine Zns ?_
  refine Zgs M (M.perm [] Z Z) 13 (by kernel_rfl) Z (by kernel_rfl) ?_
  clear M;intro wc M
  refine gq T 0 1 Z (fun B w' hD hl hS=>(Zro (Mem.old (show Mem w exq w' _ from hS) senv.gr.1 senv.gr.2) Z (T.e 6 Z) Z)) ?_;intro ac T
  refine Zgq T 2 5 Z (fun _=>(Zrm Z (T.e 2 Z))) ?_;intro ac T
  refine Zgq T 4 21 Z (fun _=>(Zrm Z (T.e 9 Z))) ?_;intro ac T
  refine Zgq T 7 149 Z (fun _=>(Zrm Z (T.e 10 Z))) ?_;intro ac T
  refine Zgq T 8 405 Z (fun _=>(rn_add Z (T.e 0 Z) evc (by omega))) ?_;intro ac T
  refine Zgq T 9 917 Z (fun _=>(Zrm Z (T.e 7 Z))) ?_;intro ac T
  refine Zgq T 10 1941 Z (fun _=>(rn_sub Z (T.e 0 Z) evc (by omega))) ?_;intro ac T
  refine Zgq T 11 3989 Z (fun _=>(Zrm Z (T.e 15 Z))) ?_;intro ac T
  refine g_m2 (i:=1) (j:=5) (by kernel_rfl) ?_ ?_
  ·refine gi 3991 ?_;intro K hK
   refine ow_bs0 (e:=3) M T Z Z Z Z (fun _=>by kernel_rfl) ?_;clear M T;intro gr15_1 wc ac M T
   refine Zso hK _ _ (M.perm [] Z Z) ?_;clear hK K
   refine g_m2 (i:=3) (j:=5) (by kernel_rfl) ?_ ?_
   ·refine gi 3999 ?_;intro K hK
    refine ow_appS Tryz.info3 M T Z Z Z Z (fun g w=>Tryz.append0i _ _ g _ w) underlying31 Z Z Z (by omega) (T.e 0 Z) (T.e 7 Z) (Sl0.rd M (.cons _ (.cons _ (List.Sublist.refl _)))) (ic_one _) ?_;clear M T;intro Au15_3 cu15_3 Iu15_3 wc ac hSm15_3 M T
    replace M:Mem w exq wc ((se.fo,.cells [.slice none 0 0])::(Il++Iu15_3)):=M.swapI
    refine Zso hK _ _ (M.perm [] Z Z) ?_;clear hK K
    refine gw 5 4031 ?_;intro K hK
    refine ow_bs (e:=3) [Zi (i:Int)] M T Z Z Z Z (.cons (T.e 7 Z) .nil) (fun _=>by kernel_rfl) ?_;clear M T;intro gr15_5 wc ac M T
    refine Zso hK _ _ (M.perm [] Z Z) ?_;clear hK K
    refine gw 6 4095 ?_;intro K hK
    refine ow_appM (((gr15_5,.cells [Zi (i:Int)])::(se.fo,.cells [.slice none 0 0])::Il)) Tryz.info3 hSm15_3 M (by first | rfl | simp) T Z Z Z Z underlying31 Z Z Z (by omega) (T.e 1 Z) (T.e 0 Z) (Zne (i:=0) Z) Z Z ?_;clear M T;intro ga15_6 ca15_6 wc ac M T
    refine Zso hK _ _ (M.perm [] Z Z) ?_;clear hK K
    refine gw 12 8191 ?_;intro K hK
    have Mq:Mem w exq wc ((se.fo,.cells [.slice none 0 0])::(ga15_6,.row 3 1 (l.length+1) (ic l++[Zi (i:Int)]) ca15_6)::Il):=M.permT [2,0] 3 rfl rfl rfl rfl
    have My:Mem w exq wc [(se.fo,.cells [.slice none 0 0]),(ga15_6,.row 3 1 (l.length+1) (ic l++[Zi (i:Int)]) ca15_6)]:=Mq.sub (List.Sublist.cons_cons _ (.cons_cons _ (Zz9 _)))
    have gx:=senv.move (ex':=inL [(se.fo,.cells [.slice none 0 0]),(ga15_6,.row 3 1 (l.length+1) (ic l++[Zi (i:Int)]) ca15_6)]) Mq (fun b hb=>by unfold inL at hb ⊢;exact ((List.Sublist.cons_cons _ (.cons_cons _ (Zz9 Il))).map _).subset hb)
    refine Zoc (first:=[]) (cap:=[.pointer (some ⟨se.fo,0,none⟩),.pointer (some ⟨se.bb,0,none⟩),.pointer (some ⟨se.tb,0,none⟩),.pointer (some ⟨se.gr,0,none⟩)]) T Z Z Z Z (T.e 11 Z) (.cons (T.e 0 Z) (.cons (T.e 7 Z) (.cons (T.e 5 Z) (.cons (T.e 4 Z) .nil)))) func93 Z Z ?_
    refine Calls.mono (ih1 wc _ (l++[(i:Int)]) _ _ _ _ _ (i+1) _ [(ga15_6,.row 3 1 (l.length+1) (ic l++[Zi (i:Int)]) ca15_6)] (by simp) (by simp only [Zx3,Zx1,Zx2];omega) (by omega) (by omega) (by omega) hmo ⟨_,_,fun w ex=>by rw [← ic_snoc];exact Sp.row (by simp [ic_length])⟩ gx My.rebase) ?_
    clear T;rintro e wc ⟨Aur15_12,nur15_12,cur15_12,Iur15_12,rfl,hfsur15_12,N⟩ ac T
    replace M:=Mem.joinX (X:=[(se.fo,.cells [.slice none 0 0]),(ga15_6,.row 3 1 (l.length+1) (ic l++[Zi (i:Int)]) ca15_6)]) (F:=Il) Mq N (fun b h=>h)
    clear N Mq My gx
    replace M:Mem w exq wc ((se.fo,.cells [.slice Aur15_12 nur15_12 cur15_12])::(Iur15_12++Il)):=M
    refine Zso hK _ _ (M.perm [] Z Z) ?_;clear hK K
    refine Zgd (by kernel_rfl) ?_
    replace T:=T.pick [0,14,15,16,17,18,19,20] rfl
    refine nm_then ?_
    refine wp_cond_split (T.e 0 Z) ?_ ?_
    ·intro h6
     refine Zsr ?_
     refine lq T (Zra Z evc) ?_;intro ac T
     replace T:=T.pick [0] rfl
     refine Zln ?_
     refine wp_ret ?_
     refine Zrb ?_
     refine Zrt ?_
     refine Zrt ?_
     refine Zrb ?_
     refine Zrt ?_
     refine rt_1 T Z (T.e 0 Z) ?_
     have hsf:=H.trans (sFrom_some (by omega) (by rw [← hxr,Hm];exact h6))
     rw [← hxr,Hm] at hsf
     rw [hsf]
     exact ⟨Aur15_12,nur15_12,cur15_12,Iur15_12,by rw [h6],hfsur15_12,M.sub (.cons_cons _ (Zsl _ _))⟩
    intro h6
    refine wp_skip ?_
    refine Znb ?_
    refine nm_then ?_
    refine wp_region_lit ?_
    refine Zg2 T (Zq (Zrm Z (T.e 7 Z))) Z (fun _ T=>Zq (rn_add Z (T.e 0 Z) evc (by omega))) Z ?_;intro ac T
    refine l_q (v:=(Zi ((i:Int)+1))) (T.pick [0,1,2,3,4,5,6,7,8] Z) Z Z Z Z (Zra Z (T.e 0 Z)) ?_;intro ac T
    replace T:=T.pick [0,4,5,6,7,8,9] rfl
    refine Zln ?_
    have hno:=hfsur15_12.none h6
    obtain ⟨rfl,rfl,rfl,rfl⟩:=hno
    replace M:Mem w exq wc ((se.fo,.cells [.slice none 0 0])::Il):=M
    exact ⟨_,by omega,i+1,Z,(by omega),(by omega),(by rw [H];exact sFrom_none (by omega) (by rw [← hxr,Hm];exact h6)),T.pick [1,2,3,4,5,6,0] Z,M⟩
   refine gi 4023 ?_;intro K hK
   refine ow_bs (e:=3) [Zi (i:Int)] M T Z Z Z Z (.cons (T.e 6 Z) .nil) (fun _=>by kernel_rfl) ?_;clear M T;intro gr15_5 wc ac M T
   refine Zso hK _ _ (M.perm [] Z Z) ?_;clear hK K
   refine gw 3 4031 ?_;intro K hK
   replace M:=M.permT [1,0,2] 3 rfl rfl rfl rfl
   refine ow_appS Tryz.info3 M T Z Z Z Z (fun g w=>Tryz.append0i _ _ g _ w) underlying31 Z Z Z (by omega) (T.e 1 Z) (T.e 8 Z) (Sl0.rd M (.cons _ (.cons _ (.cons _ (List.Sublist.refl _))))) (ic_one _) ?_;clear M T;intro Au15_3 cu15_3 Iu15_3 wc ac hSm15_3 M T
   replace M:Mem w exq wc ((gr15_5,.cells [Zi (i:Int)])::(se.fo,.cells [.slice none 0 0])::(Il++Iu15_3)):=M.swapI
   refine Zso hK _ _ (M.perm [] Z Z) ?_;clear hK K
   refine gw 6 4095 ?_;intro K hK
   refine ow_appM (((gr15_5,.cells [Zi (i:Int)])::(se.fo,.cells [.slice none 0 0])::Il)) Tryz.info3 hSm15_3 M (by first | rfl | simp) T Z Z Z Z underlying31 Z Z Z (by omega) (T.e 0 Z) (T.e 1 Z) (Zne (i:=0) Z) Z Z ?_;clear M T;intro ga15_6 ca15_6 wc ac M T
   refine Zso hK _ _ (M.perm [] Z Z) ?_;clear hK K
   refine gw 12 8191 ?_;intro K hK
   have Mq:Mem w exq wc ((se.fo,.cells [.slice none 0 0])::(ga15_6,.row 3 1 (l.length+1) (ic l++[Zi (i:Int)]) ca15_6)::Il):=M.permT [2,0] 3 rfl rfl rfl rfl
   have My:Mem w exq wc [(se.fo,.cells [.slice none 0 0]),(ga15_6,.row 3 1 (l.length+1) (ic l++[Zi (i:Int)]) ca15_6)]:=Mq.sub (List.Sublist.cons_cons _ (.cons_cons _ (Zz9 _)))
   have gx:=senv.move (ex':=inL [(se.fo,.cells [.slice none 0 0]),(ga15_6,.row 3 1 (l.length+1) (ic l++[Zi (i:Int)]) ca15_6)]) Mq (fun b hb=>by unfold inL at hb ⊢;exact ((List.Sublist.cons_cons _ (.cons_cons _ (Zz9 Il))).map _).subset hb)
   refine Zoc (first:=[]) (cap:=[.pointer (some ⟨se.fo,0,none⟩),.pointer (some ⟨se.bb,0,none⟩),.pointer (some ⟨se.tb,0,none⟩),.pointer (some ⟨se.gr,0,none⟩)]) T Z Z Z Z (T.e 11 Z) (.cons (T.e 0 Z) (.cons (T.e 7 Z) (.cons (T.e 5 Z) (.cons (T.e 4 Z) .nil)))) func93 Z Z ?_
   refine Calls.mono (ih1 wc _ (l++[(i:Int)]) _ _ _ _ _ (i+1) _ [(ga15_6,.row 3 1 (l.length+1) (ic l++[Zi (i:Int)]) ca15_6)] (by simp) (by simp only [Zx3,Zx1,Zx2];omega) (by omega) (by omega) (by omega) hmo ⟨_,_,fun w ex=>by rw [← ic_snoc];exact Sp.row (by simp [ic_length])⟩ gx My.rebase) ?_
   clear T;rintro e wc ⟨Aur15_12,nur15_12,cur15_12,Iur15_12,rfl,hfsur15_12,N⟩ ac T
   replace M:=Mem.joinX (X:=[(se.fo,.cells [.slice none 0 0]),(ga15_6,.row 3 1 (l.length+1) (ic l++[Zi (i:Int)]) ca15_6)]) (F:=Il) Mq N (fun b h=>h)
   clear N Mq My gx
   replace M:Mem w exq wc ((se.fo,.cells [.slice Aur15_12 nur15_12 cur15_12])::(Iur15_12++Il)):=M
   refine Zso hK _ _ (M.perm [] Z Z) ?_;clear hK K
   refine Zgd (by kernel_rfl) ?_
   replace T:=T.pick [0,14,15,16,17,18,19,20] rfl
   refine nm_then ?_
   refine wp_cond_split (T.e 0 Z) ?_ ?_
   ·intro h7
    refine Zsr ?_
    refine lq T (Zra Z evc) ?_;intro ac T
    replace T:=T.pick [0] rfl
    refine Zln ?_
    refine wp_ret ?_
    refine Zrb ?_
    refine Zrt ?_
    refine Zrt ?_
    refine Zrb ?_
    refine Zrt ?_
    refine rt_1 T Z (T.e 0 Z) ?_
    have hsf:=H.trans (sFrom_some (by omega) (by rw [← hxr,Hm];exact h7))
    rw [← hxr,Hm] at hsf
    rw [hsf]
    exact ⟨Aur15_12,nur15_12,cur15_12,Iur15_12,by rw [h7],hfsur15_12,M.sub (.cons_cons _ (Zsl _ _))⟩
   intro h7
   refine wp_skip ?_
   refine Znb ?_
   refine nm_then ?_
   refine wp_region_lit ?_
   refine Zg2 T (Zq (Zrm Z (T.e 7 Z))) Z (fun _ T=>Zq (rn_add Z (T.e 0 Z) evc (by omega))) Z ?_;intro ac T
   refine l_q (v:=(Zi ((i:Int)+1))) (T.pick [0,1,2,3,4,5,6,7,8] Z) Z Z Z Z (Zra Z (T.e 0 Z)) ?_;intro ac T
   replace T:=T.pick [0,4,5,6,7,8,9] rfl
   refine Zln ?_
   have hno:=hfsur15_12.none h7
   obtain ⟨rfl,rfl,rfl,rfl⟩:=hno
   replace M:Mem w exq wc ((se.fo,.cells [.slice none 0 0])::Il):=M
   exact ⟨_,by omega,i+1,Z,(by omega),(by omega),(by rw [H];exact sFrom_none (by omega) (by rw [← hxr,Hm];exact h7)),T.pick [1,2,3,4,5,6,0] Z,M⟩
  refine gi 4021 ?_;intro K hK
  refine ow_bs (e:=3) [Zi (i:Int)] M T Z Z Z Z (.cons (T.e 5 Z) .nil) (fun _=>by kernel_rfl) ?_;clear M T;intro gr15_5 wc ac M T
  refine Zso hK _ _ (M.perm [] Z Z) ?_;clear hK K
  refine gw 1 4023 ?_;intro K hK
  refine ow_bs0 (e:=3) M T Z Z Z Z (fun _=>by kernel_rfl) ?_;clear M T;intro gr15_1 wc ac M T
  refine Zso hK _ _ (M.perm [] Z Z) ?_;clear hK K
  refine gw 3 4031 ?_;intro K hK
  refine ow_appS Tryz.info3 M T Z Z Z Z (fun g w=>Tryz.append0i _ _ g _ w) underlying31 Z Z Z (by omega) (T.e 0 Z) (T.e 8 Z) (Sl0.rd M (.cons _ (.cons _ (.cons _ (List.Sublist.refl _))))) (ic_one _) ?_;clear M T;intro Au15_3 cu15_3 Iu15_3 wc ac hSm15_3 M T
  replace M:Mem w exq wc ((gr15_5,.cells [Zi (i:Int)])::(se.fo,.cells [.slice none 0 0])::(Il++Iu15_3)):=M.swapI
  refine Zso hK _ _ (M.perm [] Z Z) ?_;clear hK K
  refine gw 6 4095 ?_;intro K hK
  refine ow_appM (((gr15_5,.cells [Zi (i:Int)])::(se.fo,.cells [.slice none 0 0])::Il)) Tryz.info3 hSm15_3 M (by first | rfl | simp) T Z Z Z Z underlying31 Z Z Z (by omega) (T.e 0 Z) (T.e 2 Z) (Zne (i:=0) Z) Z Z ?_;clear M T;intro ga15_6 ca15_6 wc ac M T
  refine Zso hK _ _ (M.perm [] Z Z) ?_;clear hK K
  refine gw 12 8191 ?_;intro K hK
  have Mq:Mem w exq wc ((se.fo,.cells [.slice none 0 0])::(ga15_6,.row 3 1 (l.length+1) (ic l++[Zi (i:Int)]) ca15_6)::Il):=M.permT [2,0] 3 rfl rfl rfl rfl
  have My:Mem w exq wc [(se.fo,.cells [.slice none 0 0]),(ga15_6,.row 3 1 (l.length+1) (ic l++[Zi (i:Int)]) ca15_6)]:=Mq.sub (List.Sublist.cons_cons _ (.cons_cons _ (Zz9 _)))
  have gx:=senv.move (ex':=inL [(se.fo,.cells [.slice none 0 0]),(ga15_6,.row 3 1 (l.length+1) (ic l++[Zi (i:Int)]) ca15_6)]) Mq (fun b hb=>by unfold inL at hb ⊢;exact ((List.Sublist.cons_cons _ (.cons_cons _ (Zz9 Il))).map _).subset hb)
  refine Zoc (first:=[]) (cap:=[.pointer (some ⟨se.fo,0,none⟩),.pointer (some ⟨se.bb,0,none⟩),.pointer (some ⟨se.tb,0,none⟩),.pointer (some ⟨se.gr,0,none⟩)]) T Z Z Z Z (T.e 11 Z) (.cons (T.e 0 Z) (.cons (T.e 7 Z) (.cons (T.e 5 Z) (.cons (T.e 4 Z) .nil)))) func93 Z Z ?_
  refine Calls.mono (ih1 wc _ (l++[(i:Int)]) _ _ _ _ _ (i+1) _ [(ga15_6,.row 3 1 (l.length+1) (ic l++[Zi (i:Int)]) ca15_6)] (by simp) (by simp only [Zx3,Zx1,Zx2];omega) (by omega) (by omega) (by omega) hmo ⟨_,_,fun w ex=>by rw [← ic_snoc];exact Sp.row (by simp [ic_length])⟩ gx My.rebase) ?_
  clear T;rintro e wc ⟨Aur15_12,nur15_12,cur15_12,Iur15_12,rfl,hfsur15_12,N⟩ ac T
  replace M:=Mem.joinX (X:=[(se.fo,.cells [.slice none 0 0]),(ga15_6,.row 3 1 (l.length+1) (ic l++[Zi (i:Int)]) ca15_6)]) (F:=Il) Mq N (fun b h=>h)
  clear N Mq My gx
  replace M:Mem w exq wc ((se.fo,.cells [.slice Aur15_12 nur15_12 cur15_12])::(Iur15_12++Il)):=M
  refine Zso hK _ _ (M.perm [] Z Z) ?_;clear hK K
  refine Zgd (by kernel_rfl) ?_
  replace T:=T.pick [0,14,15,16,17,18,19,20] rfl
  refine nm_then ?_
  refine wp_cond_split (T.e 0 Z) ?_ ?_
  ·intro h8
   refine Zsr ?_
   refine lq T (Zra Z evc) ?_;intro ac T
   replace T:=T.pick [0] rfl
   refine Zln ?_
   refine wp_ret ?_
   refine Zrb ?_
   refine Zrt ?_
   refine Zrt ?_
   refine Zrb ?_
   refine Zrt ?_
   refine rt_1 T Z (T.e 0 Z) ?_
   have hsf:=H.trans (sFrom_some (by omega) (by rw [← hxr,Hm];exact h8))
   rw [← hxr,Hm] at hsf
   rw [hsf]
   exact ⟨Aur15_12,nur15_12,cur15_12,Iur15_12,by rw [h8],hfsur15_12,M.sub (.cons_cons _ (Zsl _ _))⟩
  intro h8
  refine wp_skip ?_
  refine Znb ?_
  refine nm_then ?_
  refine wp_region_lit ?_
  refine Zg2 T (Zq (Zrm Z (T.e 7 Z))) Z (fun _ T=>Zq (rn_add Z (T.e 0 Z) evc (by omega))) Z ?_;intro ac T
  refine l_q (v:=(Zi ((i:Int)+1))) (T.pick [0,1,2,3,4,5,6,7,8] Z) Z Z Z Z (Zra Z (T.e 0 Z)) ?_;intro ac T
  replace T:=T.pick [0,4,5,6,7,8,9] rfl
  refine Zln ?_
  have hno:=hfsur15_12.none h8
  obtain ⟨rfl,rfl,rfl,rfl⟩:=hno
  replace M:Mem w exq wc ((se.fo,.cells [.slice none 0 0])::Il):=M
  exact ⟨_,by omega,i+1,Z,(by omega),(by omega),(by rw [H];exact sFrom_none (by omega) (by rw [← hxr,Hm];exact h8)),T.pick [1,2,3,4,5,6,0] Z,M⟩
 intro h3
 refine wp_exit ?_
 refine Zet ?_
 refine Zet ?_
 refine ex_hit ?_
 refine nm_then ?_
 refine Zsr ?_
 refine lq T (Zra Z evc) ?_;intro ac T
 replace T:=T.pick [0] rfl
 refine Zln ?_
 refine wp_ret ?_
 refine rt_1 T Z (T.e 0 Z) ?_
 rw [H,sFrom_end (by omega)]
 exact ⟨none,0,0,[],Z,.inl ⟨rfl,Z,Z,Z,Z⟩,M.sub (.cons_cons _ (Zz9 _))⟩
theorem found_any (se:SE) (Tb:List (List Int)) (hLL:se.LL.map (·.1)=Tb) (hT1:Tb.length=se.b.lows.length) (hT2:∀ x∈Tb,x.length≤5) (hlo:se.b.lows.length≤4):∀ k:Nat,ShortSpec se Tb k
 | 0=>fun w exq l A m c fi lf first up Il hm hlk hfi hlf hf5 hup hl senv M0=>by
   subst hm hfi
   exact found_step se Tb 0 exq l A c lf first up Il w hLL hT1 hT2 hlo (fun _ h=>by cases h) hlk hlf hf5 hup hl senv M0
 | k+1=>fun w exq l A m c fi lf first up Il hm hlk hfi hlf hf5 hup hl senv M0=>by
   subst hm hfi
   exact found_step se Tb (k+1) exq l A c lf first up Il w hLL hT1 hT2 hlo (fun k' h=>by injection h with h;subst h;exact found_any se Tb hLL hT1 hT2 hlo _) hlk hlf hf5 hup hl senv M0
def LEPost (l:List Int) (er:Int) (w:World) (e:Ending) (w':World):Prop:=∃ A c I,e=.returned (.tuple #[.slice A l.length c,Zi er])∧l.length≤6∧(∃ b o,∀ (w:World) (ex:Nat→Prop),Sp w ex I A l.length 1 b o (ic l))∧Mem w noEx w' I
def mostL (b:Bx) (ok:Int→Bool):List Int:=mostP (tableP b) ok b.lows.length b.highs.length
def matchE (b:Bx):List Int×Int:=if checkB b=0 then (mostL b okA,0) else ([],checkB b)
def shortE (b:Bx):List Int×Int:=if checkB b=0 then (if pairsP (mostL b okA)=b.lows.length then ([],11) else ((sizeF (tableP b) b.lows.length 0).getD [],0)) else ([],checkB b)
theorem LEPost.nil {er:Int} {w w':World} {L:List (Nat×BA)} {e:Ending} (he:e=.returned (.tuple #[.slice none 0 0,Zi er])) (M:Mem w noEx w' L):LEPost [] er w e w':=⟨none,0,[],he,by simp,⟨0,0,fun _ _=>Sp.nil⟩,M.sub (Zz9 _)⟩
theorem Match_any (b:Bx) (A:Option Addr) (c:Nat) (B:Option Addr) (d:Nat) (w:World) (hA:Rd w w.heap.size 4 A b.lows.length (sc b.lows)) (hB:Rd w w.heap.size 4 B b.highs.length (sc b.highs)) (nA:b.lows.length≤1000000) (nB:b.highs.length≤1000000)  :
   Calls prog 25 #[bxV b A c B d] w (LEPost (matchE b).1 (matchE b).2 w):=by
 have hlA:=hA.len4
 have hlB:=hB.len4
 obtain ⟨bA,oA,SA⟩:=Sp.old hA
 obtain ⟨bB,oB,SB⟩:=Sp.old hB
 refine Zpx noEx func25 Z 12 Z [bxV b A c B d] Z Z (Mem.init w _) ?_
 intro ac wc T M
 refine Zsr ?_
 refine Zl2 ?_
 refine Zob M T Z Z Z Z (T.e 0 Z) Z ?_;clear M T;intro g1 wc ac M T
 refine Zg2 T (Zq (Zra Z evc)) Z (Zc Z) Z ?_;intro ac T
 replace T:=T.pick [2] rfl
 refine Zln ?_
 refine wp_seq ?_
 refine Zsr ?_
 refine lq T (Zrr (Mem.nth M 0 Z) Z (T.e 0 Z) Z) ?_;intro ac T
 refine Zl2 ?_
 refine Zod T Z Z Z Z evf (.cons (T.e 0 Z) .nil) func39 Z Z ?_
 refine Calls.mono (vCheck_any b _ _ _ _ _ (SA.rd M (Zz9 _)) (SB.rd M (Zz9 _)) (by omega) (by omega)) ?_
 clear T;rintro e wc ⟨rfl,hb⟩ ac T
 replace M:=M.call hb;clear hb
 refine lq T (Zra Z (T.e 0 Z)) ?_;intro ac T
 replace T:=T.pick [0,3] rfl
 refine Zln ?_
 refine Zsr ?_
 refine Zg2 T (Zq (Zrm Z (T.e 0 Z))) Z (fun _ T=>Zq (rn_neq Z (T.e 0 Z) evc)) Z ?_;intro ac T
 replace T:=T.pick [0,2,3] rfl
 refine Zln ?_
 refine wp_ifn (T.e 0 Z) ?_ ?_
 ·intro h1
  refine Zsr ?_
  refine Zg3 T (Zq (Zrm Z (T.e 1 Z))) Z (Zc Z) Z (Za 1 Z Z) Z ?_;intro ac T
  refine wpList_nil ?_
  replace T:=T.pick [0,1] rfl
  replace M:=M.mask [false] rfl
  refine Znr ?_
  refine Zrt ?_
  refine rt_2 T Z (T.e 1 Z) (T.e 0 Z) ?_
  have e9:matchE b=([],checkB b):=by unfold matchE;rw [if_neg (by simpa using h1)]
  rw [e9]
  exact LEPost.nil Z M
 intro h1
 have gb:=checkB_good.1 (show checkB b=0 by simpa using h1)
 have nA5:=gb.lows.1
 have nB5:=gb.highs.1
 refine Zsk ?_
 refine Zsr ?_
 refine lq T (Zrr (Mem.nth M 0 Z) Z (T.e 2 Z) Z) ?_;intro ac T
 refine Zl2 ?_
 refine Zod T Z Z Z Z evf (.cons (T.e 0 Z) (.cons evf .nil)) func81 Z Z ?_
 refine Calls.mono (most_always b A c B d _ (SA.rd M (Zz9 _)) (SB.rd M (Zz9 _)) gb) ?_
 clear T;rintro e wc ⟨Au2,cu2,Iu2,rfl,h5u2,SVu2,N⟩ ac T
 obtain ⟨bu2,ou2,SVu2⟩:=SVu2
 obtain ⟨lmu2,hlmu2⟩:∃ q,q=mostP (tableP b) okA b.lows.length b.highs.length:=⟨_,rfl⟩
 rw [← hlmu2] at h5u2 SVu2
 have Su2:=SVu2 w noEx
 replace M:=(M.join N).swapI
 replace M:Mem w noEx wc ((g1,.cells (Zbx b A c B d))::Iu2):=M
 clear N
 rw [← hlmu2] at T
 refine Zg2 T (Zq (Zra Z (T.e 0 Z))) Z (Zc Z) Z ?_;intro ac T
 refine wpList_nil ?_
 replace T:=T.pick [0,1] rfl
 replace M:=M.mask [false] rfl
 refine Znr ?_
 refine rt_2 T Z (T.e 1 Z) (T.e 0 Z) ?_
 have e9:matchE b=(lmu2,0):=by unfold matchE mostL;rw [if_pos (by simpa using h1),hlmu2]
 rw [e9]
 exact ⟨Au2,cu2,Iu2,Z,Nat.le_trans h5u2 (by omega),⟨_,_,SVu2⟩,M.sub ((List.Sublist.refl _))⟩
theorem Short_any (b:Bx) (A:Option Addr) (c:Nat) (B:Option Addr) (d:Nat) (w:World) (hA:Rd w w.heap.size 4 A b.lows.length (sc b.lows)) (hB:Rd w w.heap.size 4 B b.highs.length (sc b.highs)) (nA:b.lows.length≤1000000) (nB:b.highs.length≤1000000)  :
   Calls prog 30 #[bxV b A c B d] w (LEPost (shortE b).1 (shortE b).2 w):=by
 have hlA:=hA.len4
 have hlB:=hB.len4
 obtain ⟨bA,oA,SA⟩:=Sp.old hA
 obtain ⟨bB,oB,SB⟩:=Sp.old hB
 refine Zpx noEx func30 Z 40 Z [bxV b A c B d] Z Z (Mem.init w _) ?_
 intro ac wc T M
 refine Zsr ?_
 refine Zl2 ?_
 refine Zob M T Z Z Z Z (T.e 0 Z) Z ?_;clear M T;intro g1 wc ac M T
 refine Zg2 T (Zq (Zra Z evc)) Z (Zc Z) Z ?_;intro ac T
 replace T:=T.pick [2] rfl
 refine Zln ?_
 refine wp_seq ?_
 refine Zsr ?_
 refine lq T (Zrr (Mem.nth M 0 Z) Z (T.e 0 Z) Z) ?_;intro ac T
 refine Zl2 ?_
 refine Zod T Z Z Z Z evf (.cons (T.e 0 Z) .nil) func39 Z Z ?_
 refine Calls.mono (vCheck_any b _ _ _ _ _ (SA.rd M (Zz9 _)) (SB.rd M (Zz9 _)) (by omega) (by omega)) ?_
 clear T;rintro e wc ⟨rfl,hb⟩ ac T
 replace M:=M.call hb;clear hb
 refine lq T (Zra Z (T.e 0 Z)) ?_;intro ac T
 replace T:=T.pick [0,3] rfl
 refine Zln ?_
 refine Zsr ?_
 refine Zg2 T (Zq (Zrm Z (T.e 0 Z))) Z (fun _ T=>Zq (rn_neq Z (T.e 0 Z) evc)) Z ?_;intro ac T
 replace T:=T.pick [0,2,3] rfl
 refine Zln ?_
 refine wp_ifn (T.e 0 Z) ?_ ?_
 ·intro h1
  refine Zsr ?_
  refine Zg3 T (Zq (Zrm Z (T.e 1 Z))) Z (Zc Z) Z (Za 1 Z Z) Z ?_;intro ac T
  refine wpList_nil ?_
  replace T:=T.pick [0,1] rfl
  replace M:=M.mask [false] rfl
  refine Znr ?_
  refine Zrt ?_
  refine rt_2 T Z (T.e 1 Z) (T.e 0 Z) ?_
  have e9:shortE b=([],checkB b):=by unfold shortE;rw [if_neg (by simpa using h1)]
  rw [e9]
  exact LEPost.nil Z M
 intro h1
 have gb:=checkB_good.1 (show checkB b=0 by simpa using h1)
 have nA5:=gb.lows.1
 have nB5:=gb.highs.1
 refine Zsk ?_
 refine wp_seq ?_
 refine wp_seq ?_
 refine Zgs M (M.mask [true] Z) 7 (by kernel_rfl) Z (by kernel_rfl) ?_
 clear M;intro wc M
 refine gq T 0 1 Z (fun B w' hD hl hS=>(Zrr (Mem.nth (show Mem w noEx w' _ from hS) 0 Z) Z (T.e 2 Z) Z)) ?_;intro ac T
 refine Zgq (v:=(.pointer (some ⟨g1,5,none⟩))) T 3 9 Z (fun _=>(Zrg 5 Z (T.e 3 Z))) ?_;intro ac T
 refine gq T 4 25 Z (fun B w' hD hl hS=>(Zro (Mem.nth (show Mem w noEx w' _ from hS) 0 Z) Z (T.e 0 Z) Z)) ?_;intro ac T
 refine Zgq T 5 57 Z (fun _=>(Zrl Z underlying24 (T.e 0 Z))) ?_;intro ac T
 refine gw 1 59 ?_;intro K hK
 refine Zod T Z Z Z Z evf (.cons (T.e 3 Z) (.cons evf .nil)) func81 Z Z ?_
 refine Calls.mono (most_always b A c B d _ (SA.rd M (Zz9 _)) (SB.rd M (Zz9 _)) gb) ?_
 clear T;rintro e wc ⟨Au2,cu2,Iu2,rfl,h5u2,SVu2,N⟩ ac T
 obtain ⟨bu2,ou2,SVu2⟩:=SVu2
 obtain ⟨lmu2,hlmu2⟩:∃ q,q=mostP (tableP b) okA b.lows.length b.highs.length:=⟨_,rfl⟩
 rw [← hlmu2] at h5u2 SVu2
 have Su2:=SVu2 w noEx
 replace M:=(M.join N).swapI
 replace M:Mem w noEx wc ((g1,.cells (Zbx b A c B d))::Iu2):=M
 clear N
 rw [← hlmu2] at T
 refine Zso hK _ _ (M.perm [0] Z Z) ?_;clear hK K
 refine gw 2 63 ?_;intro K hK
 refine Zod T Z Z Z Z evf (.cons (T.e 0 Z) .nil) func91 Z Z ?_
 refine Calls.mono (pairs_any _ _ _ lmu2 _ (Su2.rd M (.cons _ (List.Sublist.refl _))) (by omega)) ?_
 clear T;rintro e wc ⟨rfl,hb⟩ ac T
 replace M:=M.call hb;clear hb
 refine Zso hK _ _ (M.perm [0] Z Z) ?_;clear hK K
 refine Zgq T 6 127 Z (fun _=>(rn_eql Z (T.e 0 Z) (T.e 2 Z))) ?_;intro ac T
 refine Zgd (by kernel_rfl) ?_
 replace T:=T.pick [0,9] rfl
 refine nm_then ?_
 refine wp_if (T.e 0 Z) ?_ ?_
 ·intro h2
  refine Zsr ?_
  refine Zg2 T (Zq (Zra Z evc)) Z (Zc Z) Z ?_;intro ac T
  refine wpList_nil ?_
  replace T:=T.pick [0,1] rfl
  replace M:=M.mask [false] rfl
  refine Znr ?_
  refine Zrt ?_
  refine rt_2 T Z (T.e 1 Z) (T.e 0 Z) ?_
  have e9:shortE b=([],11):=by unfold shortE mostL;rw [if_pos (by simpa using h1),← hlmu2,if_pos (by omega)]
  rw [e9]
  exact LEPost.nil Z M
 intro h2
 refine Zsk ?_
 refine Zsr ?_
 refine lq T (Zrr (Mem.nth M 0 Z) Z (T.e 1 Z) Z) ?_;intro ac T
 refine Zl2 ?_
 refine Zod T Z Z Z Z evf (.cons (T.e 0 Z) .nil) func92 Z Z ?_
 refine Calls.mono (table_any b A c B d _ (SA.rd M (Zz9 _)) (SB.rd M (Zz9 _)) gb) ?_
 clear T;rintro e wc ⟨Au4,cu4,LLu4,Iu4,rfl,hLu4,hSu4,hEu4,N⟩ ac T
 replace M:=(M.join N).swapI
 replace M:Mem w noEx wc ((g1,.cells (Zbx b A c B d))::(Iu2++Iu4)):=M
 clear N
 refine Zl2 ?_
 refine Zoa M T Z Z Z Z ?_;clear M T;intro g2 wc ac M T
 refine Zl2 ?_
 refine Zot M T Z Z (T.e 0 Z) (T.e 1 Z) Z .head Z Z ?_;clear M T;intro wc ac M T
 replace T:=T.pick [0,4] rfl
 refine Zln ?_
 refine Zsr ?_
 refine Zl2 ?_
 refine Zoa M T Z Z Z Z ?_;clear M T;intro g3 wc ac M T
 refine Zln ?_
 refine Zsr ?_
 refine Zl2 ?_
 refine Zoa M T Z Z Z Z ?_;clear M T;intro g4 wc ac M T
 refine Zln ?_
 refine Zsr ?_
 refine lq (v:=(.func (.func 93) #[] #[Zj g3,Zj g1,Zj g2,Zj g4])) T (rn_makeFunc Z .nil (.cons (T.e 1 Z) (.cons (T.e 3 Z) (.cons (T.e 2 Z) (.cons (T.e 0 Z) .nil))))) ?_;intro ac T
 refine Zl2 ?_
 refine Zot M T Z Z (T.e 1 Z) (T.e 0 Z) Z .head Z Z ?_;clear M T;intro wc ac M T
 replace T:=T.pick [1,2,4] rfl
 refine Zln ?_
 refine wp_seq ?_
 refine Zsr ?_
 refine Zg5 (v1:=(.pointer (some ⟨g1,5,none⟩))) T (Zq (Zrg 5 Z (T.e 2 Z))) Z (Zo M 3 0 Z Z Z Z) Z (Zl underlying24 0 Z Z) Z (fun _ T=>Zq (rn_add Z (T.e 0 Z) evc (by omega))) Z (fun _ T=>Zq (Zrm Z evc)) Z ?_;intro ac T
 replace T:=T.pick [0,1,5,6] rfl
 refine Zln ?_
 refine wp_block ?_
 refine wp_loop_n (fun mz ac wc=>∃ (s:Nat),mz=b.lows.length+1 - s∧(s≤b.lows.length+1)∧(sizeF (tableP b) b.lows.length 0=sizeF (tableP b) b.lows.length s)∧Tm ac 40 [(6,Zj g3),(7,Zj g4),(27,Zi (((b.lows.length:Nat):Int)+1)),(28,Zi (s:Int))]∧Mem w noEx wc ((g4,.cells [.func (.func 93) #[] #[Zj g3,Zj g1,Zj g2,Zj g4]])::(g3,.cells [.slice none 0 0])::(g2,.cells [.slice Au4 LLu4.length cu4])::(g1,.cells (Zbx b A c B d))::(Iu2++Iu4))) ?_ ?_
 ·exact ⟨_,0,Z,(by omega),Z,T.pick [3,2,1,0] Z,M.mask [true,true,true,true] Z⟩
 clear T M
 rintro mz ac wc ⟨s,hmm1,hs,H,T,M⟩
 refine Zsr ?_
 refine lq T (rn_lss Z (T.e 3 Z) (T.e 2 Z)) ?_;intro ac T
 refine Zln ?_
 refine wp_seq ?_
 refine wp_if (T.e 0 Z) ?_ ?_
 ·intro h3
  refine Zsk ?_
  refine wp_seq ?_
  refine wp_block ?_
  refine Zsr ?_
  refine Zg2 T (Zq (Zrm Z (T.e 4 Z))) Z (Za 0 Z Z) Z ?_;intro ac T
  replace T:=T.pick [0,3,4,5,6] rfl
  refine Zln ?_
  refine Zsr ?_
  refine Zg3 T (Zq (Zrm Z (T.e 0 Z))) Z (fun _ T=>Zq (rn_gtr Z (T.e 0 Z) evc)) Z (Zm 0 Z Z) Z ?_;intro ac T
  rcases Zx9 (decide (0 < (s:Int))) with h4 | h4
  ·replace h4:=of_decide_eq_true h4
   refine Zg2 T (Zw (Zwy Z Z (T.e 0 Z) (Zdt h4)) (Zro (Mem.nth M 0 Z) Z (T.e 5 Z) Z)) Z (fun _ T=>Zw (Zwy Z Z (T.e 1 Z) (Zdt h4)) (Zrm Z (T.e 4 Z))) Z ?_;intro ac T
   refine l_w (Zwy Z Z (T.e 2 Z) (Zdt h4)) ?_;intro K hK
   have Mq:Mem w noEx wc ([(g3,.cells [.slice none 0 0])]++((g4,.cells [.func (.func 93) #[] #[Zj g3,Zj g1,Zj g2,Zj g4]])::(g2,.cells [.slice Au4 LLu4.length cu4])::(g1,.cells (Zbx b A c B d))::(Iu2++Iu4))):=M.permT [1,0,2,3] 4 rfl rfl rfl rfl
   have gx:SEnv (⟨g3,g1,g2,g4,b,A,c,B,d,Au4,cu4,LLu4⟩:SE) wc (inL [(g3,.cells [.slice none 0 0])]):=⟨Old.of Mq (fun _ h=>h) (Zne (i:=2) rfl),Old.of Mq (fun _ h=>h) (Zne (i:=1) rfl),Old.of Mq (fun _ h=>h) (Zne (i:=0) rfl),(by obtain ⟨b9,o9,h9⟩:=hSu4;exact ⟨b9,o9,Sp.of Mq (fun _ h=>h) (h9 w noEx) (.cons _ (.cons _ (.cons _ (Zsq _ _))))⟩),fun x hx=>(by obtain ⟨b9,o9,h9⟩:=hEu4 x hx;exact ⟨b9,o9,Sp.of Mq (fun _ h=>h) (h9 w noEx) (.cons _ (.cons _ (.cons _ (Zsq _ _))))⟩)⟩
   have My:Mem w noEx wc [(g3,.cells [.slice none 0 0])]:=Mq.sub (Zsl _ _)
   refine Zoc (first:=[]) (cap:=[Zj g3,Zj g1,Zj g2,Zj g4]) T Z Z Z Z (T.e 1 Z) (.cons evc (.cons evc (.cons (T.e 0 Z) (.cons evc .nil)))) func93 Z Z ?_
   refine Calls.mono (found_any (⟨g3,g1,g2,g4,b,A,c,B,d,Au4,cu4,LLu4⟩:SE) (tableP b) hLu4 (tableP_len b).1 (fun x hx=>by rw [(tableP_len b).2 x hx];exact nB5) nA5 s wc _ [] none 0 0 0 _ 0 0 [] Z (by simp;omega) Z Z (by omega) (by omega) ⟨0,0,fun _ _=>Sp.nil⟩ gx My.rebase) ?_
   clear T;rintro e wc ⟨Au5,nu5,cu5,Iu5,rfl,hfsu5,N⟩ ac T
   replace M:=Mem.spin [(g3,.cells [.slice Au5 nu5 cu5])] Iu5 ((g4,.cells [.func (.func 93) #[] #[Zj g3,Zj g1,Zj g2,Zj g4]])::(g2,.cells [.slice Au4 LLu4.length cu4])::(g1,.cells (Zbx b A c B d))::(Iu2++Iu4)) (Mem.joinX (X:=[(g3,.cells [.slice none 0 0])]) (F:=((g4,.cells [.func (.func 93) #[] #[Zj g3,Zj g1,Zj g2,Zj g4]])::(g2,.cells [.slice Au4 LLu4.length cu4])::(g1,.cells (Zbx b A c B d))::(Iu2++Iu4))) Mq N (fun b h=>h))
   clear N Mq My gx
   replace M:Mem w noEx wc ((g3,.cells [.slice Au5 nu5 cu5])::(g4,.cells [.func (.func 93) #[] #[Zj g3,Zj g1,Zj g2,Zj g4]])::(g2,.cells [.slice Au4 LLu4.length cu4])::(g1,.cells (Zbx b A c B d))::(Iu2++Iu4++Iu5)):=M
   refine Zso hK _ _ ?_;clear hK K
   refine lq T (Zr1 Z (T.e 3 Z) (Zdt h4) (T.e 0 Z)) ?_;intro ac T
   replace T:=T.pick [0,1,2,3,8,9,10,11] rfl
   refine Zln ?_
   refine wp_cond_split (T.e 0 Z) ?_ ?_
   ·intro h5
    refine wp_exit ?_
    refine ex_miss Z ?_
    refine Zet ?_
    refine Zet ?_
    refine ex_hit ?_
    refine nm_then ?_
    refine Zsr ?_
    refine Zg3 T (Zq (Zro (Mem.nth M 0 Z) Z (T.e 4 Z) Z)) Z (Za 0 Z Z) Z (Zc Z) Z ?_;intro ac T
    refine wpList_nil ?_
    replace T:=T.pick [0,1] rfl
    replace M:=M.mask [false,false,false,false] rfl
    replace M:Mem w noEx wc ((Iu2++Iu4++Iu5)):=M
    refine Znr ?_
    refine rt_2 T Z (T.e 1 Z) (T.e 0 Z) ?_
    have e9:shortE b=((shortP (tableP b) b.lows.length s [] 0 0).getD [],0):=by unfold shortE mostL;rw [if_pos (by simpa using h1),← hlmu2,if_neg (by omega),H,sizeF_some (n:=b.lows.length) (by omega) (by omega) h5]
    rw [e9]
    obtain ⟨hn1,hn2⟩:=hfsu5.len
    have hsp:=hfsu5.sp
    subst hn1
    exact ⟨Au5,cu5,Iu5,Z,Nat.le_trans hn2 (by omega),hsp,M.sub ((Zsq _ _))⟩
   intro h5
   refine wp_skip ?_
   refine Znb ?_
   refine nm_then ?_
   refine wp_region_lit ?_
   refine lq T (rn_add Z (T.e 7 Z) evc (by omega)) ?_;intro ac T
   refine l_q (v:=(Zi ((s:Int)+1))) (T.pick [0,1,2,3,4,5,6,7] Z) Z Z Z Z (Zrm Z (T.e 0 Z)) ?_;intro ac T
   replace T:=T.pick [0,3,4,5,6,7,8] rfl
   refine Zln ?_
   have hno:=hfsu5.none h5
   obtain ⟨rfl,rfl,rfl,rfl⟩:=hno
   rw [Zx4] at M
   replace M:Mem w noEx wc ((g3,.cells [.slice none 0 0])::(g4,.cells [.func (.func 93) #[] #[Zj g3,Zj g1,Zj g2,Zj g4]])::(g2,.cells [.slice Au4 LLu4.length cu4])::(g1,.cells (Zbx b A c B d))::(Iu2++Iu4)):=M
   exact ⟨_,by omega,s+1,Z,(by omega),(by rw [H];exact sizeF_none (n:=b.lows.length) (by omega) (by omega) h5),T.pick [4,5,6,0] Z,M.permT [1,0,2,3] 4 Z Z Z Z⟩
  replace h4:=of_decide_eq_false h4
  refine Zg4 T (Zp (Zwn Z Z (T.e 0 Z) (Zdf h4))) Z (fun _ T=>Zp (Zwn Z Z (T.e 1 Z) (Zdf h4))) Z (fun _ T=>Zp (Zwn Z Z (T.e 2 Z) (Zdf h4))) Z (fun _ T=>Zq (Zr0 Z (T.e 3 Z) (Zdf h4) evc)) Z ?_;intro ac T
  replace T:=T.pick [0,1,2,3,8,9,10,11] rfl
  refine Zln ?_
  refine wp_cond_false (T.e 0 Z) ?_
  refine wp_skip ?_
  refine Znb ?_
  refine nm_then ?_
  refine wp_region_lit ?_
  refine lq T (rn_add Z (T.e 7 Z) evc (by omega)) ?_;intro ac T
  refine l_q (v:=(Zi ((s:Int)+1))) (T.pick [0,1,2,3,4,5,6,7] Z) Z Z Z Z (Zrm Z (T.e 0 Z)) ?_;intro ac T
  replace T:=T.pick [0,3,4,5,6,7,8] rfl
  refine Zln ?_
  exact ⟨_,by omega,s+1,rfl,(by omega),(by rw [H];obtain rfl:s=0:=(by omega);exact sizeF_zero _ _),T.pick [4,5,6,0] rfl,M.permT [0,1,2,3] 4 rfl rfl rfl rfl⟩
 intro h3
 refine wp_exit ?_
 refine Zet ?_
 refine Zet ?_
 refine ex_hit ?_
 refine nm_then ?_
 refine Zsr ?_
 refine Zg3 T (Zq (Zro (Mem.nth M 1 Z) Z (T.e 1 Z) Z)) Z (Za 0 Z Z) Z (Zc Z) Z ?_;intro ac T
 refine wpList_nil ?_
 replace T:=T.pick [0,1] rfl
 replace M:=M.mask [false,false,false,false] rfl
 refine Znr ?_
 refine rt_2 T Z (T.e 1 Z) (T.e 0 Z) ?_
 have e9:shortE b=([],0):=by unfold shortE mostL;rw [if_pos (by simpa using h1),← hlmu2,if_neg (by omega),H,sizeF_end (by omega)];rfl
 rw [e9]
 exact LEPost.nil Z M
abbrev LS:=List Snd×Option Addr×Nat
def lsC (l:List LS):List Value:=l.map fun x=>.slice x.2.1 x.1.length x.2.2
theorem Sp.ls0 {w w':World} {ex:Nat→Prop} {I L:List (Nat×BA)} {A:Option Addr} {n b o k:Nat} {r:List LS} {x:List Snd} {B:Option Addr} {c:Nat} (S:Sp w ex I A n 1 b o (lsC r)) (M:Mem w ex w' L) (hI:I.Sublist L) (h:r[k]? = some (x,B,c)):w'.cell? ⟨b,o+k * 1,none⟩=some (.slice B x.length c):=by
 rw [Nat.mul_one]
 exact S.cell w' L M hI k _ (by unfold lsC;rw [List.getElem?_map,h];rfl)
abbrev rowsOf (l:List LS):List (List Snd):=l.map (·.1)
def ElsS (w:World) (l:List LS):Prop:=∀ x∈l,Rd w w.heap.size 4 x.2.1 x.1.length (sc x.1)
def notesP (R:List (List Snd)):Nat:=(R.headD []).length
theorem notesP_at {LL:List LS} {x:List Snd} {B:Option Addr} {d:Nat} (h:LL[0]? = some (x,B,d)):notesP (rowsOf LL)=x.length:=by
 cases LL with
 | nil=>simp at h
 | cons y r =>
  simp at h
  subst h
  rfl
def rowsE (n:Nat):List (List Snd)→Int
 | []=>0
 | x::r=>if 6 < x.length then 6 else if x.length≠n then 2 else if sndsE x 6≠0 then sndsE x 6 else rowsE n r
def dueO (l:Lw) (n:Nat):Bool:=decide (0≤l.first+l.step * (n:Int)∧l.first+l.step * (n:Int)≤30)
def checkS (l:Lw) (R:List (List Snd)):Int :=
 if lawE l≠0 then lawE l else if 4 < R.length then 6 else if rowsE (notesP R) R≠0 then rowsE (notesP R) R else if (List.range (notesP R)).all (dueO l)=true then 0 else 1
theorem rowsE_good:∀ {n:Nat} {R:List (List Snd)},rowsE n R=0→∀ x∈R,x.length≤6∧x.length=n∧∀ y∈x,y.good
 | n,[],_,x,hx=>by cases hx
 | n,a::r,h,x,hx=>by
  unfold rowsE at h
  split at h
  ·contradiction
  ·split at h
   ·contradiction
   ·split at h
    ·contradiction
    ·rename_i h1 h2 h3
     rcases Zx7.1 hx with rfl | hx
     ·exact ⟨by omega,by simpa using h2,(sndsE_good (by simpa using h3)).2⟩
     ·exact rowsE_good h x hx
theorem good_rowsE:∀ {n:Nat} {R:List (List Snd)},(∀ x∈R,x.length≤6∧x.length=n∧∀ y∈x,y.good)→rowsE n R=0
 | n,[],_=>rfl
 | n,a::r,h=>by
  obtain ⟨h1,h2,h3⟩:=h a Zz2
  unfold rowsE
  rw [if_neg (by omega),if_neg (by simpa using h2),if_neg (by rw [good_sndsE (by omega) h3];simp)]
  exact good_rowsE fun x hx=>h x (Zz1 hx)
structure SGood (l:Lw) (R:List (List Snd)):Prop where
 law:l.good
 len:R.length≤4
 rows:∀ x∈R,x.length≤6∧x.length=notesP R∧∀ y∈x,y.good
 dues:∀ n,n < notesP R→dueO l n=true
theorem SGood.notes {l:Lw} {R:List (List Snd)} (h:SGood l R):notesP R≤6:=by
 cases R with
 | nil=>simp [notesP]
 | cons a r=>exact (h.rows a Zz2).1
theorem checkS_good {l:Lw} {R:List (List Snd)}:checkS l R=0↔SGood l R:=by
 unfold checkS
 constructor
 ·intro h
  split at h
  ·contradiction
  ·split at h
   ·contradiction
   ·split at h
    ·contradiction
    ·split at h
     ·rename_i h1 h2 h3 h4
      simp only [ne_eq,Decidable.not_not] at h1 h3
      exact ⟨lawE_good h1,by omega,rowsE_good h3,fun n hn=>List.all_eq_true.1 h4 n (List.mem_range.2 hn)⟩
     ·contradiction
 ·rintro ⟨h1,h2,h3,h4⟩
  rw [if_neg (by simp [good_lawE h1]),if_neg (by omega),if_neg (by simp [good_rowsE h3]),if_pos]
  exact List.all_eq_true.2 fun n hn=>h4 n (List.mem_range.1 hn)
def leO:Option Int→Int→Bool
 | none,_=>false
 | some q,r=>decide (r≤q)
def regE (n:Int):Option Int→List Int→Int
 | _,[]=>0
 | p,r::rs=>if ¬ (0≤r∧r≤n - 1) then 3 else if leO p r=true then 5 else regE n (some r) rs
def prevO (g:List Int) (i:Nat):Option Int:=if i=0 then none else g[i - 1]?
theorem prevO_le {g:List Int} {i:Nat} {r rp:Int} (hi:i≤g.length) (hr:rp=g.getD (i - 1) 0):leO (prevO g i) r=(decide (0 < (i:Int)) && decide (r≤rp)):=by
 unfold prevO
 rcases Nat.eq_zero_or_pos i with rfl | h
 ·simp [leO]
 ·rw [if_neg (by omega),List.getElem?_eq_getElem (by omega)]
  rw [List.getD_eq_getElem?_getD,List.getElem?_eq_getElem (by omega)] at hr
  have hr:rp=g[i - 1]:=hr
  simp only [leO,← hr]
  rw [Zdt (by omega:0 < (i:Int)),Bool.true_and]
def checkR (l:Lw) (R:List (List Snd)) (g:List Int):Int:=if checkS l R≠0 then checkS l R else regE R.length none g
theorem regE_good:∀ {n:Int} {p:Option Int} {g:List Int},regE n p g=0→∀ r∈g,0≤r∧r < n
 | n,p,[],_,r,hr=>by cases hr
 | n,p,a::g,h,r,hr=>by
  unfold regE at h
  split at h
  ·contradiction
  ·split at h
   ·contradiction
   ·rename_i h1 _
    rcases Zx7.1 hr with rfl | hr
    ·omega
    ·exact regE_good h r hr
theorem checkR_good {l:Lw} {R:List (List Snd)} {g:List Int} (h:checkR l R g=0):SGood l R∧∀ r∈g,0≤r∧r < R.length:=by
 unfold checkR at h
 split at h
 ·contradiction
 ·rename_i h1
  exact ⟨checkS_good.1 (by simpa using h1),regE_good h⟩
def voiceP (R:List (List Snd)) (n:Nat) (r:Int):Snd:=(R.getD r.toNat []).getD n ⟨0,0,0,0⟩
def voicesP (R:List (List Snd)) (g:List Int) (n:Nat):List Snd:=g.map (voiceP R n)
theorem voiceP_at {LL:List LS} {x:List Snd} {B:Option Addr} {d rk n:Nat} {r:Int} {y:Snd} (h:LL[rk]? = some (x,B,d)) (hr:r=(rk:Nat)) (hy:x[n]? = some y):voiceP (rowsOf LL) n r=y:=by
 subst hr
 unfold voiceP
 rw [List.getD_eq_getElem?_getD (l:=rowsOf LL),Int.toNat_natCast,List.getElem?_map,h]
 show x.getD n _=y
 rw [List.getD_eq_getElem?_getD,hy]
 rfl
theorem voicesP_take {R:List (List Snd)} {g:List Int} {n k:Nat} {r:Int} (h:g[k]? = some r):voicesP R (g.take (k+1)) n=voicesP R (g.take k) n++[voiceP R n r]:=by
 rw [List.take_add_one,h]
 simp [voicesP]
def VoicesPost (l:List Snd) (w:World) (e:Ending) (w':World):Prop:=∃ (A:Option Addr) (c:Nat) (I:List (Nat×BA)),e=.returned (.slice A l.length c)∧(∃ b o,∀ (w:World) (ex:Nat→Prop),Sp w ex I A l.length 4 b o (sc l))∧Mem w noEx w' I
theorem Tryz.info77:(prog.info? 77).map (fun i=>(i.zero,i.size,i.bytes))=some (some (.agg #[Zi 0,Zi 0,Zi 0,Zi 0]),4,32):=by kernel_rfl
def tremP (l:Lw) (R:List (List Snd)) (g:List Int):List Int:=(List.range (notesP R)).map fun (n:Nat)=>keepsP l (l.first+l.step * (n:Int)) (voicesP R g n)
theorem notes_any (l:Lw) (A:Option Addr) (c:Nat) (LL:List LS)  (w:World) (hA:Rd w w.heap.size 1 A LL.length (lsC LL)) (hE:ElsS w LL) (nL:LL.length≤1000000) (nE:∀ x∈LL,x.1.length≤1000000)  :
   Calls prog 86 #[.agg #[Zi l.first,Zi l.step,Zi l.span,Zi l.press,.slice A LL.length c]] w fun e w'=>e=.returned (Zi ((notesP (rowsOf LL):Nat):Int))∧Below w.heap.size w w':=by
 obtain ⟨bA,oA,SA⟩:=Sp.old hA
 refine Zpx noEx func86 Z 12 Z [.agg #[Zi l.first,Zi l.step,Zi l.span,Zi l.press,.slice A LL.length c]] Z Z (Mem.init w _) ?_
 intro ac wc T M
 refine Zsr ?_
 refine Zl2 ?_
 refine Zob M T Z Z Z Z (T.e 0 Z) Z ?_;clear M T;intro g1 wc ac M T
 refine lq T (Zra Z evc) ?_;intro ac T
 replace T:=T.pick [1] rfl
 refine Zln ?_
 refine wp_seq ?_
 refine Zsr ?_
 refine Zg4 (v1:=(.pointer (some ⟨g1,4,none⟩))) T (Zq (Zrg 4 Z (T.e 0 Z))) Z (Zo M 0 0 Z Z Z Z) Z (Zl underlying66 0 Z Z) Z (fun _ T=>Zq (rn_eql Z (T.e 0 Z) evc)) Z ?_;intro ac T
 replace T:=T.pick [0,4] rfl
 refine Zln ?_
 refine wp_if (T.e 0 Z) ?_ ?_
 ·intro h1
  refine Zsr ?_
  refine lq T (Zra Z evc) ?_;intro ac T
  refine wpList_nil ?_
  replace T:=T.pick [0] rfl
  replace M:=M.mask [false] rfl
  refine Znr ?_
  refine Zrt ?_
  refine rt_1 T Z (T.e 0 Z) ?_
  exact ⟨ret_int (by rw [List.eq_nil_of_length_eq_zero (l:=LL) (by omega)];rfl),M.below⟩
 intro h1
 obtain ⟨⟨x0,B0,d0⟩,hk0⟩:∃ x,LL[0]? = some x:=⟨_,List.getElem?_eq_getElem (by omega)⟩
 obtain ⟨bs0,os0,Ss0⟩:=Sp.old (hE _ (List.mem_of_getElem? hk0))
 dsimp only at Ss0
 have nx0:=nE _ (List.mem_of_getElem? hk0)
 dsimp only at nx0
 refine Zsk ?_
 refine Zsr ?_
 refine Zg6 (v1:=(.pointer (some ⟨g1,4,none⟩))) (v4:=(.slice B0 x0.length d0)) T (Zq (Zrg 4 Z (T.e 1 Z))) Z (Zo M 0 0 Z Z Z Z) Z (fun _ T=>Zq (Zri (size:=1) 0 Z (T.e 0 Z) evc ⟨_,underlying66,by kernel_rfl⟩ Z (by omega) (SA.at0 (by omega)))) Z (fun _ T=>Zq (rn_cell (Sp.ls0 SA M (Zz9 _) hk0) Z (T.e 0 Z))) Z (Zl underlying24 0 Z Z) Z (Za 0 Z Z) Z ?_;intro ac T
 refine wpList_nil ?_
 replace T:=T.pick [0] rfl
 replace M:=M.mask [false] rfl
 refine Znr ?_
 refine rt_1 T Z (T.e 0 Z) ?_
 exact ⟨ret_int (by rw [notesP_at hk0]),M.below⟩
theorem checkScale_any (l:Lw) (A:Option Addr) (c:Nat) (LL:List LS)  (w:World) (hA:Rd w w.heap.size 1 A LL.length (lsC LL)) (hE:ElsS w LL) (nL:LL.length≤1000000) (nE:∀ x∈LL,x.1.length≤1000000)  :
   Calls prog 163 #[.agg #[Zi l.first,Zi l.step,Zi l.span,Zi l.press,.slice A LL.length c]] w fun e w'=>e=.returned (Zi (checkS l (rowsOf LL)))∧Below w.heap.size w w':=by
 obtain ⟨bA,oA,SA⟩:=Sp.old hA
 refine Zpx noEx func163 Z 51 Z [.agg #[Zi l.first,Zi l.step,Zi l.span,Zi l.press,.slice A LL.length c]] Z Z (Mem.init w _) ?_
 intro ac wc T M
 refine Zsr ?_
 refine Zl2 ?_
 refine Zob M T Z Z Z Z (T.e 0 Z) Z ?_;clear M T;intro g1 wc ac M T
 refine lq T (Zra Z evc) ?_;intro ac T
 replace T:=T.pick [1] rfl
 refine Zln ?_
 refine wp_seq ?_
 refine Zsr ?_
 refine Zg2 (v1:=(Zj g1)) T (Zq (Zrg 0 Z (T.e 0 Z))) Z (Zr M 0 0 Z Z Z Z) Z ?_;intro ac T
 refine Zl2 ?_
 refine Zod T Z Z Z Z evf (.cons (T.e 0 Z) .nil) func98 Z Z ?_
 refine Calls.mono (checkLaw_any l _) ?_
 clear T;rintro e wc ⟨rfl,hb⟩ ac T
 replace M:=M.call hb;clear hb
 refine lq T (Zra Z (T.e 0 Z)) ?_;intro ac T
 replace T:=T.pick [0,4] rfl
 refine Zln ?_
 refine Zsr ?_
 refine Zg2 T (Zq (Zrm Z (T.e 0 Z))) Z (fun _ T=>Zq (rn_neq Z (T.e 0 Z) evc)) Z ?_;intro ac T
 replace T:=T.pick [0,2,3] rfl
 refine Zln ?_
 refine wp_ifn (T.e 0 Z) ?_ ?_
 ·intro h1
  refine Zsr ?_
  refine Zg2 T (Zq (Zrm Z (T.e 1 Z))) Z (Za 0 Z Z) Z ?_;intro ac T
  refine wpList_nil ?_
  replace T:=T.pick [0] rfl
  replace M:=M.mask [false] rfl
  refine Znr ?_
  refine Zrt ?_
  refine rt_1 T Z (T.e 0 Z) ?_
  refine ⟨ret_int ?_,M.below⟩
  unfold checkS
  rw [if_pos (by assumption)]
 intro h1
 have gl:=lawE_good (l:=l) (by simpa using h1)
 obtain ⟨gl1,gl2,gl3,gl4⟩:=gl
 refine Zsk ?_
 refine wp_seq ?_
 refine Zsr ?_
 refine Zg4 (v1:=(.pointer (some ⟨g1,4,none⟩))) T (Zq (Zrg 4 Z (T.e 2 Z))) Z (Zo M 0 0 Z Z Z Z) Z (Zl underlying66 0 Z Z) Z (fun _ T=>Zq (rn_gtr Z (T.e 0 Z) evc)) Z ?_;intro ac T
 replace T:=T.pick [0,6] rfl
 refine Zln ?_
 refine wp_if (T.e 0 Z) ?_ ?_
 ·intro h2
  refine Zsr ?_
  refine lq T (Zra Z evc) ?_;intro ac T
  refine wpList_nil ?_
  replace T:=T.pick [0] rfl
  replace M:=M.mask [false] rfl
  refine Znr ?_
  refine Zrt ?_
  refine rt_1 T Z (T.e 0 Z) ?_
  refine ⟨ret_int ?_,M.below⟩
  unfold checkS
  rw [if_neg (by simp_all),if_pos (by simp;omega)]
 intro h2
 refine Zsk ?_
 refine wp_seq ?_
 refine Zsr ?_
 refine Zg4 (v1:=(.pointer (some ⟨g1,4,none⟩))) T (Zq (Zrg 4 Z (T.e 1 Z))) Z (Zo M 0 0 Z Z Z Z) Z (Zl underlying66 0 Z Z) Z (fun _ T=>Zq (Zrm Z evc)) Z ?_;intro ac T
 replace T:=T.pick [0,1,2,5] rfl
 refine Zln ?_
 refine wp_block ?_
 refine wp_loop_n (fun mz ac wc=>∃ (k:Nat),mz=LL.length - k∧(k≤LL.length)∧(rowsE (notesP (rowsOf LL)) (rowsOf LL)=rowsE (notesP (rowsOf LL)) (rowsOf (LL.drop k)))∧Tm ac 51 [(1,Zj g1),(19,.slice A LL.length c),(20,Zi ((LL.length:Nat):Int)),(21,Zi (k:Int))]∧Mem w noEx wc [(g1,.cells [Zi l.first,Zi l.step,Zi l.span,Zi l.press,.slice A LL.length c])]) ?_ ?_
 ·exact ⟨_,0,Z,(by omega),Z,T.pick [3,2,1,0] Z,M.mask [true] Z⟩
 clear T M
 rintro mz ac wc ⟨k,hmm1,hk,H,T,M⟩
 refine Zsr ?_
 refine lq T (rn_lss Z (T.e 3 Z) (T.e 2 Z)) ?_;intro ac T
 refine Zln ?_
 refine wp_seq ?_
 refine wp_if (T.e 0 Z) ?_ ?_
 ·intro h3
  obtain ⟨⟨x1,B1,d1⟩,hk1⟩:∃ x,LL[k]? = some x:=⟨_,List.getElem?_eq_getElem (by omega)⟩
  obtain ⟨bs1,os1,Ss1⟩:=Sp.old (hE _ (List.mem_of_getElem? hk1))
  dsimp only at Ss1
  have nx1:=nE _ (List.mem_of_getElem? hk1)
  dsimp only at nx1
  have hdr:LL.drop k=(x1,B1,d1)::LL.drop (k+1):=by rw [List.drop_eq_getElem_cons (by omega)];congr 1;rw [List.getElem?_eq_getElem (by omega)] at hk1;injection hk1
  have hdm:rowsOf (LL.drop k)=x1::rowsOf (LL.drop (k+1)):=by rw [hdr];rfl
  rw [hdm,rowsE] at H
  refine Zsk ?_
  refine wp_seq ?_
  refine wp_block ?_
  refine Zsr ?_
  refine Zg3 (v2:=(.slice B1 x1.length d1)) T (Zq (Zri (size:=1) k Z (T.e 2 Z) (T.e 4 Z) ⟨_,underlying66,by kernel_rfl⟩ Z (by omega) (SA.at0 (by omega)))) Z (fun _ T=>Zq (rn_cell (Sp.ls0 SA M (Zz9 _) hk1) Z (T.e 0 Z))) Z (Za 0 Z Z) Z ?_;intro ac T
  replace T:=T.pick [0,4,5,6,7] rfl
  refine Zln ?_
  refine wp_seq ?_
  refine Zsr ?_
  refine Zg3 T (Zq (Zrm Z (T.e 0 Z))) Z (Zl underlying24 0 Z Z) Z (fun _ T=>Zq (rn_gtr Z (T.e 0 Z) evc)) Z ?_;intro ac T
  replace T:=T.pick [0,3,4,5,6,7] rfl
  refine Zln ?_
  refine wp_if (T.e 0 Z) ?_ ?_
  ·intro h4
   refine Zsr ?_
   refine lq T (Zra Z evc) ?_;intro ac T
   refine wpList_nil ?_
   replace T:=T.pick [0] rfl
   replace M:=M.mask [false] rfl
   refine Znr ?_
   refine Zrt ?_
   refine Zrb ?_
   refine Zrt ?_
   refine Zrt ?_
   refine Zrb ?_
   refine Zrt ?_
   refine rt_1 T Z (T.e 0 Z) ?_
   refine ⟨ret_int ?_,M.below⟩
   unfold checkS
   rw [if_pos (by omega)] at H
   rw [if_neg (by simp_all),if_neg (by simp;omega),H,if_pos (by first | omega | assumption)]
  intro h4
  refine Zsk ?_
  refine wp_seq ?_
  refine Zsr ?_
  refine Zg3 T (Zq (Zrm Z (T.e 1 Z))) Z (Zl underlying24 0 Z Z) Z (Zr M 0 4 Z Z Z Z) Z ?_;intro ac T
  refine Zl2 ?_
  refine Zod T Z Z Z Z evf (.cons (T.e 0 Z) .nil) func86 Z Z ?_
  refine Calls.mono (notes_any l A c LL _ (SA.rd M (Zz9 _)) (fun x hx=>M.rd (hE x hx) (Nat.le_refl _)) (by omega) nE) ?_
  clear T;rintro e wc ⟨rfl,hb⟩ ac T
  replace M:=M.call hb;clear hb
  refine lq T (rn_neq Z (T.e 2 Z) (T.e 0 Z)) ?_;intro ac T
  replace T:=T.pick [0,6,7,8,9,10] rfl
  refine Zln ?_
  refine wp_ifn (T.e 0 Z) ?_ ?_
  ·intro h5
   refine Zsr ?_
   refine lq T (Zra Z evc) ?_;intro ac T
   refine wpList_nil ?_
   replace T:=T.pick [0] rfl
   replace M:=M.mask [false] rfl
   refine Znr ?_
   refine Zrt ?_
   refine Zrb ?_
   refine Zrt ?_
   refine Zrt ?_
   refine Zrb ?_
   refine Zrt ?_
   refine rt_1 T Z (T.e 0 Z) ?_
   refine ⟨ret_int ?_,M.below⟩
   unfold checkS
   rw [if_neg (by omega),if_pos (by omega)] at H
   rw [if_neg (by simp_all),if_neg (by simp;omega),H,if_pos (by first | omega | assumption)]
  intro h5
  refine Zsk ?_
  refine Zsr ?_
  refine lq T (Zrm Z (T.e 1 Z)) ?_;intro ac T
  refine Zl2 ?_
  refine Zod T Z Z Z Z evf (.cons (T.e 0 Z) (.cons evc .nil)) func100 Z Z ?_
  refine Calls.mono (checkSounds_any _ _ _ x1 6 _ (Ss1.rd M (Zz9 _)) (by first | omega | (simp only [Zx1,Zx2];omega))) ?_
  clear T;rintro e wc ⟨rfl,hb⟩ ac T
  replace M:=M.call hb;clear hb
  refine lq T (Zra Z (T.e 0 Z)) ?_;intro ac T
  replace T:=T.pick [0,5,6,7,8] rfl
  refine Zln ?_
  refine Zsr ?_
  refine Zg2 T (Zq (Zrm Z (T.e 0 Z))) Z (fun _ T=>Zq (rn_neq Z (T.e 0 Z) evc)) Z ?_;intro ac T
  replace T:=T.pick [0,2,3,4,5,6] rfl
  refine Zln ?_
  refine wp_ifn (T.e 0 Z) ?_ ?_
  ·intro h6
   refine Zsr ?_
   refine Zg2 T (Zq (Zrm Z (T.e 1 Z))) Z (Za 0 Z Z) Z ?_;intro ac T
   refine wpList_nil ?_
   replace T:=T.pick [0] rfl
   replace M:=M.mask [false] rfl
   refine Znr ?_
   refine Zrb ?_
   refine Zrt ?_
   refine Zrt ?_
   refine Zrb ?_
   refine Zrt ?_
   refine rt_1 T Z (T.e 0 Z) ?_
   refine ⟨ret_int ?_,M.below⟩
   unfold checkS
   rw [if_neg (by omega),if_neg (by omega),if_pos (by assumption)] at H
   rw [if_neg (by simp_all),if_neg (by simp;omega),H,if_pos (by first | omega | assumption)]
  intro h6
  refine wp_skip ?_
  refine Znb ?_
  refine nm_then ?_
  refine wp_region_lit ?_
  refine lq T (rn_add Z (T.e 5 Z) evc (by omega)) ?_;intro ac T
  refine l_q (v:=(Zi ((k:Int)+1))) (T.pick [0,1,2,3,4,5] Z) Z Z Z Z (Zrm Z (T.e 0 Z)) ?_;intro ac T
  replace T:=T.pick [0,4,5,6] rfl
  refine Zln ?_
  exact ⟨_,by omega,k+1,Z,(by omega),(by rw [if_neg (by omega),if_neg (by omega),if_neg (by simp_all)] at H;exact H),T.pick [1,2,3,0] Z,M.mask [true] Z⟩
 intro h3
 have hdm:rowsOf (LL.drop k)=[]:=by rw [List.drop_of_length_le (by omega)];rfl
 rw [hdm,rowsE] at H
 have hgr:=rowsE_good H
 have hn6:notesP (rowsOf LL)≤6:=by cases LL with | nil=>simp [notesP] | cons a r=>exact (hgr a.1 (by simp)).1
 refine wp_exit ?_
 refine Zet ?_
 refine Zet ?_
 refine ex_hit ?_
 refine Zns ?_
 refine Zsr ?_
 refine lq T (Zrr (Mem.nth M 0 Z) Z (T.e 1 Z) Z) ?_;intro ac T
 refine Zl2 ?_
 refine Zod T Z Z Z Z evf (.cons (T.e 0 Z) .nil) func86 Z Z ?_
 refine Calls.mono (notes_any l A c LL _ (SA.rd M (Zz9 _)) (fun x hx=>M.rd (hE x hx) (Nat.le_refl _)) (by omega) nE) ?_
 clear T;rintro e wc ⟨rfl,hb⟩ ac T
 replace M:=M.call hb;clear hb
 refine lq T (Zrm Z evc) ?_;intro ac T
 replace T:=T.pick [0,1,4] rfl
 refine Zln ?_
 refine wp_block ?_
 refine wp_loop_n (fun mz ac wc=>∃ (k:Nat),mz=notesP (rowsOf LL) - k∧(k≤notesP (rowsOf LL))∧((List.range k).all (dueO l)=true)∧Tm ac 51 [(1,Zj g1),(40,Zi ((notesP (rowsOf LL):Nat):Int)),(41,Zi (k:Int))]∧Mem w noEx wc [(g1,.cells [Zi l.first,Zi l.step,Zi l.span,Zi l.press,.slice A LL.length c])]) ?_ ?_
 ·exact ⟨_,0,Z,(Nat.zero_le _),Z,T.pick [2,1,0] Z,M.mask [true] Z⟩
 clear T M
 rintro mz ac wc ⟨k,hmm2,hk,H2,T,M⟩
 refine Zsr ?_
 refine lq T (rn_lss Z (T.e 2 Z) (T.e 1 Z)) ?_;intro ac T
 refine Zln ?_
 refine wp_seq ?_
 refine wp_if (T.e 0 Z) ?_ ?_
 ·intro h7
  refine Zsk ?_
  refine wp_seq ?_
  refine wp_block ?_
  refine Zsr ?_
  refine Zg2 T (Zq (Zrm Z (T.e 3 Z))) Z (Za 0 Z Z) Z ?_;intro ac T
  replace T:=T.pick [0,3,4,5] rfl
  refine Zln ?_
  refine Zsr ?_
  refine Zg3 (v1:=(Zj g1)) T (Zq (Zrg 0 Z (T.e 1 Z))) Z (Zr M 0 0 Z Z Z Z) Z (Zm 2 Z Z) Z ?_;intro ac T
  refine Zl2 ?_
  refine Zod T Z Z Z Z evf (.cons (T.e 1 Z) (.cons (T.e 0 Z) .nil)) func88 Z Z ?_
  refine Calls.mono (vdue_any l (k:Int) _ (by (try dsimp only);omega) (by (try dsimp only);omega) (by (try dsimp only);omega)) ?_
  clear T;rintro e wc ⟨rfl,hb⟩ ac T
  replace M:=M.call hb;clear hb
  refine Zl2 ?_
  refine Zod T Z Z Z Z evf (.cons (T.e 0 Z) (.cons evc (.cons evc .nil))) func99 Z Z ?_
  refine Calls.mono (vwithin_any (l.first+l.step * (k:Int)) 0 30 _) ?_
  clear T;rintro e wc ⟨rfl,hb⟩ ac T
  replace M:=M.call hb;clear hb
  refine lq T (rn_not Z (T.e 0 Z)) ?_;intro ac T
  replace T:=T.pick [0,7,8,9] rfl
  refine Zln ?_
  refine wp_cond_split (T.e 0 Z) ?_ ?_
  ·intro h8
   (have h8':=h8;try simp only [Zb1,Zb2,Zb3,Zb4,Zb5,Zb6,Zb7] at h8')
   refine Zsr ?_
   refine lq T (Zra Z evc) ?_;intro ac T
   refine wpList_nil ?_
   replace T:=T.pick [0] rfl
   replace M:=M.mask [false] rfl
   refine Znr ?_
   refine Zrb ?_
   refine Zrt ?_
   refine Zrt ?_
   refine Zrb ?_
   refine Zrt ?_
   refine rt_1 T Z (T.e 0 Z) ?_
   refine ⟨ret_int ?_,M.below⟩
   unfold checkS
   rw [if_neg (by simp_all),if_neg (by simp;omega),H,if_neg (by omega),if_neg]
   intro k9
   have k8:=List.all_eq_true.1 k9 k (List.mem_range.2 (by omega))
   simp only [dueO,decide_eq_true_eq] at k8
   exact absurd h8 (by simp [withinB,k8])
  intro h8
  (have h8':=h8;try simp only [Zb1,Zb2,Zb3,Zb4,Zb5,Zb6,Zb7] at h8')
  refine wp_skip ?_
  refine Znb ?_
  refine nm_then ?_
  refine wp_region_lit ?_
  refine lq T (rn_add Z (T.e 3 Z) evc (by omega)) ?_;intro ac T
  refine l_q (v:=(Zi ((k:Int)+1))) (T.pick [0,1,2,3] Z) Z Z Z Z (Zrm Z (T.e 0 Z)) ?_;intro ac T
  replace T:=T.pick [0,3,4] rfl
  refine Zln ?_
  exact ⟨_,by omega,k+1,Z,(by omega),(by rw [List.range_succ,List.all_append,H2];simp only [List.all_cons,List.all_nil,Bool.true_and,Bool.and_true];simpa [withinB,dueO] using h8),T.pick [1,2,0] Z,M.mask [true] Z⟩
 intro h7
 refine wp_exit ?_
 refine Zet ?_
 refine Zet ?_
 refine ex_hit ?_
 refine nm_then ?_
 refine Zsr ?_
 refine lq T (Zra Z evc) ?_;intro ac T
 refine wpList_nil ?_
 replace T:=T.pick [0] rfl
 replace M:=M.mask [false] rfl
 refine Znr ?_
 refine rt_1 T Z (T.e 0 Z) ?_
 refine ⟨ret_int ?_,M.below⟩
 unfold checkS
 obtain rfl:k=notesP (rowsOf LL):=by omega
 rw [if_neg (by simp_all),if_neg (by simp;omega),H,if_neg (by omega),if_pos H2]
theorem checkRegister_any (l:Lw) (A:Option Addr) (c:Nat) (LL:List LS) (G:Option Addr) (d:Nat) (g:List Int)  (w:World) (hA:Rd w w.heap.size 1 A LL.length (lsC LL)) (hE:ElsS w LL) (nL:LL.length≤1000000) (nE:∀ x∈LL,x.1.length≤1000000) (hG:Rd w w.heap.size 1 G g.length (ic g)) (nG:g.length≤1000000)  :
   Calls prog 85 #[.agg #[Zi l.first,Zi l.step,Zi l.span,Zi l.press,.slice A LL.length c],.slice G g.length d] w fun e w'=>e=.returned (Zi (checkR l (rowsOf LL) g))∧Below w.heap.size w w':=by
 obtain ⟨bA,oA,SA⟩:=Sp.old hA
 obtain ⟨bG,oG,SG⟩:=Sp.old hG
 refine Zpx noEx func85 Z 41 Z [.agg #[Zi l.first,Zi l.step,Zi l.span,Zi l.press,.slice A LL.length c],.slice G g.length d] Z Z (Mem.init w _) ?_
 intro ac wc T M
 refine Zsr ?_
 refine Zl2 ?_
 refine Zob M T Z Z Z Z (T.e 0 Z) Z ?_;clear M T;intro g1 wc ac M T
 refine lq T (Zra Z evc) ?_;intro ac T
 replace T:=T.pick [1,3] rfl
 refine Zln ?_
 refine wp_seq ?_
 refine Zsr ?_
 refine lq T (Zrr (Mem.nth M 0 Z) Z (T.e 0 Z) Z) ?_;intro ac T
 refine Zl2 ?_
 refine Zod T Z Z Z Z evf (.cons (T.e 0 Z) .nil) func163 Z Z ?_
 refine Calls.mono (checkScale_any l A c LL _ (SA.rd M (Zz9 _)) (fun x hx=>M.rd (hE x hx) (Nat.le_refl _)) (by omega) nE) ?_
 clear T;rintro e wc ⟨rfl,hb⟩ ac T
 replace M:=M.call hb;clear hb
 refine lq T (Zra Z (T.e 0 Z)) ?_;intro ac T
 replace T:=T.pick [0,3,4] rfl
 refine Zln ?_
 refine Zsr ?_
 refine Zg2 T (Zq (Zrm Z (T.e 0 Z))) Z (fun _ T=>Zq (rn_neq Z (T.e 0 Z) evc)) Z ?_;intro ac T
 replace T:=T.pick [0,2,3,4] rfl
 refine Zln ?_
 refine wp_ifn (T.e 0 Z) ?_ ?_
 ·intro h1
  refine Zsr ?_
  refine Zg2 T (Zq (Zrm Z (T.e 1 Z))) Z (Za 0 Z Z) Z ?_;intro ac T
  refine wpList_nil ?_
  replace T:=T.pick [0] rfl
  replace M:=M.mask [false] rfl
  refine Znr ?_
  refine Zrt ?_
  refine rt_1 T Z (T.e 0 Z) ?_
  refine ⟨ret_int ?_,M.below⟩
  unfold checkR
  rw [if_pos (by assumption)]
 intro h1
 have hl0:(rowsOf LL).length=LL.length:=by simp
 rw [hl0] at *
 refine Zsk ?_
 refine wp_seq ?_
 refine Zsr ?_
 refine Zg3 T (Zq (Zrm Z (T.e 3 Z))) Z (Zl underlying31 0 Z Z) Z (fun _ T=>Zq (Zrm Z evc)) Z ?_;intro ac T
 replace T:=T.pick [0,1,2,5,6] rfl
 refine Zln ?_
 refine wp_block ?_
 refine wp_loop_n (fun mz ac wc=>∃ (i:Nat),mz=g.length - i∧(i≤g.length)∧(regE (rowsOf LL).length none g=regE (rowsOf LL).length (prevO g i) (g.drop i))∧Tm ac 41 [(1,.slice G g.length d),(2,Zj g1),(13,.slice G g.length d),(14,Zi ((g.length:Nat):Int)),(15,Zi (i:Int))]∧Mem w noEx wc [(g1,.cells [Zi l.first,Zi l.step,Zi l.span,Zi l.press,.slice A LL.length c])]) ?_ ?_
 ·exact ⟨_,0,Z,(by omega),Z,T.pick [4,3,2,1,0] Z,M.mask [true] Z⟩
 clear T M
 rintro mz ac wc ⟨i,hmm1,hi,H,T,M⟩
 refine Zsr ?_
 refine lq T (rn_lss Z (T.e 4 Z) (T.e 3 Z)) ?_;intro ac T
 refine Zln ?_
 refine wp_seq ?_
 refine wp_if (T.e 0 Z) ?_ ?_
 ·intro h2
  obtain ⟨r,hkr,hdr⟩:=ic_next (l:=g) (k:=i) (by omega)
  obtain ⟨rp,hrp⟩:∃ q,q=g.getD (i - 1) 0:=⟨_,rfl⟩
  have hpv:leO (prevO g i) r=(decide (0 < (i:Int)) && decide (r≤rp)):=prevO_le hi hrp
  rw [hdr,regE,hpv] at H
  refine Zsk ?_
  refine wp_seq ?_
  refine wp_block ?_
  refine Zsr ?_
  refine Zg5 T (Zq (Zrm Z (T.e 5 Z))) Z (fun _ T=>Zq (Zri (size:=1) i Z (T.e 4 Z) (T.e 6 Z) ⟨_,underlying31,by kernel_rfl⟩ Z (by omega) (SG.at0 (by omega)))) Z (fun _ T=>Zq (rn_cell (Sp.ic0 SG M (Zz9 _) hkr) Z (T.e 0 Z))) Z (Za 2 Z Z) Z (Za 1 Z Z) Z ?_;intro ac T
  replace T:=T.pick [0,1,6,7,8,9,10] rfl
  refine Zln ?_
  refine wp_block ?_
  refine Zsr ?_
  refine Zg5 (v2:=(.pointer (some ⟨g1,4,none⟩))) T (Zq (Zrm Z (T.e 0 Z))) Z (Zf 4 4 Z Z) Z (Zo M 0 0 Z Z Z Z) Z (Zl underlying66 0 Z Z) Z (fun _ T=>Zq (rn_sub Z (T.e 0 Z) evc (by omega))) Z ?_;intro ac T
  refine Zl2 ?_
  refine Zod T Z Z Z Z evf (.cons (T.e 4 Z) (.cons evc (.cons (T.e 0 Z) .nil))) func99 Z Z ?_
  refine Calls.mono (vwithin_any r 0 (((LL.length:Nat):Int) - 1) _) ?_
  clear T;rintro e wc ⟨rfl,hb⟩ ac T
  replace M:=M.call hb;clear hb
  refine Zg2 T (Zq (rn_not Z (T.e 0 Z))) Z (Za 0 Z Z) Z ?_;intro ac T
  replace T:=T.pick [0,8,9,10,11,12,13,14] rfl
  refine Zln ?_
  refine wp_cond_split (T.e 0 Z) ?_ ?_
  ·intro h3
   (have h3':=h3;try simp only [Zb1,Zb2,Zb3,Zb4,Zb5,Zb6,Zb7] at h3')
   refine Zsr ?_
   refine lq T (Zra Z evc) ?_;intro ac T
   refine wpList_nil ?_
   replace T:=T.pick [0] rfl
   replace M:=M.mask [false] rfl
   refine Znr ?_
   refine Zrb ?_
   refine Zrb ?_
   refine Zrt ?_
   refine Zrt ?_
   refine Zrb ?_
   refine Zrt ?_
   refine rt_1 T Z (T.e 0 Z) ?_
   refine ⟨ret_int ?_,M.below⟩
   unfold checkR
   rw [if_pos (by simp_all [withinB])] at H
   rw [if_neg (by simp_all),H]
  intro h3
  (have h3':=h3;try simp only [Zb1,Zb2,Zb3,Zb4,Zb5,Zb6,Zb7] at h3')
  refine cut_seq (fun ac wc=>Tm ac 41 [(1,.slice G g.length d),(2,Zj g1),(13,.slice G g.length d),(14,Zi ((g.length:Nat):Int)),(15,Zi (i:Int)),(28,.bool ((decide (0 < (i:Int))) && (decide (r≤rp))))]∧Mem w noEx wc [(g1,.cells [Zi l.first,Zi l.step,Zi l.span,Zi l.press,.slice A LL.length c])]) ?_ ?_
  ·refine wp_region_lit ?_
   refine Zg3 T (Zq (Zrm Z (T.e 2 Z))) Z (fun _ T=>Zq (rn_gtr Z (T.e 0 Z) evc)) Z (Zm 0 Z Z) Z ?_;intro ac T
   rcases Zx9 (decide (0 < (i:Int))) with h4 | h4
   ·replace h4:=of_decide_eq_true h4
    obtain ⟨i1,hi1⟩:∃ q:Nat,(i:Int) - 1=(q:Int):=⟨i - 1,by omega⟩
    have hkp:g[i1]? = some rp:=by rw [hrp,show i - 1=i1 by omega,List.getD_eq_getElem?_getD,List.getElem?_eq_getElem (by omega)];rfl
    refine Zg8 T (Zw (Zwy Z Z (T.e 0 Z) (Zdt h4)) (Zrm Z (T.e 4 Z))) Z (fun _ T=>Zw (Zwy Z Z (T.e 1 Z) (Zdt h4)) (Zrm Z (T.e 7 Z))) Z (fun _ T=>Zw (Zwy Z Z (T.e 2 Z) (Zdt h4)) (Zrm Z (T.e 7 Z))) Z (fun _ T=>Zw (Zwy Z Z (T.e 3 Z) (Zdt h4)) (rn_sub Z (T.e 0 Z) evc (by omega))) Z (fun _ T=>Zw (Zwy Z Z (T.e 4 Z) (Zdt h4)) (Zri (size:=1) i1 Z (T.e 2 Z) (T.e 0 Z) ⟨_,underlying31,by kernel_rfl⟩ hi1 (by omega) (SG.at0 (by omega)))) Z (fun _ T=>Zw (Zwy Z Z (T.e 5 Z) (Zdt h4)) (rn_cell (Sp.ic0 SG M (Zz9 _) hkp) Z (T.e 0 Z))) Z (fun _ T=>Zw (Zwy Z Z (T.e 6 Z) (Zdt h4)) (rn_leq Z (T.e 5 Z) (T.e 0 Z))) Z (fun _ T=>Zq (Zr1 Z (T.e 7 Z) (Zdt h4) (T.e 0 Z))) Z ?_;intro ac T
    refine lq T (Zra Z (T.e 0 Z)) ?_;intro ac T
    refine wpList_nil ?_
    replace T:=T.pick [0,2,3,4,5,6,7,8,15,16,17,18,19] rfl
    exact ⟨(T.pick (E':=[(1,.slice G g.length d),(2,Zj g1),(13,.slice G g.length d),(14,Zi ((g.length:Nat):Int)),(15,Zi (i:Int)),(28,.bool (decide (r≤rp)))]) [8,9,10,11,12,0] Z).as (by (try rw [show (decide (0 < (i:Int)))=true from (Zdt h4)]);(try rfl)),M.mask [true] Z⟩
   replace h4:=of_decide_eq_false h4
   refine Zg8 T (Zp (Zwn Z Z (T.e 0 Z) (Zdf h4))) Z (fun _ T=>Zp (Zwn Z Z (T.e 1 Z) (Zdf h4))) Z (fun _ T=>Zp (Zwn Z Z (T.e 2 Z) (Zdf h4))) Z (fun _ T=>Zp (Zwn Z Z (T.e 3 Z) (Zdf h4))) Z (fun _ T=>Zp (Zwn Z Z (T.e 4 Z) (Zdf h4))) Z (fun _ T=>Zp (Zwn Z Z (T.e 5 Z) (Zdf h4))) Z (fun _ T=>Zp (Zwn Z Z (T.e 6 Z) (Zdf h4))) Z (fun _ T=>Zq (Zr0 Z (T.e 7 Z) (Zdf h4) evc)) Z ?_;intro ac T
   refine lq T (Zra Z (T.e 0 Z)) ?_;intro ac T
   refine wpList_nil ?_
   replace T:=T.pick [0,2,3,4,5,6,7,8,15,16,17,18,19] rfl
   exact ⟨(T.pick (E':=[(1,.slice G g.length d),(2,Zj g1),(13,.slice G g.length d),(14,Zi ((g.length:Nat):Int)),(15,Zi (i:Int)),(28,.bool false)]) [8,9,10,11,12,0] Z).as (by (try rw [show (decide (0 < (i:Int)))=false from (Zdf h4)]);(try rfl)),M.mask [true] Z⟩
  clear T M
  rintro ac wc ⟨T,M⟩
  refine wp_cond_split (T.e 5 Z) ?_ ?_
  ·intro h5
   (have h5':=h5;try simp only [Zb1,Zb2,Zb3,Zb4,Zb5,Zb6,Zb7] at h5')
   refine Zsr ?_
   refine lq T (Zra Z evc) ?_;intro ac T
   refine wpList_nil ?_
   replace T:=T.pick [0] rfl
   replace M:=M.mask [false] rfl
   refine Znr ?_
   refine Zrb ?_
   refine Zrb ?_
   refine Zrt ?_
   refine Zrt ?_
   refine Zrb ?_
   refine Zrt ?_
   refine rt_1 T Z (T.e 0 Z) ?_
   refine ⟨ret_int ?_,M.below⟩
   unfold checkR
   rw [if_neg (by simp_all [withinB]),if_pos (by assumption)] at H
   rw [if_neg (by simp_all),H]
  intro h5
  (have h5':=h5;try simp only [Zb1,Zb2,Zb3,Zb4,Zb5,Zb6,Zb7] at h5')
  refine wp_skip ?_
  refine Znb ?_
  refine Znb ?_
  refine nm_then ?_
  refine wp_region_lit ?_
  refine lq T (rn_add Z (T.e 4 Z) evc (by omega)) ?_;intro ac T
  refine l_q (v:=(Zi ((i:Int)+1))) (T.pick [0,1,2,3,4,6] Z) Z Z Z Z (Zrm Z (T.e 0 Z)) ?_;intro ac T
  replace T:=T.pick [0,2,3,4,5] rfl
  refine Zln ?_
  exact ⟨_,by omega,i+1,Z,(by omega),(by rw [if_neg (by simp_all [withinB]),if_neg (by rw [h5];simp)] at H;rw [H,prevO,if_neg (by omega),Nat.add_sub_cancel,hkr]),T.pick [1,2,3,4,0] Z,M.mask [true] Z⟩
 intro h2
 rw [List.drop_of_length_le (by omega),regE] at H
 refine wp_exit ?_
 refine Zet ?_
 refine Zet ?_
 refine ex_hit ?_
 refine nm_then ?_
 refine Zsr ?_
 refine lq T (Zra Z evc) ?_;intro ac T
 refine wpList_nil ?_
 replace T:=T.pick [0] rfl
 replace M:=M.mask [false] rfl
 refine Znr ?_
 refine rt_1 T Z (T.e 0 Z) ?_
 refine ⟨ret_int ?_,M.below⟩
 unfold checkR
 rw [if_neg (by simp_all),H]
open Go.RowKit
open Go.RowKit
open Go.RowKit
theorem within_mk {n lo hi:Int} (h:lo≤n∧n≤hi):withinB n lo hi=true:=by unfold withinB;simpa using h
theorem chkR_mk {x0 x1 lo hi:Int} (h:lo≤x0∧x0≤x1∧x1≤hi):chkR x0 x1 lo hi=0:=by
 unfold chkR
 rw [if_pos ⟨within_mk (by omega),within_mk (by omega)⟩,if_neg (by omega)]
theorem chkAll_mk {lo hi:Int}:∀ {l:List (Int×Int)},(∀ p∈l,lo≤p.1∧p.1≤p.2∧p.2≤hi)→chkAll lo hi l=0:=by
 intro l
 induction l with
 | nil=>intro _;rfl
 | cons q r ih =>
  intro h
  have h0:=chkR_mk (h q (by simp))
  unfold chkAll
  rw [if_neg (by rw [h0];simp)]
  exact ih fun p hp=>h p (Zz1 hp)
theorem check_of_good {j:Jb} (h:j.good):checkJ j=0:=by
 have e1:=chkR_mk h.p
 have e2:chkAll 0 100 [(j.t0,j.t1),(j.r0,j.r1)]=0:=chkAll_mk (by
  intro p hp
  simp only [Zx7,Zx8,or_false] at hp
  rcases hp with rfl | rfl
  ·exact h.t
  ·exact h.r)
 have e3:chkAll 0 12 [(j.u0,j.u1),(j.d0,j.d1),(j.a0,j.a1),(j.b0,j.b1)]=0:=chkAll_mk (by
  intro p hp
  simp only [Zx7,Zx8,or_false] at hp
  rcases hp with rfl | rfl | rfl | rfl
  ·exact h.u
  ·exact h.d
  ·exact h.a
  ·exact h.b)
 have e4:=within_mk h.le
 have e6:=chkAll_mk h.sh
 have e7:=within_mk h.wi
 have e8:=within_mk h.me
 have e5:=h.few
 unfold checkJ
 rw [if_neg (by rw [e1];simp),if_neg (by rw [e2];simp),if_neg (by rw [e3];simp),if_neg (by rw [e4];simp),if_neg (by omega),if_neg (by rw [e6];simp),if_neg (by rw [e7,e8];simp)]
open Go.RowKit
theorem eqT26 {x y:Operand} {a0 a1 b0 b1:Int} {w:World}:(do eqGuard .eql 26 x y (.agg #[Zi a0,Zi a1]) (.agg #[Zi b0,Zi b1]);binOp .eql 26 (.agg #[Zi a0,Zi a1]) (.agg #[Zi b0,Zi b1]):Sem Value).run prog w=.ok (.bool ((decide (a0=b0) && decide (a1=b1)))) w:=by
 go_simp
 (repeat' split) <;> simp_all
theorem eqT28 {x y:Operand} {a0 a1 a2 a3 a4 a5 a6 a7 a8 b0 b1 b2 b3 b4 b5 b6 b7 b8:Int} {w:World}:(do eqGuard .eql 28 x y (.agg #[Zi a0,Zi a1,Zi a2,Zi a3,Zi a4,Zi a5,Zi a6,Zi a7,Zi a8]) (.agg #[Zi b0,Zi b1,Zi b2,Zi b3,Zi b4,Zi b5,Zi b6,Zi b7,Zi b8]);binOp .eql 28 (.agg #[Zi a0,Zi a1,Zi a2,Zi a3,Zi a4,Zi a5,Zi a6,Zi a7,Zi a8]) (.agg #[Zi b0,Zi b1,Zi b2,Zi b3,Zi b4,Zi b5,Zi b6,Zi b7,Zi b8]):Sem Value).run prog w=.ok (.bool ((decide (a0=b0) && (decide (a1=b1) && (decide (a2=b2) && (decide (a3=b3) && (decide (a4=b4) && (decide (a5=b5) && (decide (a6=b6) && (decide (a7=b7) && decide (a8=b8))))))))))) w:=by
 go_simp
 (repeat' split) <;> simp_all
theorem same_start {α:Type} [DecidableEq α] (l r:List α):decide (l=r)=(decide ((l.length:Int)=(r.length:Int)) && decide (l.drop 0=r.drop 0)):=by
 by_cases h:l=r
 · subst h;simp
 · simp [h]
theorem same_next {x y x' y':Int} {l r:List (Int×Int)}:decide ((x,y)::l=(x',y')::r)=((decide (x=x') && decide (y=y')) && decide (l=r)):=by
 by_cases h1:x=x' <;> by_cases h2:y=y' <;> simp [h1,h2]
theorem sameRanges_any (A D:Option Addr) (n m c d:Nat) (l r:List (Int×Int)) (w:World) (hr:Rd w w.heap.size 2 A n (rc l)) (hs:Rd w w.heap.size 2 D m (rc r)) (hn:n≤9223372036854775807) (hm:m≤9223372036854775807) :
   Calls prog 31 #[.slice A n c,.slice D m d] w fun e w'=>e=.returned (.bool (decide (l=r)))∧Below w.heap.size w w':=by
 have hl:=hr.len2
 have hl2:=hs.len2
 obtain ⟨bJ,oJ,SJ⟩:=Sp.old hr
 obtain ⟨bI,oI,SI⟩:=Sp.old hs
 refine Zpx noEx func31 Z 31 Z [.slice A n c,.slice D m d] Z Z (Mem.init w _) ?_
 intro ac wc T M
 refine Zsr ?_
 refine lq T (Zra Z evc) ?_;intro ac T
 replace T:=T.pick [1,2] rfl
 refine Zln ?_
 refine Zsr ?_
 refine Zg6 T (Zq (Zrm Z (T.e 0 Z))) Z (Zl underlying57 0 Z Z) Z (Zm 3 Z Z) Z (Zl underlying57 0 Z Z) Z (fun _ T=>Zq (rn_eql Z (T.e 2 Z) (T.e 0 Z))) Z (Za 0 Z Z) Z ?_;intro ac T
 replace T:=T.pick [0,6,7] rfl
 refine Zln ?_
 refine wp_seq ?_
 refine Zsr ?_
 refine lq T (Zra Z evc) ?_;intro ac T
 refine Zln ?_
 refine wp_block ?_
 refine wp_loop_n (fun mz ac wc=>∃ (k:Nat) (b:Bool),mz=n - k∧(k≤n)∧(b=true→n=m)∧(decide (l=r)=(b && decide (l.drop k=r.drop k)))∧Tm ac 31 [(0,.slice A n c),(1,.slice D m d),(5,.bool b),(6,Zi (k:Int))]∧Mem w noEx wc []) ?_ ?_
 ·exact ⟨_,0,_,Z,(by omega),(fun h=>by have:=of_decide_eq_true h;omega),(by rw [same_start l r,hl,hl2]),T.pick [2,3,1,0] Z,M.mask [] Z⟩
 clear T M
 rintro mz ac wc ⟨k,b,hmm1,hk,hb,H,T,M⟩
 refine wp_seq ?_
 refine cut_seq (fun ac wc=>Tm ac 31 [(0,.slice A n c),(1,.slice D m d),(5,.bool b),(6,Zi (k:Int)),(18,.bool (b && (decide ((k:Int) < ((n:Nat):Int)))))]∧Mem w noEx wc []) ?_ ?_
 ·refine wp_region_lit ?_
  refine Zg2 T (Zq (Zrm Z (T.e 2 Z))) Z (Zm 0 Z Z) Z ?_;intro ac T
  rcases Zx9 b with h1 | h1
  ·refine Zg5 T (Zw (Zwy Z Z (T.e 0 Z) h1) (Zrm Z (T.e 5 Z))) Z (fun _ T=>Zw (Zwy Z Z (T.e 1 Z) h1) (Zrm Z (T.e 3 Z))) Z (fun _ T=>Zw (Zwy Z Z (T.e 2 Z) h1) (Zrl Z underlying57 (T.e 0 Z))) Z (fun _ T=>Zw (Zwy Z Z (T.e 3 Z) h1) (rn_lss Z (T.e 2 Z) (T.e 0 Z))) Z (fun _ T=>Zq (Zr1 Z (T.e 4 Z) h1 (T.e 0 Z))) Z ?_;intro ac T
   refine wpList_nil ?_
   replace T:=T.pick [0,1,2,3,4,7,8,9,10] rfl
   exact ⟨(T.pick (E':=[(0,.slice A n c),(1,.slice D m d),(5,.bool b),(6,Zi (k:Int)),(18,.bool (decide ((k:Int) < ((n:Nat):Int))))]) [5,6,7,8,0] Z).as (by (try rw [show b=true from h1]);(try rfl)),M.mask [] Z⟩
  refine Zg5 T (Zp (Zwn Z Z (T.e 0 Z) h1)) Z (fun _ T=>Zp (Zwn Z Z (T.e 1 Z) h1)) Z (fun _ T=>Zp (Zwn Z Z (T.e 2 Z) h1)) Z (fun _ T=>Zp (Zwn Z Z (T.e 3 Z) h1)) Z (fun _ T=>Zq (Zr0 Z (T.e 4 Z) h1 evc)) Z ?_;intro ac T
  refine wpList_nil ?_
  replace T:=T.pick [0,1,2,3,4,7,8,9,10] rfl
  exact ⟨(T.pick (E':=[(0,.slice A n c),(1,.slice D m d),(5,.bool b),(6,Zi (k:Int)),(18,.bool false)]) [5,6,7,8,0] Z).as (by (try rw [show b=false from h1]);(try rfl)),M.mask [] Z⟩
 clear T M
 rintro ac wc ⟨T,M⟩
 refine wp_cond_split (T.e 4 Z) ?_ ?_
 ·intro h2
  (have h2':=h2;try simp only [Zb1,Zb2,Zb3,Zb4,Zb5,Zb6,Zb7] at h2')
  have h1:b=true∧(k:Int) < (n:Int):=by simpa using h2
  have hnm:=hb h1.1
  obtain ⟨x0,x1,hk1,hd⟩:=rc_next (l:=l) (k:=k) (by omega)
  obtain ⟨y0,y1,hk2,hd2⟩:=rc_next (l:=r) (k:=k) (by omega)
  rw [hd,hd2,h1.1,Bool.true_and,same_next] at H
  refine Zsk ?_
  refine wp_seq ?_
  refine wp_block ?_
  refine Zgs M (M.mask [] Z) 10 (by kernel_rfl) Z (by kernel_rfl) ?_
  clear M;intro wc M
  refine Zgq T 0 1 Z (fun _=>(Zrm Z (T.e 0 Z))) ?_;intro ac T
  refine Zgq T 1 3 Z (fun _=>(Zrm Z (T.e 4 Z))) ?_;intro ac T
  refine Zgq T 2 7 Z (fun _=>(Zri (size:=2) k Z (T.e 1 Z) (T.e 0 Z) ⟨_,underlying57,by kernel_rfl⟩ Z (by omega) (SJ.at0 (by omega)))) ?_;intro ac T
  refine gq (v:=(.agg #[Zi x0,Zi x1])) T 3 15 Z (fun B w' hD hl hS=>(rn_rowat (Sp.rcR SJ (show Mem w noEx w' _ from hS) (Zz9 _) hk1) Z (T.e 0 Z) Z)) ?_;intro ac T
  refine Zgq T 4 31 Z (fun _=>(Zrm Z (T.e 5 Z))) ?_;intro ac T
  refine Zgq T 5 63 Z (fun _=>(Zrm Z (T.e 8 Z))) ?_;intro ac T
  refine Zgq T 6 127 Z (fun _=>(Zri (size:=2) k Z (T.e 1 Z) (T.e 0 Z) ⟨_,underlying57,by kernel_rfl⟩ Z (by omega) (SI.at0 (by omega)))) ?_;intro ac T
  refine gq (v:=(.agg #[Zi y0,Zi y1])) T 7 255 Z (fun B w' hD hl hS=>(rn_rowat (Sp.rcR SI (show Mem w noEx w' _ from hS) (Zz9 _) hk2) Z (T.e 0 Z) Z)) ?_;intro ac T
  refine Zgq (v:=(.bool ((decide (x0=y0)) && (decide (x1=y1))))) T 8 511 Z (fun _=>(rn_bin Z (T.e 4 Z) (T.e 0 Z) eqT26)) ?_;intro ac T
  refine g_q (v:=(.bool ((decide (x0=y0)) && (decide (x1=y1))))) (T:=T.pick [0,1,2,3,4,5,6,7,8,9,10,12,13] Z) (i:=9) Z (by kernel_rfl) (by kernel_rfl:(Zpb 10 511).setIfInBounds 9 true=Zpb 10 1023) si_U (fun _ _ _ h=>h) Z Z Z Z (fun _ _ _ _ _=>(Zra Z (T.e 0 Z))) ?_;intro ac T
  refine Zgd (by kernel_rfl) ?_
  replace T:=T.pick [0,10,11,12] rfl
  refine Znb ?_
  refine nm_then ?_
  refine wp_region_lit ?_
  refine Zg2 T (Zq (Zrm Z (T.e 3 Z))) Z (fun _ T=>Zq (rn_add Z (T.e 0 Z) evc (by omega))) Z ?_;intro ac T
  refine l_q (v:=(Zi ((k:Int)+1))) (T.pick [0,1,2,3,4] Z) Z Z Z Z (Zra Z (T.e 0 Z)) ?_;intro ac T
  replace T:=T.pick [0,3,4,5] rfl
  refine Zln ?_
  exact ⟨_,by omega,k+1,_,Z,(by omega),(fun _=>hnm),H,T.pick [2,3,1,0] Z,M.mask [] Z⟩
 intro h2
 (have h2':=h2;try simp only [Zb1,Zb2,Zb3,Zb4,Zb5,Zb6,Zb7] at h2')
 refine wp_exit ?_
 refine Zet ?_
 refine Zet ?_
 refine ex_hit ?_
 refine nm_then ?_
 refine Zsr ?_
 refine Zg2 T (Zq (Zrm Z (T.e 2 Z))) Z (Za 0 Z Z) Z ?_;intro ac T
 replace T:=T.pick [0] rfl
 refine Zln ?_
 refine wp_ret ?_
 refine rt_1 T Z (T.e 0 Z) ?_
 refine ⟨ret_bool ?_,M.below⟩
 rw [H]
 rcases Zx9 b with hb1 | hb1
 · have hnm:=hb hb1
   have : ¬ ((k:Int) < (n:Int)):=by intro hc;simp [hb1,hc] at h2
   rw [List.drop_of_length_le (by omega),List.drop_of_length_le (by omega)]
   simp [hb1]
 · simp [hb1]
theorem sameRanges_same (A D:Option Addr) (n m c d:Nat) (l:List (Int×Int)) (w:World) (hr:Rd w w.heap.size 2 A n (rc l)) (hs:Rd w w.heap.size 2 D m (rc l)) (hn:n≤9223372036854775807) (hm:m≤9223372036854775807) :
  Calls prog 31 #[.slice A n c,.slice D m d] w fun e w'=>e=.returned (.bool true)∧Below w.heap.size w w':=by
 have:=sameRanges_any A D n m c d l l w hr hs hn hm
 simpa using this
theorem voiceP_in {R:List (List Snd)} {r:Int} {n:Nat} (hr:0≤r∧r < R.length) (hn:∀ x∈R,n < x.length):∃ x∈R,voiceP R n r∈x:=by
 have h1:r.toNat < R.length:=by omega
 have hm:R[r.toNat]∈R:=List.getElem_mem _
 refine ⟨R[r.toNat],hm,?_⟩
 unfold voiceP
 rw [List.getD_eq_getElem?_getD (l:=R),List.getElem?_eq_getElem h1]
 show (R[r.toNat]).getD n _∈_
 rw [List.getD_eq_getElem?_getD,List.getElem?_eq_getElem (hn _ hm)]
 exact List.getElem_mem _
theorem voicesP_good {l:Lw} {R:List (List Snd)} {g:List Int} {n:Nat} (gS:SGood l R) (hg:∀ r∈g,0≤r∧r < R.length) (hn:n < notesP R):∀ z∈voicesP R g n,z.good:=fun z hz=>by
 obtain ⟨r,hr,rfl⟩:=List.mem_map.1 hz
 obtain ⟨x,hx,hv⟩:=voiceP_in (n:=n) (hg r hr) (fun x hx=>by rw [(gS.rows x hx).2.1];exact hn)
 exact (gS.rows x hx).2.2 _ hv
theorem tremP_take {l:Lw} {R:List (List Snd)} {g:List Int} {k:Nat} (hk:k < notesP R):(tremP l R g).take (k+1)=(tremP l R g).take k++[keepsP l (l.first+l.step * (k:Int)) (voicesP R g k)]:=by
 unfold tremP
 rw [List.take_add_one,List.getElem?_map,List.getElem?_range hk]
 rfl
theorem tremP_length (l:Lw) (R:List (List Snd)) (g:List Int):(tremP l R g).length=notesP R:=by simp [tremP]
def tremE (l:Lw) (R:List (List Snd)) (g:List Int):List Int×Int:=if checkR l R g=0 then (tremP l R g,0) else ([],checkR l R g)
theorem voices_any (l:Lw) (A:Option Addr) (c:Nat) (LL:List LS) (G:Option Addr) (d:Nat) (g:List Int) (nt:Nat) (w:World) (hA:Rd w w.heap.size 1 A LL.length (lsC LL)) (hE:ElsS w LL) (nL:LL.length≤1000000) (nE:∀ x∈LL,x.1.length≤1000000) (hG:Rd w w.heap.size 1 G g.length (ic g)) (nG:g.length≤1000000) (hg:∀ r∈g,0≤r∧r < LL.length) (hn:∀ x∈LL,nt < x.1.length) :
   Calls prog 89 #[.agg #[Zi l.first,Zi l.step,Zi l.span,Zi l.press,.slice A LL.length c,.slice G g.length d],Zi (nt:Int)] w (VoicesPost (voicesP (rowsOf LL) g nt) w):=by
 obtain ⟨bA,oA,SA⟩:=Sp.old hA
 obtain ⟨bG,oG,SG⟩:=Sp.old hG
 refine Zpx noEx func89 Z 29 Z [.agg #[Zi l.first,Zi l.step,Zi l.span,Zi l.press,.slice A LL.length c,.slice G g.length d],Zi (nt:Int)] Z Z (Mem.init w _) ?_
 intro ac wc T M
 refine Zsr ?_
 refine Zl2 ?_
 refine Zob M T Z Z Z Z (T.e 0 Z) Z ?_;clear M T;intro g1 wc ac M T
 refine lq T (Zra Z evc) ?_;intro ac T
 replace T:=T.pick [1,3] rfl
 refine Zln ?_
 refine Zsr ?_
 refine lq T (Zra Z evc) ?_;intro ac T
 refine Zln ?_
 refine wp_seq ?_
 refine Zsr ?_
 refine Zg4 (v1:=(.pointer (some ⟨g1,5,none⟩))) T (Zq (Zrg 5 Z (T.e 1 Z))) Z (Zo M 0 0 Z Z Z Z) Z (Zl underlying31 0 Z Z) Z (fun _ T=>Zq (Zrm Z evc)) Z ?_;intro ac T
 replace T:=T.pick [0,1,2,4,5,6] rfl
 refine Zln ?_
 refine wp_block ?_
 refine wp_loop_n (fun mz ac wc=>∃ (k:Nat) (OL:List Snd) (A3:Option Addr) (c3:Nat) (Io:List (Nat×BA)),mz=g.length - k∧(k≤g.length)∧(OL=voicesP (rowsOf LL) (g.take k) nt)∧(OL.length=k)∧(Sl 77 4 (.slice A3 OL.length c3) OL.length (sc OL) Io)∧Tm ac 29 [(1,Zi (nt:Int)),(2,Zj g1),(5,.slice A3 OL.length c3),(9,.slice G g.length d),(10,Zi ((g.length:Nat):Int)),(11,Zi (k:Int))]∧Mem w noEx wc ((g1,.cells [Zi l.first,Zi l.step,Zi l.span,Zi l.press,.slice A LL.length c,.slice G g.length d])::Io)) ?_ ?_
 ·exact ⟨_,0,[],none,0,[],Z,(Nat.zero_le _),Z,Z,(Sl.nil _ _),T.pick [5,4,3,2,1,0] Z,M.mask [true] Z⟩
 clear T M
 rintro mz ac wc ⟨k,OL,A3,c3,Io,hmm1,hk,hO,hOl,hsl,T,M⟩
 refine Zsr ?_
 refine lq T (rn_lss Z (T.e 5 Z) (T.e 4 Z)) ?_;intro ac T
 refine Zln ?_
 refine wp_seq ?_
 refine wp_if (T.e 0 Z) ?_ ?_
 ·intro h1
  obtain ⟨r,hkr,-⟩:=ic_next (l:=g) (k:=k) (by omega)
  have hrb:=hg r (List.mem_of_getElem? hkr)
  obtain ⟨rk,hrk⟩:∃ q:Nat,r=(q:Int):=⟨r.toNat,by omega⟩
  obtain ⟨⟨x1,B1,d1⟩,hk1⟩:∃ x,LL[rk]? = some x:=⟨_,List.getElem?_eq_getElem (by omega)⟩
  obtain ⟨bs1,os1,Ss1⟩:=Sp.old (hE _ (List.mem_of_getElem? hk1))
  dsimp only at Ss1
  have nx1:=nE _ (List.mem_of_getElem? hk1)
  dsimp only at nx1
  have hnt:=hn _ (List.mem_of_getElem? hk1)
  dsimp only at hnt
  obtain ⟨y,hky,-⟩:=sc_next (l:=x1) (k:=nt) hnt
  have hvp:=voiceP_at hk1 hrk hky
  refine Zsk ?_
  refine wp_seq ?_
  refine wp_block ?_
  refine Zsr ?_
  refine Zg3 T (Zq (Zri (size:=1) k Z (T.e 4 Z) (T.e 6 Z) ⟨_,underlying31,by kernel_rfl⟩ Z (by omega) (SG.at0 (by omega)))) Z (fun _ T=>Zq (rn_cell (Sp.ic0 SG M (Zz9 _) hkr) Z (T.e 0 Z))) Z (Za 0 Z Z) Z ?_;intro ac T
  replace T:=T.pick [0,4,5,6,7,8,9] rfl
  refine Zln ?_
  refine wp_region_lit ?_
  refine Zg8 (v2:=(Zj g1)) (v3:=(.pointer (some ⟨g1,4,none⟩))) (v7:=(.slice B1 x1.length d1)) T (Zq (Zrm Z (T.e 3 Z))) Z (Zf 0 3 Z Z) Z (Zf 4 0 Z Z) Z (Zo M 0 0 Z Z Z Z) Z (Zm 4 Z Z) Z (fun _ T=>Zq (Zri (size:=1) rk Z (T.e 1 Z) (T.e 0 Z) ⟨_,underlying66,by kernel_rfl⟩ hrk (by omega) (SA.at0 (by omega)))) Z (fun _ T=>Zq (rn_cell (Sp.ls0 SA M (Zz9 _) hk1) Z (T.e 0 Z))) Z (Zm 8 Z Z) Z ?_;intro ac T
  refine Zg2 (v2:=(.agg #[Zi y.t0,Zi y.t1,Zi y.s0,Zi y.s1])) T (Zq (Zri (size:=4) nt Z (T.e 1 Z) (T.e 0 Z) ⟨_,underlying24,by kernel_rfl⟩ Z (by omega) (Ss1.at0 (by omega)))) Z (fun _ T=>Zq (rn_rowat (Sp.scR4 Ss1 M (Zz9 _) hky) Z (T.e 0 Z) Z)) Z ?_;intro ac T
  refine Zl2 ?_
  refine ow_bs (e:=77) [Zi y.t0,Zi y.t1,Zi y.s0,Zi y.s1] M T Z Z Z Z (.cons (T.e 0 Z) .nil) (fun _=>by kernel_rfl) ?_;clear M T;intro g2 wc ac M T
  refine Zl2 ?_
  refine ow_app ([(g2,.cells [Zi y.t0,Zi y.t1,Zi y.s0,Zi y.s1]),(g1,.cells [Zi l.first,Zi l.step,Zi l.span,Zi l.press,.slice A LL.length c,.slice G g.length d])]) Tryz.info77 hsl M (by first | rfl | simp) T Z Z Z Z underlying24 Z Z Z (by omega) (T.e 10 Z) (T.e 0 Z) (Zne (i:=0) Z) Z Z ?_;clear M T;intro ga1 cga1 wc ac M T
  refine l_q (v:=(.slice (some ⟨ga1,0,none⟩) (OL.length+1) cga1)) (T.pick [0,1,2,3,4,5,6,7,8,9,10,11,12,13,14,16,17,18] Z) Z Z Z Z (Zra Z (T.e 0 Z)) ?_;intro ac T
  refine wpList_nil ?_
  replace T:=T.pick [0,14,15,16,17,18] rfl
  replace M:=M.mask [true,false,true] rfl
  refine Znb ?_
  refine nm_then ?_
  refine wp_region_lit ?_
  refine lq T (rn_add Z (T.e 5 Z) evc (by omega)) ?_;intro ac T
  refine l_q (v:=(Zi ((k:Int)+1))) (T.pick [0,1,2,3,4,5] Z) Z Z Z Z (Zrm Z (T.e 0 Z)) ?_;intro ac T
  replace T:=T.pick [0,2,3,4,5,6] rfl
  refine Zln ?_
  have e9:OL.length+1=(OL++[y]).length:=by simp
  have e8:((sc OL)++[Zi y.t0,Zi y.t1,Zi y.s0,Zi y.s1])=sc (OL++[y]):=by rw [← sc_snoc]
  rw [e9,e8] at M
  rw [e9] at T
  clear e9 e8
  exact ⟨_,by omega,k+1,(OL++[y]),_,_,[(ga1,.row 77 4 (OL++[y]).length (sc (OL++[y])) cga1)],Z,(by omega),(by rw [voicesP_take hkr,← hO,hvp]),(by simp [hOl]),(Sl.row _ _ _ _ _ _),T.pick [2,3,1,4,5,0] Z,((M.permT [1,0] 2 Z Z Z Z).sub (Zsl ([(g1,.cells [Zi l.first,Zi l.step,Zi l.span,Zi l.press,.slice A LL.length c,.slice G g.length d]),(ga1,.row 77 4 (OL++[y]).length (sc (OL++[y])) cga1)]:List (Nat×BA)) _))⟩
 intro h1
 rw [List.take_of_length_le (by omega)] at hO
 refine wp_exit ?_
 refine Zet ?_
 refine Zet ?_
 refine ex_hit ?_
 refine nm_then ?_
 refine Zsr ?_
 refine Zg2 T (Zq (Zrm Z (T.e 3 Z))) Z (Za 0 Z Z) Z ?_;intro ac T
 refine wpList_nil ?_
 replace T:=T.pick [0] rfl
 replace M:=M.mask [false] rfl
 refine Znr ?_
 refine rt_1 T Z (T.e 0 Z) ?_
 obtain ⟨b9,o9,h9⟩:=hsl.spV (sc_length _)
 rw [← hO]
 exact ⟨A3,c3,Io,Z,⟨b9,o9,h9⟩,M.mask [] Z⟩
theorem Tremolo_any (l:Lw) (A:Option Addr) (c:Nat) (LL:List LS) (G:Option Addr) (d:Nat) (g:List Int)  (w:World) (hA:Rd w w.heap.size 1 A LL.length (lsC LL)) (hE:ElsS w LL) (nL:LL.length≤1000000) (nE:∀ x∈LL,x.1.length≤1000000) (hG:Rd w w.heap.size 1 G g.length (ic g)) (nG:g.length≤1000000)  :
   Calls prog 28 #[.agg #[Zi l.first,Zi l.step,Zi l.span,Zi l.press,.slice A LL.length c],.slice G g.length d] w (LEPost (tremE l (rowsOf LL) g).1 (tremE l (rowsOf LL) g).2 w):=by
 obtain ⟨bA,oA,SA⟩:=Sp.old hA
 obtain ⟨bG,oG,SG⟩:=Sp.old hG
 refine Zpx noEx func28 Z 39 Z [.agg #[Zi l.first,Zi l.step,Zi l.span,Zi l.press,.slice A LL.length c],.slice G g.length d] Z Z (Mem.init w _) ?_
 intro ac wc T M
 refine Zsr ?_
 refine Zl2 ?_
 refine Zob M T Z Z Z Z (T.e 0 Z) Z ?_;clear M T;intro g1 wc ac M T
 refine Zg2 T (Zq (Zra Z evc)) Z (Zc Z) Z ?_;intro ac T
 replace T:=T.pick [2,4] rfl
 refine Zln ?_
 refine wp_seq ?_
 refine Zsr ?_
 refine Zg2 T (Zq (Zrr (Mem.nth M 0 Z) Z (T.e 0 Z) Z)) Z (Zm 2 Z Z) Z ?_;intro ac T
 refine Zl2 ?_
 refine Zod T Z Z Z Z evf (.cons (T.e 1 Z) (.cons (T.e 0 Z) .nil)) func85 Z Z ?_
 refine Calls.mono (checkRegister_any l A c LL G d g _ (SA.rd M (Zz9 _)) (fun x hx=>M.rd (hE x hx) (Nat.le_refl _)) (by omega) nE (SG.rd M (Zz9 _)) (by omega)) ?_
 clear T;rintro e wc ⟨rfl,hb⟩ ac T
 replace M:=M.call hb;clear hb
 refine lq T (Zra Z (T.e 0 Z)) ?_;intro ac T
 replace T:=T.pick [0,4,5] rfl
 refine Zln ?_
 refine Zsr ?_
 refine Zg2 T (Zq (Zrm Z (T.e 0 Z))) Z (fun _ T=>Zq (rn_neq Z (T.e 0 Z) evc)) Z ?_;intro ac T
 replace T:=T.pick [0,2,3,4] rfl
 refine Zln ?_
 refine wp_ifn (T.e 0 Z) ?_ ?_
 ·intro h1
  refine Zsr ?_
  refine Zg3 T (Zq (Zrm Z (T.e 1 Z))) Z (Zc Z) Z (Za 1 Z Z) Z ?_;intro ac T
  refine wpList_nil ?_
  replace T:=T.pick [0,1] rfl
  replace M:=M.mask [false] rfl
  refine Znr ?_
  refine Zrt ?_
  refine rt_2 T Z (T.e 1 Z) (T.e 0 Z) ?_
  have e9:tremE l (rowsOf LL) g=([],checkR l (rowsOf LL) g):=by unfold tremE;rw [if_neg (by simpa using h1)]
  rw [e9]
  exact LEPost.nil Z M
 intro h1
 obtain ⟨gS,gR⟩:=checkR_good (l:=l) (R:=rowsOf LL) (g:=g) (by simpa using h1)
 have hgL:∀ r∈g,0≤r∧r < LL.length:=fun r hr=>by have:=gR r hr;rw [show (rowsOf LL).length=LL.length by simp] at this;exact this
 have hNL:∀ x∈LL,x.1.length=notesP (rowsOf LL):=fun x hx=>(gS.rows x.1 (List.mem_map.2 ⟨x,hx,rfl⟩)).2.1
 have hN6:=gS.notes
 have ⟨gl1,gl2,gl3,gl4⟩:=gS.law
 refine Zsk ?_
 refine Zsr ?_
 refine Zg3 (v3:=(.agg #[Zi l.first,Zi l.step,Zi l.span,Zi l.press,.slice A LL.length c,.slice G g.length d])) T (Zq (Zrr (Mem.nth M 0 Z) Z (T.e 2 Z) Z)) Z (Zm 4 Z Z) Z (fun _ T=>Zq (rn_build Z (.cons (T.e 1 Z) (.cons (T.e 0 Z) .nil)) (fun _=>by kernel_rfl))) Z ?_;intro ac T
 refine Zl2 ?_
 refine Zoa M T Z Z Z Z ?_;clear M T;intro g2 wc ac M T
 refine Zl2 ?_
 refine Zot M T Z Z (T.e 0 Z) (T.e 1 Z) Z .head Z Z ?_;clear M T;intro wc ac M T
 replace T:=T.pick [0,6] rfl
 refine Zln ?_
 refine Zsr ?_
 refine lq T (Zra Z evc) ?_;intro ac T
 refine Zln ?_
 refine wp_seq ?_
 refine Zsr ?_
 refine lq T (Zrr (Mem.nth M 1 Z) Z (T.e 2 Z) Z) ?_;intro ac T
 refine Zl2 ?_
 refine Zod T Z Z Z Z evf (.cons (T.e 0 Z) .nil) func86 Z Z ?_
 refine Calls.mono (notes_any l A c LL _ (SA.rd M (Zz9 _)) (fun x hx=>M.rd (hE x hx) (Nat.le_refl _)) (by omega) nE) ?_
 clear T;rintro e wc ⟨rfl,hb⟩ ac T
 replace M:=M.call hb;clear hb
 refine lq T (Zrm Z evc) ?_;intro ac T
 replace T:=T.pick [0,1,3,4,5] rfl
 refine Zln ?_
 refine wp_block ?_
 refine wp_loop_n (fun mz ac wc=>∃ (k:Nat) (OL:List Int) (A3:Option Addr) (c3:Nat) (Io:List (Nat×BA)),mz=notesP (rowsOf LL) - k∧(k≤notesP (rowsOf LL))∧(OL=(tremP l (rowsOf LL) g).take k)∧(OL.length=k)∧(Sl 3 1 (.slice A3 OL.length c3) OL.length (ic OL) Io)∧Tm ac 39 [(2,Zj g1),(7,Zj g2),(8,.slice A3 OL.length c3),(20,Zi ((notesP (rowsOf LL):Nat):Int)),(21,Zi (k:Int))]∧Mem w noEx wc ((g2,.cells [Zi l.first,Zi l.step,Zi l.span,Zi l.press,.slice A LL.length c,.slice G g.length d])::(g1,.cells [Zi l.first,Zi l.step,Zi l.span,Zi l.press,.slice A LL.length c])::Io)) ?_ ?_
 ·exact ⟨_,0,[],none,0,[],Z,(Nat.zero_le _),Z,Z,(Sl.nil _ _),T.pick [4,3,2,1,0] Z,M.mask [true,true] Z⟩
 clear T M
 rintro mz ac wc ⟨k,OL,A3,c3,Io,hmm1,hk,hO,hOl,hsl,T,M⟩
 refine Zsr ?_
 refine lq T (rn_lss Z (T.e 4 Z) (T.e 3 Z)) ?_;intro ac T
 refine Zln ?_
 refine wp_seq ?_
 refine wp_if (T.e 0 Z) ?_ ?_
 ·intro h2
  have gd:=gS.dues k (by omega)
  simp only [dueO,decide_eq_true_eq] at gd
  refine Zsk ?_
  refine wp_seq ?_
  refine wp_block ?_
  refine Zsr ?_
  refine Zg2 T (Zq (Zrm Z (T.e 5 Z))) Z (Za 0 Z Z) Z ?_;intro ac T
  replace T:=T.pick [0,3,4,5,6,7] rfl
  refine Zln ?_
  refine Zgs M (M.perm [0,1] Z Z) 14 (by kernel_rfl) Z (by kernel_rfl) ?_
  clear M;intro wc M
  refine Zgq T 0 1 Z (fun _=>(Zrm Z (T.e 3 Z))) ?_;intro ac T
  refine Zgq (v:=(Zj g1)) T 1 3 Z (fun _=>(Zrg 0 Z (T.e 2 Z))) ?_;intro ac T
  refine gq T 2 7 Z (fun B w' hD hl hS=>(Zrr (Mem.nth (show Mem w noEx w' _ from hS) 1 Z) Z (T.e 0 Z) Z)) ?_;intro ac T
  refine Zgq (v:=(Zj g1)) T 3 15 Z (fun _=>(Zrg 0 Z (T.e 4 Z))) ?_;intro ac T
  refine gq T 4 31 Z (fun B w' hD hl hS=>(Zrr (Mem.nth (show Mem w noEx w' _ from hS) 1 Z) Z (T.e 0 Z) Z)) ?_;intro ac T
  refine Zgq T 5 63 Z (fun _=>(Zrm Z (T.e 5 Z))) ?_;intro ac T
  refine gq T 7 191 Z (fun B w' hD hl hS=>(Zrr (Mem.nth (show Mem w noEx w' _ from hS) 0 Z) Z (T.e 8 Z) Z)) ?_;intro ac T
  refine Zgq T 8 447 Z (fun _=>(Zrm Z (T.e 7 Z))) ?_;intro ac T
  refine gw 6 511 ?_;intro K hK
  refine Zod T Z Z Z Z evf (.cons (T.e 3 Z) (.cons (T.e 2 Z) .nil)) func88 Z Z ?_
  refine Calls.mono (vdue_any l (k:Int) _ (by (try dsimp only);omega) (by (try dsimp only);omega) (by (try dsimp only);omega)) ?_
  clear T;rintro e wc ⟨rfl,hb⟩ ac T
  replace M:=M.call hb;clear hb
  refine Zso hK _ _ (M.perm [0,1] Z Z) ?_;clear hK K
  refine gw 9 1023 ?_;intro K hK
  refine Zod T Z Z Z Z evf (.cons (T.e 2 Z) (.cons (T.e 1 Z) .nil)) func89 Z Z ?_
  refine Calls.mono (voices_any l A c LL G d g k _ (SA.rd M (Zz9 _)) (fun x hx=>M.rd (hE x hx) (Nat.le_refl _)) (by omega) nE (SG.rd M (Zz9 _)) (by omega) hgL (by intro x hx;rw [hNL x hx];omega)) ?_
  clear T;rintro e wc ⟨Au4,cu4,Iu4,rfl,SVu4,N⟩ ac T
  obtain ⟨bu4,ou4,SVu4⟩:=SVu4
  obtain ⟨lvu4,hlvu4⟩:∃ q,q=voicesP (rowsOf LL) g k:=⟨_,rfl⟩
  rw [← hlvu4] at SVu4
  have Su4:=SVu4 w noEx
  have nvu4:lvu4.length=g.length:=by rw [hlvu4];simp [voicesP]
  have gvu4:∀ z∈lvu4,z.good:=by rw [hlvu4];exact voicesP_good gS gR (by omega)
  replace M:=(M.join N).swapI
  clear N
  replace M:Mem w noEx wc ((g2,.cells [Zi l.first,Zi l.step,Zi l.span,Zi l.press,.slice A LL.length c,.slice G g.length d])::(g1,.cells [Zi l.first,Zi l.step,Zi l.span,Zi l.press,.slice A LL.length c])::(Iu4++Io)):=Mem.spin [(g2,.cells [Zi l.first,Zi l.step,Zi l.span,Zi l.press,.slice A LL.length c,.slice G g.length d]),(g1,.cells [Zi l.first,Zi l.step,Zi l.span,Zi l.press,.slice A LL.length c])] Io Iu4 M
  rw [← hlvu4] at T
  refine Zso hK _ _ (M.perm [0,1] Z Z) ?_;clear hK K
  refine gw 10 2047 ?_;intro K hK
  refine Zod T Z Z Z Z evf (.cons (T.e 7 Z) (.cons (T.e 1 Z) (.cons (T.e 0 Z) .nil))) func87 Z Z ?_
  refine Calls.mono (keeps_any l (l.first+l.step * (k:Int)) _ _ _ lvu4 _ (by (try dsimp only);omega) (by (try dsimp only);omega) (by (try dsimp only);omega) gvu4 (Su4.rd M (.cons _ (.cons _ (subL (List.Sublist.refl _))))) (by first | omega | (simp only [Zx1,Zx2];omega))) ?_
  clear T;rintro e wc ⟨rfl,hb⟩ ac T
  replace M:=M.call hb;clear hb
  refine Zso hK _ _ (M.perm [0,1] Z Z) ?_;clear hK K
  refine gw 11 4095 ?_;intro K hK
  refine ow_bs (e:=3) [Zi (keepsP l (l.first+l.step * (k:Int)) lvu4)] M T Z Z Z Z (.cons (T.e 0 Z) .nil) (fun _=>by kernel_rfl) ?_;clear M T;intro g3 wc ac M T
  refine Zso hK _ _ (M.perm [1,2] Z Z) ?_;clear hK K
  refine gw 12 8191 ?_;intro K hK
  refine ow_app (((g3,.cells [Zi (keepsP l (l.first+l.step * (k:Int)) lvu4)])::(g2,.cells [Zi l.first,Zi l.step,Zi l.span,Zi l.press,.slice A LL.length c,.slice G g.length d])::(g1,.cells [Zi l.first,Zi l.step,Zi l.span,Zi l.press,.slice A LL.length c])::Iu4)) Tryz.info3 hsl M (by first | rfl | simp) T Z Z Z Z underlying31 Z Z Z (by omega) (T.e 11 Z) (T.e 0 Z) (Zne (i:=0) Z) Z Z ?_;clear M T;intro ga1 cga1 wc ac M T
  refine Zso hK _ _ (M.perm [2,3] Z Z) ?_;clear hK K
  refine g_q (v:=(.slice (some ⟨ga1,0,none⟩) (OL.length+1) cga1)) (T:=T.pick [0,1,2,3,4,5,6,7,8,9,10,11,12,13,14,15,17,18] Z) (i:=13) Z (by kernel_rfl) (by kernel_rfl:(Zpb 14 8191).setIfInBounds 13 true=Zpb 14 16383) si_U (fun _ _ _ h=>h) Z Z Z Z (fun _ _ _ _ _=>(Zra Z (T.e 0 Z))) ?_;intro ac T
  refine Zgd (by kernel_rfl) ?_
  replace T:=T.pick [0,15,16,17,18] rfl
  replace M:=M.mask [true,false,true,true] rfl
  refine Znb ?_
  refine nm_then ?_
  refine wp_region_lit ?_
  refine lq T (rn_add Z (T.e 4 Z) evc (by omega)) ?_;intro ac T
  refine l_q (v:=(Zi ((k:Int)+1))) (T.pick [0,1,2,3,4] Z) Z Z Z Z (Zrm Z (T.e 0 Z)) ?_;intro ac T
  replace T:=T.pick [0,2,3,4,5] rfl
  refine Zln ?_
  have e9:OL.length+1=(OL++[(keepsP l (l.first+l.step * (k:Int)) lvu4)]).length:=by simp
  have e8:((ic OL)++[Zi (keepsP l (l.first+l.step * (k:Int)) lvu4)])=ic (OL++[(keepsP l (l.first+l.step * (k:Int)) lvu4)]):=by rw [← ic_snoc]
  rw [e9,e8] at M
  rw [e9] at T
  clear e9 e8
  exact ⟨_,by omega,k+1,(OL++[(keepsP l (l.first+l.step * (k:Int)) lvu4)]),_,_,[(ga1,.row 3 1 (OL++[(keepsP l (l.first+l.step * (k:Int)) lvu4)]).length (ic (OL++[(keepsP l (l.first+l.step * (k:Int)) lvu4)])) cga1)],Z,(by omega),(by rw [tremP_take (by omega),← hO,hlvu4]),(by simp [hOl]),(Sl.row _ _ _ _ _ _),T.pick [2,3,1,4,0] Z,((M.permT [1,2,0] 3 Z Z Z Z).sub (Zsl ([(g2,.cells [Zi l.first,Zi l.step,Zi l.span,Zi l.press,.slice A LL.length c,.slice G g.length d]),(g1,.cells [Zi l.first,Zi l.step,Zi l.span,Zi l.press,.slice A LL.length c]),(ga1,.row 3 1 (OL++[(keepsP l (l.first+l.step * (k:Int)) lvu4)]).length (ic (OL++[(keepsP l (l.first+l.step * (k:Int)) lvu4)])) cga1)]:List (Nat×BA)) _))⟩
 intro h2
 rw [List.take_of_length_le (by rw [tremP_length];omega)] at hO
 refine wp_exit ?_
 refine Zet ?_
 refine Zet ?_
 refine ex_hit ?_
 refine nm_then ?_
 refine Zsr ?_
 refine Zg3 T (Zq (Zrm Z (T.e 3 Z))) Z (Za 0 Z Z) Z (Zc Z) Z ?_;intro ac T
 refine wpList_nil ?_
 replace T:=T.pick [0,1] rfl
 replace M:=M.mask [false,false] rfl
 refine Znr ?_
 refine rt_2 T Z (T.e 1 Z) (T.e 0 Z) ?_
 have e9:tremE l (rowsOf LL) g=(OL,0):=by unfold tremE;rw [if_pos (by simpa using h1),hO]
 rw [e9]
 obtain ⟨b9,o9,h9⟩:=hsl.spV (by rw [ic_length];omega)
 exact ⟨A3,c3,Io,Z,by show OL.length≤6;omega,⟨b9,o9,h9⟩,M.mask [] Z⟩
abbrev gmA (j:Jb) (A:Option Addr) (c:Nat) (s0 s1:Int) (bg bx:Nat):List Value:=[.int .i64 j.p0,.int .i64 j.p1,.int .i64 j.t0,.int .i64 j.t1,.int .i64 j.r0,.int .i64 j.r1,.int .i64 j.u0,.int .i64 j.u1,.int .i64 j.d0,.int .i64 j.d1,.int .i64 j.a0,.int .i64 j.a1,.int .i64 j.b0,.int .i64 j.b1,.int .i64 j.le,.slice A j.sh.length c,.int .i64 j.wi,.int .i64 j.me,.int .i64 s0,.int .i64 s1,.func (.func 206) #[] #[.pointer (some ⟨bg,0,none⟩),.pointer (some ⟨bx,0,none⟩)]]
def PlayPost (j:Jb) (A:Option Addr) (c:Nat) (s0 s1:Int) (ok:Value→Value→Prop) (w:World) (e:Ending) (w':World):Prop :=
 ∃ bg bx bm,e=.returned (.agg (gmA j A c s0 s1 bg bx).toArray)∧Mem w noEx w' [(bx,.cells [.map (some bm)]),(bm,.any (memoQ prog 247 ok)),(bg,.cells (gmA j A c s0 s1 bg bx))]
theorem play_any (ok:Value→Value→Prop) (j:Jb) (A:Option Addr) (c:Nat) (w:World) (hj:j.ok) (hr:Rd w w.heap.size 2 A j.sh.length (rc j.sh)) :
  Calls prog 158 #[jobV j A c] w (PlayPost j A c (winS j).1 (winS j).2 ok w):=by
 have HR:=Lib.hid hr
 have HJ:=Lib.hid hj
 clear hr hj
 go_enter func158,Tryz.ntmps158
 refine start noEx ?_
 intro wc M
 go_wp2_with (first | (refine Zm1 M rfl rfl rfl ?_) | (refine Zm2 M rfl rfl rfl ?_) | (refine Zm3 M rfl rfl rfl ?_;clear M;(try clear wc);intro wc M) | (refine m_al M rfl rfl ?_;clear M;(try clear wc);intro g wc M) | (refine Zm4 M rfl rfl ?_;clear M;(try clear wc);intro g wc M) | (go_at_call 205;((with_reducible refine (windows_any j _ _ _ HJ.out ?_).mono ?_);(exact M.rd HR.out (Nat.le_refl _));rintro e wc ⟨rfl,hb⟩;replace M:=M.call hb;clear hb)) | (refine mm ok underlying301 M rfl rfl ?_;clear M;(try clear wc);intro g wc M))
 refine ret_M (t:=2) (ty:=243) M Z Z Z (by (repeat' (first | exact Zz2 | refine Zz1 ?_))) (by rfl) ?_
 rename_i g5 g4 wq g3 g2 g1 g0
 exact ⟨g1,g,g0,Z,M.sub (by (repeat (first | exact List.Sublist.slnil | apply List.Sublist.cons_cons | apply List.Sublist.cons)))⟩
section
open Go.RowKit Go.Shelf
attribute [local go_sem] Oper.semAt_some
def rdg (p0 p1 m:Int) (k:Nat):Int×Int:=mstep (p0,p1) (p0 - m+k - m,p0 - m+k+m)
def rdN (p0 p1 m:Int):Nat:=(p1+m - (p0 - m)+1).toNat
def rdgs (p0 p1 m:Int):List (Int×Int):=(List.range (rdN p0 p1 m)).map (rdg p0 p1 m)
theorem rdgs_length (p0 p1 m:Int):(rdgs p0 p1 m).length=rdN p0 p1 m:=by simp [rdgs]
theorem rdgs_take (p0 p1 m:Int) (k:Nat) (h:k < rdN p0 p1 m):(rdgs p0 p1 m).take (k+1)=(rdgs p0 p1 m).take k++[rdg p0 p1 m k]:=by
 rw [List.take_succ_eq_append_getElem (by rw [rdgs_length];exact h)]
 simp [rdgs]
theorem rdg_bd {p0 p1 m B:Int} {k:Nat} (h:k < rdN p0 p1 m) (h0 : -B≤p0∧p0≤B) (h1 : -B≤p1∧p1≤B) (hm:0≤m):(-B≤(rdg p0 p1 m k).1∧(rdg p0 p1 m k).1≤B)∧(-B≤(rdg p0 p1 m k).2∧(rdg p0 p1 m k).2≤B):=by
 unfold rdN at h
 unfold rdg mstep
 refine ⟨?_,?_⟩
 · dsimp only;split <;> omega
 · dsimp only;split <;> omega
abbrev Rg (B:Int):={ x:Int×Int // (-B≤x.1∧x.1≤B)∧(-B≤x.2∧x.2≤B) }
def Kp (n0 bm:Nat) (W W':World):Prop:=W.heap.size≤W'.heap.size∧∀ b,b < n0→b≠bm→W'.heap[b]? = W.heap[b]?
theorem Kp.t {n0 bm:Nat} {A B C:World} (h:Kp n0 bm A B) (k:Kp n0 bm B C):Kp n0 bm A C:=⟨Nat.le_trans h.1 k.1,fun b hb hx=>(k.2 b hb hx).trans (h.2 b hb hx)⟩
theorem Kp.bk {n0 bm g:Nat} {W W':World} {cs:Array Value} (h:Kp n0 bm W W') (hB:Bk W g cs) (hg:g < n0) (hx:g≠bm):Bk W' g cs :=
 ⟨Nat.lt_of_lt_of_le hB.lt h.1,fun o=>(World.cell?_of_block (w:=W) (a:=⟨g,o,none⟩) (h.2 g hg hx)).trans (hB.cell o),fun o=>(World.frozen?_of_block (w:=W) (a:=⟨g,o,none⟩) (h.2 g hg hx)).trans (hB.frozen o)⟩
theorem grown_of_below {w w':World} (h:Below w.heap.size w w'):w.grownBy w' none:=⟨h.os,h.tape,h.output,h.size,fun k hk _=>h.block k hk⟩
theorem meet_one (p0 p1 m:Int) (k c g:Nat) (w:World) (hr:Rd w w.heap.size 2 (some ⟨g,0,none⟩) 1 (rc [(p0 - m+(k:Int) - m,p0 - m+(k:Int)+m)])) :
  Calls prog 234 #[R2 p0 p1,.slice (some ⟨g,0,none⟩) 1 c] w fun e w'=>e=.returned (R2 (rdg p0 p1 m k).1 (rdg p0 p1 m k).2)∧Below w.heap.size w w' :=
 meet_any p0 p1 _ 1 c [(p0 - m+(k:Int) - m,p0 - m+(k:Int)+m)] w hr (by omega)
theorem readings1_in (n : Nat) (hn : 2 ≤ n) (l b1 b2 n0 bm : Nat) (p0 p1 m B : Int) (hB0 : 0 ≤ B) (hB1 : B ≤ 100000) (h0 : -B ≤ p0 ∧ p0 ≤ B) (h1 : -B ≤ p1 ∧ p1 ≤ B) (hm0 : 0 ≤ m) (hm1 : m ≤ 100) (hb1 : b1 < n0) (hb2 : b2 < n0) (hx1 : b1 ≠ bm) (hx2 : b2 ≠ bm)
   (J Jx:List (Rg B)→World→Prop) (W:World) (hJ:AbidesFrom W.heap.size J)
   (hY:∀ pre x W1,J pre W1→pre.length < rdN p0 p1 m→YieldAt Fence.wide (n - 1) prog l #[R2 x.1.1 x.1.2] W1 fun e W' =>
     (e=.returned (.bool true)∧J (pre++[x]) W'∧Kp n0 bm W1 W')∨(e=.returned (.bool false)∧Jx (pre++[x]) W'))
   (q1:Bk W b1 #[.int .i64 p0,.int .i64 p1]) (q2:Bk W b2 #[.int .i64 m]) (hJ0:J [] W) :
   CallsIn Fence.wide n prog 236 #[.func (.yield l) #[] #[],.pointer (some ⟨b1,0,none⟩),.pointer (some ⟨b2,0,none⟩)] W fun e W'=>(∃ v,e=.returned v) ∧
     ((∃ xs:List (Rg B),xs.map (·.1)=rdgs p0 p1 m∧J xs W')∨(∃ pre:List (Rg B),pre.map (·.1) <+: rdgs p0 p1 m∧Jx pre W')):=by
 refine callsIn_of_wp func236 Z trivial ?_ Z
 simp only [Tryz.ntmps236,List.size_toArray,Zx1,Zx2,Nat.reduceAdd,Nat.reduceSub,Array.replicate_succ,Array.replicate_zero,List.push_toArray,List.append_toArray,Zx5,Zx6]
 have c1:=q1.cell
 have c2:=q2.cell
 have hn1:1≤n:=by omega
 gi_wp2
 gi_loopw [4] (fun v wr=>∃ (k:Nat) (pre:List (Rg B)),k≤rdN p0 p1 m∧v=.int .i64 (p0 - m+(k:Int))∧Hid (pre.map (·.1)=(rdgs p0 p1 m).take k)∧Bk wr b1 #[.int .i64 p0,.int .i64 p1]∧Bk wr b2 #[.int .i64 m]∧W.heap.size≤wr.heap.size∧J pre wr) (fun v _=>(p1+m+1 - intOf v).toNat)
 case atStart=>exact ⟨0,[],Nat.zero_le _,by simp,by (show _=_;simp),q1,q2,Nat.le_refl _,hJ0⟩
 case round =>
   clear c1 c2
   obtain ⟨k,pre,hk,rfl,hpre,r1,r2,hz,hj⟩:=hrel
   have c1:=r1.cell
   have c2:=r2.cell
   have z1:=r1.lt
   have z2:=r2.lt
   by_cases hlt:k < rdN p0 p1 m
   · have hle:p0 - m+(k:Int)≤p1+m:=by unfold rdN at hlt;omega
     have HX:=Lib.hid (rdg_bd hlt h0 h1 hm0)
     have HT:=Lib.hid (rdgs_take p0 p1 m k hlt)
     have hm2:=Lib.hid hlt
     clear hlt
     have hlen:pre.length < rdN p0 p1 m:=by
       have h2:=congrArg List.length hpre.out
       rw [List.length_map,List.length_take,rdgs_length] at h2
       have h3:=hm2.out
       omega
     gi_wp2_with (first | (refine ⟨trivial,?_⟩;gi_at_call 234;refine (callsIn_wide.2 (meet_one p0 p1 m k _ _ _ ?_)).mono ?_;(exact Rd.new _ _ _ _ _ _ rfl (by simp [rc]));rintro e w1 ⟨rfl,hb⟩;have r3:=(r1.alloc _).below hb;have r4:=(r2.alloc _).below hb;have hz3:W.heap.size≤w1.heap.size:=(by have:=hb.size;simp at this;omega);have j3:=hJ _ _ _ none (hJ _ _ _ none hj (World.grownBy_alloc wr _ none) (fun r e=>by cases e)) (grown_of_below hb) (fun r e=>by cases e);clear hb;obtain ⟨fn,tmps,assign,body,hy,hR⟩:=hY pre ⟨rdg p0 p1 m k,HX.out⟩ w1 j3 hlen;dsimp only at hy))
     refine hR.mono ?_
     have HS:Hid ((pre++[(⟨rdg p0 p1 m k,HX.out⟩:Rg B)]).map (·.1)=(rdgs p0 p1 m).take (k+1)):=by (show _=_;rw [List.map_append,hpre.out,HT.out];rfl)
     rintro e W3 (⟨rfl,hJ3,hk3⟩ | ⟨rfl,hJx3⟩)
     · have r5:=hk3.bk r3 hb1 hx1
       have r6:=hk3.bk r4 hb2 hx2
       have hz5:W.heap.size≤W3.heap.size:=Nat.le_trans hz3 hk3.1
       clear hY hy hR
       gi_wp2
       go_roundw
       case rel=>exact ⟨k+1,_,hm2.out,by go_num,HS,r5,r6,hz5,hJ3⟩
       case measure=>simp [intOf];omega
     · clear hY hy hR
       gi_wp2
       refine bodyPost_ret (results_none Z _ _ _) Z ?_
       exact ⟨⟨_,Z⟩,.inr ⟨_,by rw [HS.out];exact List.take_prefix _ _,hJx3⟩⟩
   · have hle : ¬ p0 - m+(k:Int)≤p1+m:=by unfold rdN at hlt;omega
     gi_wp2
     go_end0
     exact ⟨⟨_,Z⟩,.inl ⟨pre,by rw [hpre.out,List.take_of_length_le (by rw [rdgs_length];omega)],hj⟩⟩
theorem readings_stops (n : Nat) (hn : 2 ≤ n) (b1 b2 n0 bm : Nat) (p0 p1 m B : Int) (hB0 : 0 ≤ B) (hB1 : B ≤ 100000) (h0 : -B ≤ p0 ∧ p0 ≤ B) (h1 : -B ≤ p1 ∧ p1 ≤ B) (hm0 : 0 ≤ m) (hm1 : m ≤ 100) (hb1 : b1 < n0) (hb2 : b2 < n0) (hx1 : b1 ≠ bm) (hx2 : b2 ≠ bm) (w : World)
   (q1:Bk w b1 #[.int .i64 p0,.int .i64 p1]) (q2:Bk w b2 #[.int .i64 m]) :
   SeqStopsK (α:=Rg B) Fence.wide n prog 236 #[.pointer (some ⟨b1,0,none⟩),.pointer (some ⟨b2,0,none⟩)] (fun x=>#[R2 x.1.1 x.1.2]) (Kp n0 bm) (fun xs=>xs.map (·.1)=rdgs p0 p1 m) (fun pre=>pre.map (·.1) <+: rdgs p0 p1 m) (rdN p0 p1 m) w :=
 fun l J Jx W hW hJ _ hY hJ0=>readings1_in n hn l b1 b2 n0 bm p0 p1 m B hB0 hB1 h0 h1 hm0 hm1 hb1 hb2 hx1 hx2 J Jx W hJ hY (q1.below hW) (q2.below hW) hJ0
set_option maxHeartbeats 400000 in
theorem readings_any (p0 p1 m:Int) (w:World) :
  Calls prog 209 #[R2 p0 p1,.int .i64 m] w fun e w'=>∃ b1 b2,e=.returned (.func (.func 236) #[] #[.pointer (some ⟨b1,0,none⟩),.pointer (some ⟨b2,0,none⟩)])∧Mem w noEx w' [(b2,.cells [.int .i64 m]),(b1,.cells [.int .i64 p0,.int .i64 p1])]:=by
 go_enter func209,Tryz.ntmps209
 refine start noEx ?_
 intro wc M
 go_wp2_with (first | (refine Zm1 M rfl rfl rfl ?_) | (refine Zm2 M rfl rfl rfl ?_) | (refine Zm3 M rfl rfl rfl ?_;clear M;(try clear wc);intro wc M) | (refine m_al M rfl rfl ?_;clear M;(try clear wc);intro g wc M) | (refine Zm4 M rfl rfl ?_;clear M;(try clear wc);intro g wc M))
 go_ret
 exact ⟨_,_,Z,M⟩
end
end Go.Proofs.YtaikhendogcflaaGreatDoor


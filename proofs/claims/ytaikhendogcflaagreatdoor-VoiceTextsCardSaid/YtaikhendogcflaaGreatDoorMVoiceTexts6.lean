/-
  Walks of functions,and plain laws (texts put together). No condition.
-/
import Derived.Laws.BytesArg
import Derived.Test.YtaikhendogcflaaGreatDoorMVoiceTexts1
import Derived.Test.YtaikhendogcflaaGreatDoorMVoiceTexts2
import Derived.Test.YtaikhendogcflaaGreatDoorMVoiceTexts3
import Derived.Test.YtaikhendogcflaaGreatDoorMVoiceTexts4
import Derived.Test.YtaikhendogcflaaGreatDoorMVoiceTexts5
set_option maxRecDepth 100000
set_option maxHeartbeats 1000000
set_option linter.unusedSimpArgs false
set_option linter.unusedVariables false
namespace Go.Proofs.YtaikhendogcflaaGreatDoor
open Go.Proofs.Tryz
open Go.RowKit
abbrev boxL (b:Bx) (A:Option Addr) (c:Nat) (B:Option Addr) (d:Nat):List Value:=(bxM b (.slice A b.lows.length c) (.slice B b.highs.length d))
set_option maxHeartbeats 4000000 in
theorem vtake0_any (bb:Nat) (b:Bx) (A:Option Addr) (c:Nat) (B:Option Addr) (d:Nat) (X:Option Addr) (cx:Nat) (Y:Option Addr) (cy:Nat) (n0 n1 n2 n3 n4:Int) (w:World) (hq:Bk w bb (Zbr b A c B d)) (hx:Rd w w.heap.size 2 X 0 (rc [])) (hxe:∀ b o,X=some ⟨b,o,none⟩→b≠bb) (hy:Rd w w.heap.size 1 Y 5 (ic [n0,n1,n2,n3,n4])) (hye:∀ b o,Y=some ⟨b,o,none⟩→b≠bb) :
  Calls prog 112 #[Zj bb,.agg #[.slice X 0 cx,.slice Y 5 cy]] w fun e w'=>e=.returned (.tuple #[])∧Mem w (fun b=>b=bb) w' [(bb,.cells [Zi n0,Zi n1,Zi n2,Zi n3,Zi n4,.slice A b.lows.length c,.slice B b.highs.length d,Zi b.t0,Zi b.t1,Zi b.r0,Zi b.r1,Zi b.u0,Zi b.u1,Zi b.d0,Zi b.d1,Zi b.a0,Zi b.a1,Zi b.b0,Zi b.b1,Zi b.le,Zi b.me])]:=by
 obtain ⟨bX,oX,SX⟩:=Sp.oldEx hx hxe
 obtain ⟨bY,oY,SY⟩:=Sp.oldEx hy hye
 refine Zpx (fun b=>b=bb) func112 Z 43 Z [Zj bb,.agg #[.slice X 0 cx,.slice Y 5 cy]] Z Z (Mem.initEx (p:=.cells (bxM b (.slice A b.lows.length c) (.slice B b.highs.length d))) hq) ?_
 intro ac wc T M
 refine Zsr ?_
 refine Zl2 ?_
 refine Zob M T Z Z Z Z (T.e 1 Z) Z ?_;clear M T;intro g1 wc ac M T
 replace T:=T.pick [0,1] rfl
 refine Zln ?_
 refine Zgs M (M.perm [0] Z Z) 44 (by kernel_rfl) Z (by kernel_rfl) ?_
 clear M;intro wc M
 refine g_addG 28 M ?_
 refine Zgq T 0 1 Z (fun _=>(Zrm Z (T.e 1 Z))) ?_;intro ac T
 refine Zgq T 1 3 Z (fun _=>(Zrm Z (T.e 2 Z))) ?_;intro ac T
 refine Zgq T 2 7 Z (fun _=>(Zrm Z (T.e 3 Z))) ?_;intro ac T
 refine Zgq T 3 15 Z (fun _=>(Zrm Z (T.e 4 Z))) ?_;intro ac T
 refine Zgq T 4 31 Z (fun _=>(Zrm Z (T.e 5 Z))) ?_;intro ac T
 refine Zgq (v:=(.pointer (some ⟨g1,1,none⟩))) T 5 63 Z (fun _=>(Zrg 1 Z (T.e 5 Z))) ?_;intro ac T
 refine gq T 6 127 Z (fun B w' hD hl hS=>(Zro (Mem.nth (show Mem w (fun b=>b=bb) w' _ from ((MA.lft hS) (hD.wait (i:=6) (m:=28) (by kernel_rfl) hl))) 0 Z) Z (T.e 0 Z) Z)) ?_;intro ac T
 refine Zgq T 7 255 Z (fun _=>(Zri (size:=1) 0 Z (T.e 0 Z) evc ⟨_,underlying31,by kernel_rfl⟩ Z (by omega) (SY.at0 (by omega)))) ?_;intro ac T
 refine gq T 8 511 Z (fun B w' hD hl hS=>(rn_cell (Sp.ic0 SY (show Mem w (fun b=>b=bb) w' _ from ((MA.lft hS) (hD.wait (i:=8) (m:=28) (by kernel_rfl) hl))) (Zz9 _) Z) Z (T.e 0 Z))) ?_;intro ac T
 refine Zgq (v:=(.pointer (some ⟨g1,1,none⟩))) T 9 1023 Z (fun _=>(Zrg 1 Z (T.e 9 Z))) ?_;intro ac T
 refine gq T 10 2047 Z (fun B w' hD hl hS=>(Zro (Mem.nth (show Mem w (fun b=>b=bb) w' _ from ((MA.lft hS) (hD.wait (i:=12) (m:=28) (by kernel_rfl) (hD.wait (i:=11) (m:=12) (by kernel_rfl) (hD.wait (i:=10) (m:=11) (by kernel_rfl) hl))))) 0 Z) Z (T.e 0 Z) Z)) ?_;intro ac T
 refine Zgq T 11 4095 Z (fun _=>(Zri (size:=1) 1 Z (T.e 0 Z) evc ⟨_,underlying31,by kernel_rfl⟩ Z (by omega) (SY.at0 (by omega)))) ?_;intro ac T
 refine gq T 12 8191 Z (fun B w' hD hl hS=>(rn_cell (Sp.ic0 SY (show Mem w (fun b=>b=bb) w' _ from ((MA.lft hS) (hD.wait (i:=12) (m:=28) (by kernel_rfl) hl))) (Zz9 _) Z) Z (T.e 0 Z))) ?_;intro ac T
 refine Zgq (v:=(.pointer (some ⟨g1,1,none⟩))) T 13 16383 Z (fun _=>(Zrg 1 Z (T.e 13 Z))) ?_;intro ac T
 refine gq T 14 32767 Z (fun B w' hD hl hS=>(Zro (Mem.nth (show Mem w (fun b=>b=bb) w' _ from ((MA.lft hS) (hD.wait (i:=16) (m:=28) (by kernel_rfl) (hD.wait (i:=15) (m:=16) (by kernel_rfl) (hD.wait (i:=14) (m:=15) (by kernel_rfl) hl))))) 0 Z) Z (T.e 0 Z) Z)) ?_;intro ac T
 refine Zgq T 15 65535 Z (fun _=>(Zri (size:=1) 2 Z (T.e 0 Z) evc ⟨_,underlying31,by kernel_rfl⟩ Z (by omega) (SY.at0 (by omega)))) ?_;intro ac T
 refine gq T 16 131071 Z (fun B w' hD hl hS=>(rn_cell (Sp.ic0 SY (show Mem w (fun b=>b=bb) w' _ from ((MA.lft hS) (hD.wait (i:=16) (m:=28) (by kernel_rfl) hl))) (Zz9 _) Z) Z (T.e 0 Z))) ?_;intro ac T
 refine Zgq (v:=(.pointer (some ⟨g1,1,none⟩))) T 17 262143 Z (fun _=>(Zrg 1 Z (T.e 17 Z))) ?_;intro ac T
 refine gq T 18 524287 Z (fun B w' hD hl hS=>(Zro (Mem.nth (show Mem w (fun b=>b=bb) w' _ from ((MA.lft hS) (hD.wait (i:=20) (m:=28) (by kernel_rfl) (hD.wait (i:=19) (m:=20) (by kernel_rfl) (hD.wait (i:=18) (m:=19) (by kernel_rfl) hl))))) 0 Z) Z (T.e 0 Z) Z)) ?_;intro ac T
 refine Zgq T 19 1048575 Z (fun _=>(Zri (size:=1) 3 Z (T.e 0 Z) evc ⟨_,underlying31,by kernel_rfl⟩ Z (by omega) (SY.at0 (by omega)))) ?_;intro ac T
 refine gq T 20 2097151 Z (fun B w' hD hl hS=>(rn_cell (Sp.ic0 SY (show Mem w (fun b=>b=bb) w' _ from ((MA.lft hS) (hD.wait (i:=20) (m:=28) (by kernel_rfl) hl))) (Zz9 _) Z) Z (T.e 0 Z))) ?_;intro ac T
 refine Zgq (v:=(.pointer (some ⟨g1,1,none⟩))) T 21 4194303 Z (fun _=>(Zrg 1 Z (T.e 21 Z))) ?_;intro ac T
 refine gq T 22 8388607 Z (fun B w' hD hl hS=>(Zro (Mem.nth (show Mem w (fun b=>b=bb) w' _ from ((MA.lft hS) (hD.wait (i:=24) (m:=28) (by kernel_rfl) (hD.wait (i:=23) (m:=24) (by kernel_rfl) (hD.wait (i:=22) (m:=23) (by kernel_rfl) hl))))) 0 Z) Z (T.e 0 Z) Z)) ?_;intro ac T
 refine Zgq T 23 16777215 Z (fun _=>(Zri (size:=1) 4 Z (T.e 0 Z) evc ⟨_,underlying31,by kernel_rfl⟩ Z (by omega) (SY.at0 (by omega)))) ?_;intro ac T
 refine gq T 24 33554431 Z (fun B w' hD hl hS=>(rn_cell (Sp.ic0 SY (show Mem w (fun b=>b=bb) w' _ from ((MA.lft hS) (hD.wait (i:=24) (m:=28) (by kernel_rfl) hl))) (Zz9 _) Z) Z (T.e 0 Z))) ?_;intro ac T
 refine Zgq T 25 67108863 Z (fun _=>(rn_nil Z (T.e 24 Z))) ?_;intro ac T
 refine Zgq (v:=(Zj bb)) T 26 134217727 Z (fun _=>(Zrg 0 Z (T.e 0 Z))) ?_;intro ac T
 refine Zgq (v:=(Zj bb)) T 27 268435455 Z (fun _=>(Zrg 0 Z (T.e 0 Z))) ?_;intro ac T
 refine gw 28 536870911 ?_;intro K hK
 refine Zot M T Z Z (T.e 0 Z) (T.e 19 Z) Z (.tail .head) Z Z ?_;clear M T;intro wc ac M T
 refine Zso hK _ _ (MA.mk (fun h=>(no_of (by kernel_rfl) h).elim) (M.mask [true,false] Z)) ?_;clear hK K
 refine Zgq T 29 1073741823 Z (fun _=>(rn_nil Z (T.e 26 Z))) ?_;intro ac T
 refine Zgq (v:=(Zj bb)) T 30 2147483647 Z (fun _=>(Zrg 0 Z (T.e 0 Z))) ?_;intro ac T
 refine Zgq (v:=(.pointer (some ⟨bb,1,none⟩))) T 31 4294967295 Z (fun _=>(Zrg 1 Z (T.e 0 Z))) ?_;intro ac T
 refine gw 32 8589934591 ?_;intro K hK
 refine Zot M T Z Z (T.e 0 Z) (T.e 18 Z) Z (.tail .head) Z Z ?_;clear M T;intro wc ac M T
 refine Zso hK _ _ (MA.mk (fun h=>(no_of (by kernel_rfl) h).elim) (M.mask [true,false] Z)) ?_;clear hK K
 refine Zgq T 33 17179869183 Z (fun _=>(rn_nil Z (T.e 28 Z))) ?_;intro ac T
 refine Zgq (v:=(Zj bb)) T 34 34359738367 Z (fun _=>(Zrg 0 Z (T.e 0 Z))) ?_;intro ac T
 refine Zgq (v:=(.pointer (some ⟨bb,2,none⟩))) T 35 68719476735 Z (fun _=>(Zrg 2 Z (T.e 0 Z))) ?_;intro ac T
 refine gw 36 137438953471 ?_;intro K hK
 refine Zot M T Z Z (T.e 0 Z) (T.e 17 Z) Z (.tail .head) Z Z ?_;clear M T;intro wc ac M T
 refine Zso hK _ _ (MA.mk (fun h=>(no_of (by kernel_rfl) h).elim) (M.mask [true,false] Z)) ?_;clear hK K
 refine Zgq T 37 274877906943 Z (fun _=>(rn_nil Z (T.e 30 Z))) ?_;intro ac T
 refine Zgq (v:=(Zj bb)) T 38 549755813887 Z (fun _=>(Zrg 0 Z (T.e 0 Z))) ?_;intro ac T
 refine Zgq (v:=(.pointer (some ⟨bb,3,none⟩))) T 39 1099511627775 Z (fun _=>(Zrg 3 Z (T.e 0 Z))) ?_;intro ac T
 refine gw 40 2199023255551 ?_;intro K hK
 refine Zot M T Z Z (T.e 0 Z) (T.e 16 Z) Z (.tail .head) Z Z ?_;clear M T;intro wc ac M T
 refine Zso hK _ _ (MA.mk (fun h=>(no_of (by kernel_rfl) h).elim) (M.mask [true,false] Z)) ?_;clear hK K
 refine Zgq T 41 4398046511103 Z (fun _=>(rn_nil Z (T.e 32 Z))) ?_;intro ac T
 refine Zgq (v:=(.pointer (some ⟨bb,4,none⟩))) T 42 8796093022207 Z (fun _=>(Zrg 4 Z (T.e 0 Z))) ?_;intro ac T
 refine gw 43 17592186044415 ?_;intro K hK
 refine Zot M T Z Z (T.e 0 Z) (T.e 14 Z) Z (.tail .head) Z Z ?_;clear M T;intro wc ac M T
 refine Zso hK _ _ (MA.mk (fun h=>(no_of (by kernel_rfl) h).elim) (M.mask [true,false] Z)) ?_;clear hK K
 refine Zgd (by kernel_rfl) ?_
 replace T:=T.pick [] rfl
 replace M:=M.mask [false,true] rfl
 refine nm_0 T Z ?_
 exact ⟨rfl,M.mask [true] Z⟩
set_option maxHeartbeats 4000000 in
theorem vtake3_any (bb:Nat) (b:Bx) (A:Option Addr) (c:Nat) (B:Option Addr) (d:Nat) (X:Option Addr) (cx:Nat) (Y:Option Addr) (cy:Nat) (u0 u1 d0 d1 a0 a1 b0 b1 t0 t1 r0 r1 le me:Int) (w:World) (hq:Bk w bb (Zbr b A c B d)) (hx:Rd w w.heap.size 2 X 6 (rc [(u0,u1),(d0,d1),(a0,a1),(b0,b1),(t0,t1),(r0,r1)])) (hxe:∀ b o,X=some ⟨b,o,none⟩→b≠bb) (hy:Rd w w.heap.size 1 Y 2 (ic [le,me])) (hye:∀ b o,Y=some ⟨b,o,none⟩→b≠bb) :
  Calls prog 115 #[Zj bb,.agg #[.slice X 6 cx,.slice Y 2 cy]] w fun e w'=>e=.returned (.tuple #[])∧Mem w (fun b=>b=bb) w' [(bb,.cells [Zi b.first,Zi b.step,Zi b.span,Zi b.press,Zi b.note,.slice A b.lows.length c,.slice B b.highs.length d,Zi t0,Zi t1,Zi r0,Zi r1,Zi u0,Zi u1,Zi d0,Zi d1,Zi a0,Zi a1,Zi b0,Zi b1,Zi le,Zi me])]:=by
 obtain ⟨bX,oX,SX⟩:=Sp.oldEx hx hxe
 obtain ⟨bY,oY,SY⟩:=Sp.oldEx hy hye
 refine Zpx (fun b=>b=bb) func115 Z 65 Z [Zj bb,.agg #[.slice X 6 cx,.slice Y 2 cy]] Z Z (Mem.initEx (p:=.cells (bxM b (.slice A b.lows.length c) (.slice B b.highs.length d))) hq) ?_
 intro ac wc T M
 refine Zsr ?_
 refine Zl2 ?_
 refine Zob M T Z Z Z Z (T.e 1 Z) Z ?_;clear M T;intro g1 wc ac M T
 replace T:=T.pick [0,1] rfl
 refine Zln ?_
 refine wp_seq ?_
 refine Zgs M (M.perm [0] Z Z) 36 (by kernel_rfl) Z (by kernel_rfl) ?_
 clear M;intro wc M
 refine g_addG 23 M ?_
 refine Zgq T 0 1 Z (fun _=>(Zrm Z (T.e 1 Z))) ?_;intro ac T
 refine Zgq T 1 3 Z (fun _=>(Zrm Z (T.e 2 Z))) ?_;intro ac T
 refine Zgq T 2 7 Z (fun _=>(Zrm Z (T.e 3 Z))) ?_;intro ac T
 refine Zgq T 3 15 Z (fun _=>(Zrm Z (T.e 4 Z))) ?_;intro ac T
 refine Zgq (v:=(Zj g1)) T 4 31 Z (fun _=>(Zrg 0 Z (T.e 4 Z))) ?_;intro ac T
 refine gq T 5 63 Z (fun B w' hD hl hS=>(Zro (Mem.nth (show Mem w (fun b=>b=bb) w' _ from ((MA.lft hS) (hD.wait (i:=5) (m:=23) (by kernel_rfl) hl))) 0 Z) Z (T.e 0 Z) Z)) ?_;intro ac T
 refine Zgq T 6 127 Z (fun _=>(Zri (size:=2) 0 Z (T.e 0 Z) evc ⟨_,underlying57,by kernel_rfl⟩ Z (by omega) (SX.at0 (by omega)))) ?_;intro ac T
 refine gq (v:=(.agg #[Zi u0,Zi u1])) T 7 255 Z (fun B w' hD hl hS=>(rn_rowat (Sp.rcR SX (show Mem w (fun b=>b=bb) w' _ from ((MA.lft hS) (hD.wait (i:=7) (m:=23) (by kernel_rfl) hl))) (Zz9 _) Z) Z (T.e 0 Z) Z)) ?_;intro ac T
 refine Zgq (v:=(Zj g1)) T 8 511 Z (fun _=>(Zrg 0 Z (T.e 8 Z))) ?_;intro ac T
 refine gq T 9 1023 Z (fun B w' hD hl hS=>(Zro (Mem.nth (show Mem w (fun b=>b=bb) w' _ from ((MA.lft hS) (hD.wait (i:=11) (m:=23) (by kernel_rfl) (hD.wait (i:=10) (m:=11) (by kernel_rfl) (hD.wait (i:=9) (m:=10) (by kernel_rfl) hl))))) 0 Z) Z (T.e 0 Z) Z)) ?_;intro ac T
 refine Zgq T 10 2047 Z (fun _=>(Zri (size:=2) 1 Z (T.e 0 Z) evc ⟨_,underlying57,by kernel_rfl⟩ Z (by omega) (SX.at0 (by omega)))) ?_;intro ac T
 refine gq (v:=(.agg #[Zi d0,Zi d1])) T 11 4095 Z (fun B w' hD hl hS=>(rn_rowat (Sp.rcR SX (show Mem w (fun b=>b=bb) w' _ from ((MA.lft hS) (hD.wait (i:=11) (m:=23) (by kernel_rfl) hl))) (Zz9 _) Z) Z (T.e 0 Z) Z)) ?_;intro ac T
 refine Zgq (v:=(Zj g1)) T 12 8191 Z (fun _=>(Zrg 0 Z (T.e 12 Z))) ?_;intro ac T
 refine gq T 13 16383 Z (fun B w' hD hl hS=>(Zro (Mem.nth (show Mem w (fun b=>b=bb) w' _ from ((MA.lft hS) (hD.wait (i:=15) (m:=23) (by kernel_rfl) (hD.wait (i:=14) (m:=15) (by kernel_rfl) (hD.wait (i:=13) (m:=14) (by kernel_rfl) hl))))) 0 Z) Z (T.e 0 Z) Z)) ?_;intro ac T
 refine Zgq T 14 32767 Z (fun _=>(Zri (size:=2) 2 Z (T.e 0 Z) evc ⟨_,underlying57,by kernel_rfl⟩ Z (by omega) (SX.at0 (by omega)))) ?_;intro ac T
 refine gq (v:=(.agg #[Zi a0,Zi a1])) T 15 65535 Z (fun B w' hD hl hS=>(rn_rowat (Sp.rcR SX (show Mem w (fun b=>b=bb) w' _ from ((MA.lft hS) (hD.wait (i:=15) (m:=23) (by kernel_rfl) hl))) (Zz9 _) Z) Z (T.e 0 Z) Z)) ?_;intro ac T
 refine Zgq (v:=(Zj g1)) T 16 131071 Z (fun _=>(Zrg 0 Z (T.e 16 Z))) ?_;intro ac T
 refine gq T 17 262143 Z (fun B w' hD hl hS=>(Zro (Mem.nth (show Mem w (fun b=>b=bb) w' _ from ((MA.lft hS) (hD.wait (i:=19) (m:=23) (by kernel_rfl) (hD.wait (i:=18) (m:=19) (by kernel_rfl) (hD.wait (i:=17) (m:=18) (by kernel_rfl) hl))))) 0 Z) Z (T.e 0 Z) Z)) ?_;intro ac T
 refine Zgq T 18 524287 Z (fun _=>(Zri (size:=2) 3 Z (T.e 0 Z) evc ⟨_,underlying57,by kernel_rfl⟩ Z (by omega) (SX.at0 (by omega)))) ?_;intro ac T
 refine gq (v:=(.agg #[Zi b0,Zi b1])) T 19 1048575 Z (fun B w' hD hl hS=>(rn_rowat (Sp.rcR SX (show Mem w (fun b=>b=bb) w' _ from ((MA.lft hS) (hD.wait (i:=19) (m:=23) (by kernel_rfl) hl))) (Zz9 _) Z) Z (T.e 0 Z) Z)) ?_;intro ac T
 refine Zgq T 20 2097151 Z (fun _=>(rn_nil Z (T.e 19 Z))) ?_;intro ac T
 refine Zgq (v:=(.pointer (some ⟨bb,11,none⟩))) T 21 4194303 Z (fun _=>(Zrg 11 Z (T.e 0 Z))) ?_;intro ac T
 refine Zgq (v:=(.pointer (some ⟨bb,11,none⟩))) T 22 8388607 Z (fun _=>(Zrg 0 Z (T.e 0 Z))) ?_;intro ac T
 refine gw 23 16777215 ?_;intro K hK
 refine Zot M T Z Z (T.e 0 Z) (T.e 15 Z) Z (.tail .head) Z Z ?_;clear M T;intro wc ac M T
 refine Zso hK _ _ (MA.mk (fun h=>(no_of (by kernel_rfl) h).elim) (M.mask [true,false] Z)) ?_;clear hK K
 refine Zgq T 24 33554431 Z (fun _=>(rn_nil Z (T.e 21 Z))) ?_;intro ac T
 refine Zgq (v:=(.pointer (some ⟨bb,11,none⟩))) T 25 67108863 Z (fun _=>(Zrg 11 Z (T.e 0 Z))) ?_;intro ac T
 refine Zgq (v:=(.pointer (some ⟨bb,13,none⟩))) T 26 134217727 Z (fun _=>(Zrg 2 Z (T.e 0 Z))) ?_;intro ac T
 refine gw 27 268435455 ?_;intro K hK
 refine Zot M T Z Z (T.e 0 Z) (T.e 14 Z) Z (.tail .head) Z Z ?_;clear M T;intro wc ac M T
 refine Zso hK _ _ (MA.mk (fun h=>(no_of (by kernel_rfl) h).elim) (M.mask [true,false] Z)) ?_;clear hK K
 refine Zgq T 28 536870911 Z (fun _=>(rn_nil Z (T.e 23 Z))) ?_;intro ac T
 refine Zgq (v:=(.pointer (some ⟨bb,11,none⟩))) T 29 1073741823 Z (fun _=>(Zrg 11 Z (T.e 0 Z))) ?_;intro ac T
 refine Zgq (v:=(.pointer (some ⟨bb,15,none⟩))) T 30 2147483647 Z (fun _=>(Zrg 4 Z (T.e 0 Z))) ?_;intro ac T
 refine gw 31 4294967295 ?_;intro K hK
 refine Zot M T Z Z (T.e 0 Z) (T.e 13 Z) Z (.tail .head) Z Z ?_;clear M T;intro wc ac M T
 refine Zso hK _ _ (MA.mk (fun h=>(no_of (by kernel_rfl) h).elim) (M.mask [true,false] Z)) ?_;clear hK K
 refine Zgq T 32 8589934591 Z (fun _=>(rn_nil Z (T.e 25 Z))) ?_;intro ac T
 refine Zgq (v:=(.pointer (some ⟨bb,11,none⟩))) T 33 17179869183 Z (fun _=>(Zrg 11 Z (T.e 0 Z))) ?_;intro ac T
 refine Zgq (v:=(.pointer (some ⟨bb,17,none⟩))) T 34 34359738367 Z (fun _=>(Zrg 6 Z (T.e 0 Z))) ?_;intro ac T
 refine gw 35 68719476735 ?_;intro K hK
 refine Zot M T Z Z (T.e 0 Z) (T.e 12 Z) Z (.tail .head) Z Z ?_;clear M T;intro wc ac M T
 refine Zso hK _ _ (MA.mk (fun h=>(no_of (by kernel_rfl) h).elim) (M.mask [true,false] Z)) ?_;clear hK K
 refine Zgd (by kernel_rfl) ?_
 replace T:=T.pick [32,33] rfl
 refine nm_then ?_
 refine Zgs M (M.perm [0] Z Z) 33 (by kernel_rfl) Z (by kernel_rfl) ?_
 clear M;intro wc M
 refine g_addG 22 M ?_
 refine Zgq T 0 1 Z (fun _=>(Zrm Z (T.e 1 Z))) ?_;intro ac T
 refine Zgq T 1 3 Z (fun _=>(Zrm Z (T.e 2 Z))) ?_;intro ac T
 refine Zgq T 2 7 Z (fun _=>(Zrm Z (T.e 3 Z))) ?_;intro ac T
 refine Zgq T 3 15 Z (fun _=>(Zrm Z (T.e 4 Z))) ?_;intro ac T
 refine Zgq (v:=(Zj g1)) T 4 31 Z (fun _=>(Zrg 0 Z (T.e 4 Z))) ?_;intro ac T
 refine gq T 5 63 Z (fun B w' hD hl hS=>(Zro (Mem.nth (show Mem w (fun b=>b=bb) w' _ from ((MA.lft hS) (hD.wait (i:=5) (m:=22) (by kernel_rfl) hl))) 0 Z) Z (T.e 0 Z) Z)) ?_;intro ac T
 refine Zgq T 6 127 Z (fun _=>(Zri (size:=2) 4 Z (T.e 0 Z) evc ⟨_,underlying57,by kernel_rfl⟩ Z (by omega) (SX.at0 (by omega)))) ?_;intro ac T
 refine gq (v:=(.agg #[Zi t0,Zi t1])) T 7 255 Z (fun B w' hD hl hS=>(rn_rowat (Sp.rcR SX (show Mem w (fun b=>b=bb) w' _ from ((MA.lft hS) (hD.wait (i:=7) (m:=22) (by kernel_rfl) hl))) (Zz9 _) Z) Z (T.e 0 Z) Z)) ?_;intro ac T
 refine Zgq (v:=(Zj g1)) T 8 511 Z (fun _=>(Zrg 0 Z (T.e 8 Z))) ?_;intro ac T
 refine gq T 9 1023 Z (fun B w' hD hl hS=>(Zro (Mem.nth (show Mem w (fun b=>b=bb) w' _ from ((MA.lft hS) (hD.wait (i:=11) (m:=22) (by kernel_rfl) (hD.wait (i:=10) (m:=11) (by kernel_rfl) (hD.wait (i:=9) (m:=10) (by kernel_rfl) hl))))) 0 Z) Z (T.e 0 Z) Z)) ?_;intro ac T
 refine Zgq T 10 2047 Z (fun _=>(Zri (size:=2) 5 Z (T.e 0 Z) evc ⟨_,underlying57,by kernel_rfl⟩ Z (by omega) (SX.at0 (by omega)))) ?_;intro ac T
 refine gq (v:=(.agg #[Zi r0,Zi r1])) T 11 4095 Z (fun B w' hD hl hS=>(rn_rowat (Sp.rcR SX (show Mem w (fun b=>b=bb) w' _ from ((MA.lft hS) (hD.wait (i:=11) (m:=22) (by kernel_rfl) hl))) (Zz9 _) Z) Z (T.e 0 Z) Z)) ?_;intro ac T
 refine Zgq (v:=(.pointer (some ⟨g1,1,none⟩))) T 12 8191 Z (fun _=>(Zrg 1 Z (T.e 12 Z))) ?_;intro ac T
 refine gq T 13 16383 Z (fun B w' hD hl hS=>(Zro (Mem.nth (show Mem w (fun b=>b=bb) w' _ from ((MA.lft hS) (hD.wait (i:=15) (m:=22) (by kernel_rfl) (hD.wait (i:=14) (m:=15) (by kernel_rfl) (hD.wait (i:=13) (m:=14) (by kernel_rfl) hl))))) 0 Z) Z (T.e 0 Z) Z)) ?_;intro ac T
 refine Zgq T 14 32767 Z (fun _=>(Zri (size:=1) 0 Z (T.e 0 Z) evc ⟨_,underlying31,by kernel_rfl⟩ Z (by omega) (SY.at0 (by omega)))) ?_;intro ac T
 refine gq T 15 65535 Z (fun B w' hD hl hS=>(rn_cell (Sp.ic0 SY (show Mem w (fun b=>b=bb) w' _ from ((MA.lft hS) (hD.wait (i:=15) (m:=22) (by kernel_rfl) hl))) (Zz9 _) Z) Z (T.e 0 Z))) ?_;intro ac T
 refine Zgq (v:=(.pointer (some ⟨g1,1,none⟩))) T 16 131071 Z (fun _=>(Zrg 1 Z (T.e 16 Z))) ?_;intro ac T
 refine gq T 17 262143 Z (fun B w' hD hl hS=>(Zro (Mem.nth (show Mem w (fun b=>b=bb) w' _ from ((MA.lft hS) (hD.wait (i:=19) (m:=22) (by kernel_rfl) (hD.wait (i:=18) (m:=19) (by kernel_rfl) (hD.wait (i:=17) (m:=18) (by kernel_rfl) hl))))) 0 Z) Z (T.e 0 Z) Z)) ?_;intro ac T
 refine Zgq T 18 524287 Z (fun _=>(Zri (size:=1) 1 Z (T.e 0 Z) evc ⟨_,underlying31,by kernel_rfl⟩ Z (by omega) (SY.at0 (by omega)))) ?_;intro ac T
 refine gq T 19 1048575 Z (fun B w' hD hl hS=>(rn_cell (Sp.ic0 SY (show Mem w (fun b=>b=bb) w' _ from ((MA.lft hS) (hD.wait (i:=19) (m:=22) (by kernel_rfl) hl))) (Zz9 _) Z) Z (T.e 0 Z))) ?_;intro ac T
 refine Zgq T 20 2097151 Z (fun _=>(rn_nil Z (T.e 19 Z))) ?_;intro ac T
 refine Zgq (v:=(.pointer (some ⟨bb,7,none⟩))) T 21 4194303 Z (fun _=>(Zrg 7 Z (T.e 0 Z))) ?_;intro ac T
 refine gw 22 8388607 ?_;intro K hK
 refine Zot M T Z Z (T.e 0 Z) (T.e 14 Z) Z (.tail .head) Z Z ?_;clear M T;intro wc ac M T
 refine Zso hK _ _ (MA.mk (fun h=>(no_of (by kernel_rfl) h).elim) (M.mask [true,false] Z)) ?_;clear hK K
 refine Zgq T 23 16777215 Z (fun _=>(rn_nil Z (T.e 20 Z))) ?_;intro ac T
 refine Zgq (v:=(.pointer (some ⟨bb,9,none⟩))) T 24 33554431 Z (fun _=>(Zrg 9 Z (T.e 0 Z))) ?_;intro ac T
 refine gw 25 67108863 ?_;intro K hK
 refine Zot M T Z Z (T.e 0 Z) (T.e 12 Z) Z (.tail .head) Z Z ?_;clear M T;intro wc ac M T
 refine Zso hK _ _ (MA.mk (fun h=>(no_of (by kernel_rfl) h).elim) (M.mask [true,false] Z)) ?_;clear hK K
 refine Zgq T 26 134217727 Z (fun _=>(rn_nil Z (T.e 21 Z))) ?_;intro ac T
 refine Zgq (v:=(.pointer (some ⟨bb,11,none⟩))) T 27 268435455 Z (fun _=>(Zrg 11 Z (T.e 0 Z))) ?_;intro ac T
 refine Zgq (v:=(.pointer (some ⟨bb,19,none⟩))) T 28 536870911 Z (fun _=>(Zrg 8 Z (T.e 0 Z))) ?_;intro ac T
 refine gw 29 1073741823 ?_;intro K hK
 refine Zot M T Z Z (T.e 0 Z) (T.e 11 Z) Z (.tail .head) Z Z ?_;clear M T;intro wc ac M T
 refine Zso hK _ _ (MA.mk (fun h=>(no_of (by kernel_rfl) h).elim) (M.mask [true,false] Z)) ?_;clear hK K
 refine Zgq T 30 2147483647 Z (fun _=>(rn_nil Z (T.e 23 Z))) ?_;intro ac T
 refine Zgq (v:=(.pointer (some ⟨bb,20,none⟩))) T 31 4294967295 Z (fun _=>(Zrg 20 Z (T.e 0 Z))) ?_;intro ac T
 refine gw 32 8589934591 ?_;intro K hK
 refine Zot M T Z Z (T.e 0 Z) (T.e 9 Z) Z (.tail .head) Z Z ?_;clear M T;intro wc ac M T
 refine Zso hK _ _ (MA.mk (fun h=>(no_of (by kernel_rfl) h).elim) (M.mask [true,false] Z)) ?_;clear hK K
 refine Zgd (by kernel_rfl) ?_
 replace T:=T.pick [] rfl
 replace M:=M.mask [false,true] rfl
 refine nm_0 T Z ?_
 exact ⟨rfl,M.mask [true] Z⟩
theorem sound1_any (X:Option Addr) (cx:Nat) (Y:Option Addr) (cy:Nat) (ny:Nat) (s0 s1 s2 s3:Int) (w:World) (hx:Rd w w.heap.size 2 X 2 (rc [(s0,s1),(s2,s3)])) :
  Calls prog 111 #[.agg #[.slice X 2 cx,.slice Y ny cy]] w fun e w'=>e=.returned (.agg #[Zi s0,Zi s1,Zi s2,Zi s3])∧Below w.heap.size w w':=by
 obtain ⟨bX,oX,SX⟩:=Sp.old hx
 refine Zpx noEx func111 Z 12 Z [.agg #[.slice X 2 cx,.slice Y ny cy]] Z Z (Mem.init w _) ?_
 intro ac wc T M
 refine Zsr ?_
 refine Zl2 ?_
 refine Zob M T Z Z Z Z (T.e 0 Z) Z ?_;clear M T;intro g1 wc ac M T
 refine Zl2 ?_
 refine Zoa M T Z Z Z Z ?_;clear M T;intro g2 wc ac M T
 replace T:=T.pick [0,1] rfl
 refine Zln ?_
 refine wp_seq ?_
 refine Zgs M (M.perm [1] Z Z) 10 (by kernel_rfl) Z (by kernel_rfl) ?_
 clear M;intro wc M
 refine g_addG 9 M ?_
 refine Zgq (v:=(Zj g1)) T 0 1 Z (fun _=>(Zrg 0 Z (T.e 1 Z))) ?_;intro ac T
 refine gq T 1 3 Z (fun B w' hD hl hS=>(Zro (Mem.nth (show Mem w noEx w' _ from ((MA.lft hS) (hD.wait (i:=1) (m:=9) (by kernel_rfl) hl))) 1 Z) Z (T.e 0 Z) Z)) ?_;intro ac T
 refine Zgq T 2 7 Z (fun _=>(Zri (size:=2) 0 Z (T.e 0 Z) evc ⟨_,underlying57,by kernel_rfl⟩ Z (by omega) (SX.at0 (by omega)))) ?_;intro ac T
 refine gq (v:=(.agg #[Zi s0,Zi s1])) T 3 15 Z (fun B w' hD hl hS=>(rn_rowat (Sp.rcR SX (show Mem w noEx w' _ from ((MA.lft hS) (hD.wait (i:=3) (m:=9) (by kernel_rfl) hl))) (Zz9 _) Z) Z (T.e 0 Z) Z)) ?_;intro ac T
 refine Zgq (v:=(Zj g1)) T 4 31 Z (fun _=>(Zrg 0 Z (T.e 5 Z))) ?_;intro ac T
 refine gq T 5 63 Z (fun B w' hD hl hS=>(Zro (Mem.nth (show Mem w noEx w' _ from ((MA.lft hS) (hD.wait (i:=5) (m:=9) (by kernel_rfl) hl))) 1 Z) Z (T.e 0 Z) Z)) ?_;intro ac T
 refine Zgq T 6 127 Z (fun _=>(Zri (size:=2) 1 Z (T.e 0 Z) evc ⟨_,underlying57,by kernel_rfl⟩ Z (by omega) (SX.at0 (by omega)))) ?_;intro ac T
 refine gq (v:=(.agg #[Zi s2,Zi s3])) T 7 255 Z (fun B w' hD hl hS=>(rn_rowat (Sp.rcR SX (show Mem w noEx w' _ from ((MA.lft hS) (hD.wait (i:=7) (m:=9) (by kernel_rfl) hl))) (Zz9 _) Z) Z (T.e 0 Z) Z)) ?_;intro ac T
 refine Zgq (v:=(.agg #[Zi s0,Zi s1,Zi s2,Zi s3])) T 8 511 Z (fun _=>(rn_build Z (.cons (T.e 4 Z) (.cons (T.e 0 Z) .nil)) (fun _=>by kernel_rfl))) ?_;intro ac T
 refine gw 9 1023 ?_;intro K hK
 refine Zot M T Z Z (T.e 9 Z) (T.e 0 Z) Z .head Z Z ?_;clear M T;intro wc ac M T
 refine Zso hK _ _ (MA.mk (fun h=>(no_of (by kernel_rfl) h).elim) (M.mask [false,true] Z)) ?_;clear hK K
 refine Zgd (by kernel_rfl) ?_
 replace T:=T.pick [9] rfl
 replace M:=M.mask [true,false] rfl
 refine Znr ?_
 refine rt_c M T Z (T.e 0 Z) (Zne (i:=0) Z) Z ?_
 exact ⟨rfl,M.below⟩
theorem vtake1_any (bb gs:Nat) (b:Bx) (A:Option Addr) (c:Nat) (B:Option Addr) (d:Nat) (Ia Ib:List (Nat×BA)) (exq:Nat→Prop) (X:Option Addr) (cx:Nat) (Y:Option Addr) (cy:Nat) (ny bX oX:Nat) (s0 s1 s2 s3:Int) (w:World) (hj:b.lows.length≤800000) (hsA:Sl 77 4 (.slice A b.lows.length c) b.lows.length (sc b.lows) Ia) (SX:Sp w exq [] X 2 2 bX oX (rc [(s0,s1),(s2,s3)])) (M0:Mem w exq w ((bb,.cells (bxM b (.slice A b.lows.length c) (.slice B b.highs.length d)))::(Ib++Ia))) (qs:Bk w gs #[.func (.func 111) #[] #[]]) (hgs : ¬ exq gs) :
  Calls prog 113 #[Zj bb,.agg #[.slice X 2 cx,.slice Y ny cy],Zj gs] w fun e w'=>∃ g cap,e=.returned (.tuple #[])∧Mem w exq w' ((bb,.cells (Zbm b (.slice (some ⟨g,0,none⟩) (b.lows.length+1) cap) (.slice B b.highs.length d)))::(g,.row 77 4 (b.lows.length+1) (sc b.lows++sc [⟨s0,s1,s2,s3⟩]) cap)::Ib):=by
 refine Zpx exq func113 Z 17 Z [Zj bb,.agg #[.slice X 2 cx,.slice Y ny cy],Zj gs] Z Z M0 ?_
 intro ac wc T M
 refine Zsr ?_
 refine Zl2 ?_
 refine Zob M T Z Z Z Z (T.e 1 Z) Z ?_;clear M T;intro g1 wc ac M T
 replace T:=T.pick [0,1,3] rfl
 refine Zln ?_
 refine Zgs M (M.perm [0] Z Z) 13 (by kernel_rfl) Z (by kernel_rfl) ?_
 clear M;intro wc M
 refine g_addG 12 ((M.mask [true,true] Z).sub (List.Sublist.cons_cons _ (List.Sublist.cons_cons _ (Zsl _ _)))) ?_
 refine Zgq T 0 1 Z (fun _=>(Zrm Z (T.e 1 Z))) ?_;intro ac T
 refine Zgq T 1 3 Z (fun _=>(Zrm Z (T.e 2 Z))) ?_;intro ac T
 refine Zgq T 2 7 Z (fun _=>(rn_nil Z (T.e 0 Z))) ?_;intro ac T
 refine Zgq (v:=(.pointer (some ⟨bb,5,none⟩))) T 3 15 Z (fun _=>(Zrg 5 Z (T.e 0 Z))) ?_;intro ac T
 refine gq T 4 31 Z (fun B w' hD hl hS=>(Zro (Mem.nth (show Mem w exq w' _ from ((MA.lft hS) (hD.wait (i:=4) (m:=12) (by kernel_rfl) hl))) 1 Z) Z (T.e 0 Z) Z)) ?_;intro ac T
 refine gq T 5 63 Z (fun B w' hD hl hS=>(Zro (Mem.old (show Mem w exq w' _ from ((MA.lft hS) (hD.wait (i:=5) (m:=12) (by kernel_rfl) hl))) qs hgs) Z (T.e 7 Z) Z)) ?_;intro ac T
 refine gq T 6 127 Z (fun B w' hD hl hS=>(Zrr (Mem.nth (show Mem w exq w' _ from ((MA.lft hS) (hD.wait (i:=6) (m:=12) (by kernel_rfl) hl))) 0 Z) Z (T.e 6 Z) Z)) ?_;intro ac T
 refine gw 7 255 ?_;intro K hK
 refine Zod T Z Z Z Z (T.e 1 Z) (.cons (T.e 0 Z) .nil) func111 Z Z ?_
 refine Calls.mono (sound1_any X cx Y cy ny s0 s1 s2 s3 _ (SX.rd M (Zz9 _))) ?_
 clear T;rintro e wc ⟨rfl,hb⟩ ac T
 replace M:=M.call hb;clear hb
 refine Zso hK _ _ (MA.mk (fun _=>(M.mask [true,true] Z).sub (List.Sublist.cons_cons _ (List.Sublist.cons_cons _ (Zsl _ _)))) (M.perm [0] Z Z)) ?_;clear hK K
 refine gw 8 511 ?_;intro K hK
 refine ow_bs (e:=77) [Zi s0,Zi s1,Zi s2,Zi s3] M T Z Z Z Z (.cons (T.e 0 Z) .nil) (fun _=>by kernel_rfl) ?_;clear M T;intro g2 wc ac M T
 refine Zso hK _ _ (MA.mk (fun _=>(M.mask [false,true,true] Z).sub (List.Sublist.cons_cons _ (List.Sublist.cons_cons _ (Zsl _ _)))) (M.perm [1] Z Z)) ?_;clear hK K
 refine gw 9 1023 ?_;intro K hK
 refine ow_app (((g2,.cells [Zi s0,Zi s1,Zi s2,Zi s3])::(g1,.cells [.slice X 2 cx,.slice Y ny cy])::(bb,.cells (bxM b (.slice A b.lows.length c) (.slice B b.highs.length d)))::Ib)) Tryz.info77 hsA M (by first | rfl | simp) T Z Z Z Z underlying24 Z Z Z (by omega) (T.e 4 Z) (T.e 0 Z) (Zne (i:=0) Z) Z Z ?_;clear M T;intro ga1 cga1 wc ac M T
 refine Zso hK _ _ (MA.mk (fun _=>M.mask [false,false,true,true] Z) (M.perm [2] Z Z)) ?_;clear hK K
 refine Zgq T 10 2047 Z (fun _=>(rn_nil Z (T.e 9 Z))) ?_;intro ac T
 refine Zgq (v:=(.pointer (some ⟨bb,5,none⟩))) T 11 4095 Z (fun _=>(Zrg 5 Z (T.e 0 Z))) ?_;intro ac T
 refine gw 12 8191 ?_;intro K hK
 refine Zos M T Z Z (T.e 0 Z) (T.e 2 Z) Z (.tail (.tail (.tail .head))) Z (by simp) Z (by kernel_rfl) ?_;clear M T;intro wc ac M T
 refine Zso hK _ _ (MA.mk (fun h=>(no_of (by kernel_rfl) h).elim) (M.perm [2] Z Z)) ?_;clear hK K
 refine Zgd (by kernel_rfl) ?_
 replace T:=T.pick [] rfl
 replace M:=M.mask [true,false,false,true] rfl
 refine nm_0 T Z ?_
 exact ⟨ga1,_,Z,M.permT [1,0] 2 Z Z Z Z⟩
theorem vtake2_any (bb gs:Nat) (b:Bx) (A:Option Addr) (c:Nat) (B:Option Addr) (d:Nat) (Ia Ib:List (Nat×BA)) (exq:Nat→Prop) (X:Option Addr) (cx:Nat) (Y:Option Addr) (cy:Nat) (ny bX oX:Nat) (s0 s1 s2 s3:Int) (w:World) (hj:b.highs.length≤800000) (hsB:Sl 77 4 (.slice B b.highs.length d) b.highs.length (sc b.highs) Ib) (SX:Sp w exq [] X 2 2 bX oX (rc [(s0,s1),(s2,s3)])) (M0:Mem w exq w ((bb,.cells (bxM b (.slice A b.lows.length c) (.slice B b.highs.length d)))::(Ia++Ib))) (qs:Bk w gs #[.func (.func 111) #[] #[]]) (hgs : ¬ exq gs) :
  Calls prog 114 #[Zj bb,.agg #[.slice X 2 cx,.slice Y ny cy],Zj gs] w fun e w'=>∃ g cap,e=.returned (.tuple #[])∧Mem w exq w' ((bb,.cells (Zbm b (.slice A b.lows.length c) (.slice (some ⟨g,0,none⟩) (b.highs.length+1) cap)))::(g,.row 77 4 (b.highs.length+1) (sc b.highs++sc [⟨s0,s1,s2,s3⟩]) cap)::Ia):=by
 refine Zpx exq func114 Z 17 Z [Zj bb,.agg #[.slice X 2 cx,.slice Y ny cy],Zj gs] Z Z M0 ?_
 intro ac wc T M
 refine Zsr ?_
 refine Zl2 ?_
 refine Zob M T Z Z Z Z (T.e 1 Z) Z ?_;clear M T;intro g1 wc ac M T
 replace T:=T.pick [0,1,3] rfl
 refine Zln ?_
 refine Zgs M (M.perm [0] Z Z) 13 (by kernel_rfl) Z (by kernel_rfl) ?_
 clear M;intro wc M
 refine g_addG 12 ((M.mask [true,true] Z).sub (List.Sublist.cons_cons _ (List.Sublist.cons_cons _ (Zsl _ _)))) ?_
 refine Zgq T 0 1 Z (fun _=>(Zrm Z (T.e 1 Z))) ?_;intro ac T
 refine Zgq T 1 3 Z (fun _=>(Zrm Z (T.e 2 Z))) ?_;intro ac T
 refine Zgq T 2 7 Z (fun _=>(rn_nil Z (T.e 0 Z))) ?_;intro ac T
 refine Zgq (v:=(.pointer (some ⟨bb,6,none⟩))) T 3 15 Z (fun _=>(Zrg 6 Z (T.e 0 Z))) ?_;intro ac T
 refine gq T 4 31 Z (fun B w' hD hl hS=>(Zro (Mem.nth (show Mem w exq w' _ from ((MA.lft hS) (hD.wait (i:=4) (m:=12) (by kernel_rfl) hl))) 1 Z) Z (T.e 0 Z) Z)) ?_;intro ac T
 refine gq T 5 63 Z (fun B w' hD hl hS=>(Zro (Mem.old (show Mem w exq w' _ from ((MA.lft hS) (hD.wait (i:=5) (m:=12) (by kernel_rfl) hl))) qs hgs) Z (T.e 7 Z) Z)) ?_;intro ac T
 refine gq T 6 127 Z (fun B w' hD hl hS=>(Zrr (Mem.nth (show Mem w exq w' _ from ((MA.lft hS) (hD.wait (i:=6) (m:=12) (by kernel_rfl) hl))) 0 Z) Z (T.e 6 Z) Z)) ?_;intro ac T
 refine gw 7 255 ?_;intro K hK
 refine Zod T Z Z Z Z (T.e 1 Z) (.cons (T.e 0 Z) .nil) func111 Z Z ?_
 refine Calls.mono (sound1_any X cx Y cy ny s0 s1 s2 s3 _ (SX.rd M (Zz9 _))) ?_
 clear T;rintro e wc ⟨rfl,hb⟩ ac T
 replace M:=M.call hb;clear hb
 refine Zso hK _ _ (MA.mk (fun _=>(M.mask [true,true] Z).sub (List.Sublist.cons_cons _ (List.Sublist.cons_cons _ (Zsl _ _)))) (M.perm [0] Z Z)) ?_;clear hK K
 refine gw 8 511 ?_;intro K hK
 refine ow_bs (e:=77) [Zi s0,Zi s1,Zi s2,Zi s3] M T Z Z Z Z (.cons (T.e 0 Z) .nil) (fun _=>by kernel_rfl) ?_;clear M T;intro g2 wc ac M T
 refine Zso hK _ _ (MA.mk (fun _=>(M.mask [false,true,true] Z).sub (List.Sublist.cons_cons _ (List.Sublist.cons_cons _ (Zsl _ _)))) (M.perm [1] Z Z)) ?_;clear hK K
 refine gw 9 1023 ?_;intro K hK
 refine ow_app (((g2,.cells [Zi s0,Zi s1,Zi s2,Zi s3])::(g1,.cells [.slice X 2 cx,.slice Y ny cy])::(bb,.cells (bxM b (.slice A b.lows.length c) (.slice B b.highs.length d)))::Ia)) Tryz.info77 hsB M (by first | rfl | simp) T Z Z Z Z underlying24 Z Z Z (by omega) (T.e 4 Z) (T.e 0 Z) (Zne (i:=0) Z) Z Z ?_;clear M T;intro ga1 cga1 wc ac M T
 refine Zso hK _ _ (MA.mk (fun _=>M.mask [false,false,true,true] Z) (M.perm [2] Z Z)) ?_;clear hK K
 refine Zgq T 10 2047 Z (fun _=>(rn_nil Z (T.e 9 Z))) ?_;intro ac T
 refine Zgq (v:=(.pointer (some ⟨bb,6,none⟩))) T 11 4095 Z (fun _=>(Zrg 6 Z (T.e 0 Z))) ?_;intro ac T
 refine gw 12 8191 ?_;intro K hK
 refine Zos M T Z Z (T.e 0 Z) (T.e 2 Z) Z (.tail (.tail (.tail .head))) Z (by simp) Z (by kernel_rfl) ?_;clear M T;intro wc ac M T
 refine Zso hK _ _ (MA.mk (fun h=>(no_of (by kernel_rfl) h).elim) (M.perm [2] Z Z)) ?_;clear hK K
 refine Zgd (by kernel_rfl) ?_
 replace T:=T.pick [] rfl
 replace M:=M.mask [true,false,false,true] rfl
 refine nm_0 T Z ?_
 exact ⟨ga1,_,Z,M.permT [1,0] 2 Z Z Z Z⟩
def sumF {α:Type} (f:α→Nat):List α→Nat
 | []=>0
 | x::l=>f x+sumF f l
theorem sumF_app {α:Type} (f:α→Nat):∀ (l m:List α),sumF f (l++m)=sumF f l+sumF f m
 | [],m=>(Zxa _).symm
 | x::l,m=>by show f x+sumF f (l++m)=f x+sumF f l+sumF f m;rw [sumF_app f l m,Nat.add_assoc]
theorem sumF_cons {α:Type} (f:α→Nat) (x:α) (l:List α):sumF f (x::l)=f x+sumF f l:=rfl
theorem sumF_nil {α:Type} (f:α→Nat):sumF f ([]:List α)=0:=rfl
open Classical in
theorem perm_sum {α:Type} {L L':List α} (h:∀ f:α→Nat,sumF f L=sumF f L'):L.Perm L':=by
 have key:∀ (a:α) (l:List α),l.count a=sumF (fun x=>if x=a then 1 else 0) l:=by
  intro a l
  induction l with
  | nil=>rfl
  | cons x l ih =>
   rw [List.count_cons,ih,sumF_cons,Nat.add_comm]
   by_cases hx:x=a <;> simp [hx]
 rw [List.perm_iff_count]
 intro a
 rw [key,key,h]
section
variable {w0 w:World} {ex:Nat→Prop} {L L':List (Nat×BA)}
theorem Mem.permS (M:Mem w0 ex w L) (h:∀ f:(Nat×BA)→Nat,sumF f L=sumF f L'):Mem w0 ex w L' :=
 have hp:=perm_sum h
 ⟨M.os,M.tape,M.output,M.size,M.block,fun p h=>M.blk p (hp.mem_iff.2 h),(hp.map _).nodup_iff.1 M.nd⟩
theorem Mem.subS (R:List (Nat×BA)) (M:Mem w0 ex w L) (h:∀ f:(Nat×BA)→Nat,sumF f L=sumF f L'+sumF f R):Mem w0 ex w L' :=
 (M.permS (L':=L'++R) fun f=>by rw [sumF_app,h f]).sub (Zsl _ _)
end
def fb (c:UInt8):Bool:=!(c == 110)
theorem fb_n {c:UInt8} (h:((c.toNat:Nat):Int)=110):fb c=false:=by
 have:c=110:=UInt8.toNat_inj.1 (by show c.toNat=110;omega)
 subst this
 rfl
theorem fb_r {c:UInt8} (h : ¬ ((c.toNat:Nat):Int)=110):fb c=true:=by
 have:c≠110:=fun e=>h (by rw [e];rfl)
 unfold fb
 simp [this]
def andQ:Option (List Int)→Option (List Int)→Option (List Int)
 | some a,some b=>some (a++b)
 | _,_=>none
theorem andQ_zero (o:Option (List Int)):andQ (some []) o=o:=by cases o <;> rfl
theorem andQ_none (o:Option (List Int)):andQ o none=none:=by cases o <;> rfl
theorem andQ_put (xs ys:List Int) (o:Option (List Int)):andQ (some xs) (andQ (some ys) o)=andQ (some (xs++ys)) o:=by
 cases o <;> simp [andQ]
theorem valsQ_cons (f:Bool) (fs:List Bool) (p:List UInt8) (ws:List (List UInt8)):valsQ (f::fs) (p::ws)=andQ (wordQ f p) (valsQ fs ws):=by
 rw [valsQ]
 cases wordQ f p <;> cases valsQ fs ws <;> rfl
theorem drop_at {α:Type} {l:List α} {i:Nat} {x:α} (h:l[i]? = some x):l.drop i=x::l.drop (i+1):=by
 rw [List.drop_eq_getElem_cons (List.getElem?_eq_some_iff.1 h).1,(List.getElem?_eq_some_iff.1 h).2]
theorem valsQ_step {fm:List UInt8} {ws:List (List UInt8)} {i:Nat} {f:UInt8} {p:List UInt8} (h1:fm[i]? = some f) (h2:ws[i]? = some p):valsQ ((fm.map fb).drop i) (ws.drop i)=andQ (wordQ (fb f) p) (valsQ ((fm.map fb).drop (i+1)) (ws.drop (i+1))):=by
 rw [drop_at (l:=fm.map fb) (x:=fb f) (by rw [List.getElem?_map,h1];rfl),drop_at h2,valsQ_cons]
theorem wordQ_num {p:List UInt8} {n:Int} (hv:∀ v,numP p=some v→n=v) (h:(!(numP p).isSome)=false):wordQ false p=some [n]:=by
 unfold wordQ
 rw [if_neg (by decide)]
 cases e:numP p with
 | none=>rw [e] at h;cases h
 | some v=>rw [hv v e];rfl
theorem wordQ_nonum {p:List UInt8} (h:(!(numP p).isSome)=true):wordQ false p=none:=by
 unfold wordQ
 rw [if_neg (by decide)]
 cases e:numP p with
 | none=>rfl
 | some v=>rw [e] at h;cases h
theorem rangeQ_cut (p:List UInt8):rangeQ p=if (Lib.cut p [46,46]).2.2=true then (match numP (Lib.cut p [46,46]).1,numP (Lib.cut p [46,46]).2.1 with
  | some a,some b=>some [a,b]
  | _,_=>none) else none:=by
 unfold rangeQ
 rw [cut_two]
 cases cut2 p with
 | none=>rfl
 | some x=>rfl
theorem wordQ_rg {p:List UInt8} {a b:Int} (h:(!(Lib.cut p [46,46]).2.2 || (!(numP (Lib.cut p [46,46]).1).isSome || !(numP (Lib.cut p [46,46]).2.1).isSome))=false) (h1:∀ v,numP (Lib.cut p [46,46]).1=some v→a=v) (h2:∀ v,numP (Lib.cut p [46,46]).2.1=some v→b=v):wordQ true p=some [a,b]:=by
 unfold wordQ
 rw [if_pos rfl,rangeQ_cut]
 simp only [Bool.or_eq_false_iff,Bool.not_eq_false'] at h
 obtain ⟨h3,h4,h5⟩:=h
 rw [if_pos h3]
 cases e1:numP (Lib.cut p [46,46]).1 with
 | none=>rw [e1] at h4;cases h4
 | some x =>
  cases e2:numP (Lib.cut p [46,46]).2.1 with
  | none=>rw [e2] at h5;cases h5
  | some y =>
   obtain rfl:=h1 x e1
   obtain rfl:=h2 y e2
   rfl
theorem wordQ_norg {p:List UInt8} (h:(!(Lib.cut p [46,46]).2.2 || (!(numP (Lib.cut p [46,46]).1).isSome || !(numP (Lib.cut p [46,46]).2.1).isSome))=true):wordQ true p=none:=by
 unfold wordQ
 rw [if_pos rfl,rangeQ_cut]
 split
 ·rename_i h1
  cases h2:numP (Lib.cut p [46,46]).1 with
  | none=>rfl
  | some a =>
   cases h3:numP (Lib.cut p [46,46]).2.1 with
   | none=>rfl
   | some b=>rw [h1,h2,h3] at h;cases h
 ·rfl
theorem cut2_len (s:List UInt8):(Lib.cut s [46,46]).1.length≤s.length∧(Lib.cut s [46,46]).2.1.length≤s.length:=by
 rw [cut_two]
 cases h:cut2 s with
 | none=>exact ⟨Nat.le_refl _,Nat.zero_le _⟩
 | some x =>
  have:=cut2_spec (a:=x.1) (z:=x.2) h
  have h2:=congrArg List.length this
  simp only [Zx3,Zx1] at h2
  exact ⟨by dsimp only;omega,by dsimp only;omega⟩
def mixV:List Bool→List (Int×Int)→List Int→List Int
 | true::fs,r::R,N=>r.1::r.2::mixV fs R N
 | false::fs,R,n::N=>n::mixV fs R N
 | _,_,_=>[]
def cntT:List Bool→Nat
 | []=>0
 | true::fs=>cntT fs+1
 | false::fs=>cntT fs
def cntF:List Bool→Nat
 | []=>0
 | true::fs=>cntF fs
 | false::fs=>cntF fs+1
theorem cntT_snoc (f:Bool):∀ fs,cntT (fs++[f])=cntT fs+cntT [f]
 | []=>(Zxa _).symm
 | true::fs=>by show cntT (fs++[f])+1=_;rw [cntT_snoc f fs];show _=cntT fs+1+_;omega
 | false::fs=>by show cntT (fs++[f])=_;rw [cntT_snoc f fs];rfl
theorem cntF_snoc (f:Bool):∀ fs,cntF (fs++[f])=cntF fs+cntF [f]
 | []=>(Zxa _).symm
 | false::fs=>by show cntF (fs++[f])+1=_;rw [cntF_snoc f fs];show _=cntF fs+1+_;omega
 | true::fs=>by show cntF (fs++[f])=_;rw [cntF_snoc f fs];rfl
theorem mix_true (a b:Int):∀ (fs:List Bool) (R:List (Int×Int)) (N:List Int),R.length=cntT fs→N.length=cntF fs→mixV (fs++[true]) (R++[(a,b)]) N=mixV fs R N++[a,b]
 | [],[],[],_,_=>rfl
 | [],_::_,_,h,_=>by cases h
 | [],[],_::_,_,h=>by cases h
 | true::fs,r::R,N,h1,h2=>by
  show r.1::r.2::mixV (fs++[true]) (R++[(a,b)]) N=_
  rw [mix_true a b fs R N (by simpa [cntT] using h1) h2];rfl
 | false::fs,R,n::N,h1,h2=>by
  show n::mixV (fs++[true]) (R++[(a,b)]) N=_
  rw [mix_true a b fs R N h1 (by simpa [cntF] using h2)];rfl
 | true::fs,[],N,h,_=>by simp only [Zx2,cntT] at h;omega
 | false::fs,R,[],_,h=>by simp only [Zx2,cntF] at h;omega
theorem mix_false (a:Int):∀ (fs:List Bool) (R:List (Int×Int)) (N:List Int),R.length=cntT fs→N.length=cntF fs→mixV (fs++[false]) R (N++[a])=mixV fs R N++[a]
 | [],[],[],_,_=>rfl
 | [],_::_,_,h,_=>by cases h
 | [],[],_::_,_,h=>by cases h
 | true::fs,r::R,N,h1,h2=>by
  show r.1::r.2::mixV (fs++[false]) R (N++[a])=_
  rw [mix_false a fs R N (by simpa [cntT] using h1) h2];rfl
 | false::fs,R,n::N,h1,h2=>by
  show n::mixV (fs++[false]) R (N++[a])=_
  rw [mix_false a fs R N h1 (by simpa [cntF] using h2)];rfl
 | true::fs,[],N,h,_=>by simp only [Zx2,cntT] at h;omega
 | false::fs,R,[],_,h=>by simp only [Zx2,cntF] at h;omega
theorem take_fb {fm:List UInt8} {i:Nat} {f:UInt8} (h:fm[i]? = some f):(fm.map fb).take (i+1)=(fm.map fb).take i++[fb f]:=take_sn (by rw [List.getElem?_map,h];rfl)
structure MixQ (fm:List UInt8) (i:Nat) (xs:List Int) (R:List (Int×Int)) (N:List Int):Prop where
 mix:xs=mixV ((fm.map fb).take i) R N
 ct:R.length=cntT ((fm.map fb).take i)
 cf:N.length=cntF ((fm.map fb).take i)
theorem MixQ.start (fm:List UInt8):MixQ fm 0 [] [] []:=⟨rfl,rfl,rfl⟩
theorem MixQ.num {fm:List UInt8} {i:Nat} {xs:List Int} {R:List (Int×Int)} {N:List Int} {f:UInt8} (q:MixQ fm i xs R N) (h:fm[i]? = some f) (hf:fb f=false) (n:Int):MixQ fm (i+1) (xs++[n]) R (N++[n]):=by
 refine ⟨?_,?_,?_⟩
 · rw [take_fb h,hf,mix_false n _ _ _ q.ct q.cf,← q.mix]
 · rw [take_fb h,hf,cntT_snoc,q.ct];rfl
 · rw [take_fb h,hf,cntF_snoc,Zx3,q.cf];rfl
theorem MixQ.rg {fm:List UInt8} {i:Nat} {xs:List Int} {R:List (Int×Int)} {N:List Int} {f:UInt8} (q:MixQ fm i xs R N) (h:fm[i]? = some f) (hf:fb f=true) (a b:Int):MixQ fm (i+1) (xs++[a,b]) (R++[(a,b)]) N:=by
 refine ⟨?_,?_,?_⟩
 · rw [take_fb h,hf,mix_true a b _ _ _ q.ct q.cf,← q.mix]
 · rw [take_fb h,hf,cntT_snoc,Zx3,q.ct];rfl
 · rw [take_fb h,hf,cntF_snoc,q.cf];rfl
def fmL:List UInt8:=[110,110,110,110,110]
def fmA:List UInt8:=[114,114]
def fmF:List UInt8:=[114,114,114,114,110,114,114,110]
theorem kv_prog {k:Kv} {fm s w0:List UInt8} (hk:k.form=fm.map fb) (h:(spl 44 s)[0]? = some w0) (hw:w0=k.word):k.rd s=valsQ (fm.map fb) ((spl 44 s).drop 1):=by
 unfold Kv.rd
 cases e:spl 44 s with
 | nil=>rw [e] at h;cases h
 | cons v ws =>
  rw [e] at h
  obtain rfl:v=w0:=Option.some.inj h
  dsimp only
  rw [if_pos hw,hk]
  rfl
theorem valsQ_short:∀ {fm:List Bool} {ws:List (List UInt8)},ws.length≠fm.length→valsQ fm ws=none
 | [],[],h=>absurd rfl h
 | [],_::_,_=>rfl
 | true::_,[],_=>rfl
 | false::_,[],_=>rfl
 | f::fs,p::ws,h=>by
  rw [valsQ_cons,valsQ_short (fm:=fs) (ws:=ws) (fun e=>h (by simp [e])),andQ_none]
theorem kv_no {k:Kv} {fm s w0:List UInt8} (hk:k.form=fm.map fb) (h:(spl 44 s)[0]? = some w0) (hb : ¬ (w0=k.word∧(spl 44 s).length=1+fm.length)):k.rd s=none:=by
 unfold Kv.rd
 cases e:spl 44 s with
 | nil=>rfl
 | cons v ws =>
  rw [e] at h hb
  obtain rfl:v=w0:=Option.some.inj h
  dsimp only
  split
  ·rename_i hc
   refine valsQ_short fun e2=>hb ⟨hc,?_⟩
   rw [hk,List.length_map] at e2
   rw [Zx1,e2,Nat.add_comm]
  ·rfl
theorem condV_ok {a w:List UInt8} {x y:Int} (h:(!decide (a=w) || !decide (x=y))=false):a=w∧x=y:=by simpa using h
theorem condV_bad {a w:List UInt8} {x y:Int} (h:(!decide (a=w) || !decide (x=y))=true) : ¬ (a=w∧x=y):=by
 rintro ⟨rfl,rfl⟩
 simp at h
theorem spl_len (c:UInt8):∀ s:List UInt8,(spl c s).length≤s.length+1
 | []=>Nat.le_refl _
 | b::r=>by
  have:=spl_len c r
  unfold spl
  split
  ·rw [Zx1,Zx1];omega
  ·split
   ·simp only [Zx1,Zx2];omega
   ·rename_i h;rw [h] at this;rw [Zx1] at this ⊢;rw [Zx1];omega
theorem spl_mem_len {c:UInt8}:∀ {s p:List UInt8},p∈spl c s→p.length≤s.length
 | [],p,h=>by rcases List.mem_singleton.1 h with rfl;exact Nat.le_refl _
 | b::r,p,h=>by
  have ih:=fun {p}=>spl_mem_len (c:=c) (s:=r) (p:=p)
  unfold spl at h
  split at h
  ·rcases Zx7.1 h with rfl | h
   ·exact Nat.zero_le _
   ·have:=ih h;rw [Zx1];omega
  ·split at h
   ·rcases List.mem_singleton.1 h with rfl;simp only [Zx1,Zx2];omega
   ·rename_i x l e
    rcases Zx7.1 h with rfl | h
    ·have:=ih (p:=x) (by rw [e];exact Zz2);rw [Zx1,Zx1];omega
    ·have:=ih (p:=p) (by rw [e];exact Zz1 h);rw [Zx1];omega
theorem st_map (l:List (List UInt8)):st l=l.map fun p=>sv p:=by
 unfold st
 induction l with
 | nil=>rfl
 | cons a l ih=>rw [List.flatMap_cons,ih];rfl
theorem st_part (l:List (List UInt8)) (k h:Nat):((st l).drop (k * 1)).take ((h - k) * 1)=st ((l.drop k).take (h - k)):=by
 rw [Nat.mul_one,Nat.mul_one,st_map,st_map,List.map_take,List.map_drop]
theorem st_length2 (l:List (List UInt8)):(st l).length=l.length:=by rw [st_map,List.length_map]
theorem row_sp {w:World} {ex:Nat→Prop} {g:Nat} (l:List (List UInt8)):Sp w ex [(g,.cells (st l))] (some ⟨g,0,none⟩) l.length 1 g 0 (st l):=Sp.cells (by rw [st_length2];omega)
def SplP (l:List (List UInt8)) (w:World) (e:Ending) (w':World):Prop:=∃ (A:Option Addr) (c b o:Nat) (I:List (Nat×BA)),e=.returned (.slice A l.length c)∧l.length≤c∧(∀ (w:World) (ex:Nat→Prop),Sp w ex I A l.length 1 b o (st l))∧Mem w noEx w' I
theorem Split2_any (s:List UInt8) (c:UInt8) (w:World) (hs:s.length≤1000000) (hT:StrW w):Calls prog 46 #[sv s,sv [c]] w (SplP (spl c s) w):=by
 refine (Split_any s c w hs hT).mono fun e w' h=>?_
 obtain ⟨g,rfl,M⟩:=h
 exact ⟨_,_,g,0,_,Z,Nat.le_refl _,fun _ _=>row_sp _,M⟩
theorem Sl.ne {w0 w:World} {ex:Nat→Prop} {e size n c g:Nat} {A:Option Addr} {xs:List Value} {I:List (Nat×BA)} {q:BA} (h:Sl e size (.slice A n c) n xs I) (M:Mem w0 ex w ((g,q)::I)):∀ b o,A=some ⟨b,o,none⟩→b≠g:=by
 intro b o hA hb
 rcases h with ⟨h1,-,-,-⟩ | ⟨g2,cap,h1,rfl⟩
 ·injection h1 with h1;rw [hA] at h1;cases h1
 ·injection h1 with h1
  rw [hA] at h1
  injection h1 with h1
  injection h1 with h1
  have:=M.nd
  subst hb
  subst h1
  simp at this
def KeptB (bb:Nat) (b:Bx) (L:List (Nat×BA)):Prop:=∃ A c B d Ia Ib,L=(bb,.cells (boxL b A c B d))::(Ia++Ib)∧Sl 77 4 (.slice A b.lows.length c) b.lows.length (sc b.lows) Ia∧Sl 77 4 (.slice B b.highs.length d) b.highs.length (sc b.highs) Ib
def putQ (k:Nat) (o:Option (List Int)) (b:Bx):Bx:=match o with
 | none=>b
 | some x=>putV k x b
def LineB (o:Option (List Int)) (w:World) (exq:Nat→Prop) (bb k:Nat) (b:Bx) (e:Ending) (w':World):Prop:=e=.returned (.bool o.isSome)∧∃ L,Mem w exq w' L∧KeptB bb (putQ k o b) L
theorem LineB.none {o:Option (List Int)} {w w':World} {exq:Nat→Prop} {bb k:Nat} {b:Bx} {L:List (Nat×BA)} (h:o=.none) (M:Mem w exq w' L) (hk:KeptB bb b L):LineB o w exq bb k b (.returned (.bool false)) w':=by
 subst h
 exact ⟨rfl,L,M,hk⟩
theorem len5 {N:List Int} (h:N.length=5):∃ a b c d e,N=[a,b,c,d,e]:=by
 match N,h with
 | [a,b,c,d,e],_=>exact ⟨a,b,c,d,e,rfl⟩
theorem len2 {N:List Int} (h:N.length=2):∃ a b,N=[a,b]:=by
 match N,h with
 | [a,b],_=>exact ⟨a,b,rfl⟩
theorem len2r {R:List (Int×Int)} (h:R.length=2):∃ a b c d,R=[(a,b),(c,d)]:=by
 match R,h with
 | [(a,b),(c,d)],_=>exact ⟨a,b,c,d,rfl⟩
theorem len6r {R:List (Int×Int)} (h:R.length=6):∃ a b c d e f g i j k l m,R=[(a,b),(c,d),(e,f),(g,i),(j,k),(l,m)]:=by
 match R,h with
 | [(a,b),(c,d),(e,f),(g,i),(j,k),(l,m)],_=>exact ⟨a,b,c,d,e,f,g,i,j,k,l,m,rfl⟩
theorem vtq0 (bb:Nat) (b:Bx) (A:Option Addr) (c:Nat) (B:Option Addr) (d:Nat) (X:Option Addr) (cx:Nat) (Y:Option Addr) (cy:Nat) (RR:List (Int×Int)) (NN:List Int) (n0 n1 n2 n3 n4:Int) (hR:RR=[]) (hN:NN=[n0,n1,n2,n3,n4]) (w:World) (hq:Bk w bb (Zbr b A c B d)) (hx:Rd w w.heap.size 2 X RR.length (rc RR)) (hxe:∀ b o,X=some ⟨b,o,none⟩→b≠bb) (hy:Rd w w.heap.size 1 Y NN.length (ic NN)) (hye:∀ b o,Y=some ⟨b,o,none⟩→b≠bb) :
  Calls prog 112 #[Zj bb,.agg #[.slice X RR.length cx,.slice Y NN.length cy]] w fun e w'=>e=.returned (.tuple #[])∧Mem w (fun b=>b=bb) w' [(bb,.cells [Zi n0,Zi n1,Zi n2,Zi n3,Zi n4,.slice A b.lows.length c,.slice B b.highs.length d,Zi b.t0,Zi b.t1,Zi b.r0,Zi b.r1,Zi b.u0,Zi b.u1,Zi b.d0,Zi b.d1,Zi b.a0,Zi b.a1,Zi b.b0,Zi b.b1,Zi b.le,Zi b.me])]:=by
 subst hR hN
 exact vtake0_any bb b A c B d X cx Y cy n0 n1 n2 n3 n4 w hq hx hxe hy hye
theorem vtq3 (bb:Nat) (b:Bx) (A:Option Addr) (c:Nat) (B:Option Addr) (d:Nat) (X:Option Addr) (cx:Nat) (Y:Option Addr) (cy:Nat) (RR:List (Int×Int)) (NN:List Int) (u0 u1 d0 d1 a0 a1 b0 b1 t0 t1 r0 r1 le me:Int) (hR:RR=[(u0,u1),(d0,d1),(a0,a1),(b0,b1),(t0,t1),(r0,r1)]) (hN:NN=[le,me]) (w:World) (hq:Bk w bb (Zbr b A c B d)) (hx:Rd w w.heap.size 2 X RR.length (rc RR)) (hxe:∀ b o,X=some ⟨b,o,none⟩→b≠bb) (hy:Rd w w.heap.size 1 Y NN.length (ic NN)) (hye:∀ b o,Y=some ⟨b,o,none⟩→b≠bb) :
  Calls prog 115 #[Zj bb,.agg #[.slice X RR.length cx,.slice Y NN.length cy]] w fun e w'=>e=.returned (.tuple #[])∧Mem w (fun b=>b=bb) w' [(bb,.cells [Zi b.first,Zi b.step,Zi b.span,Zi b.press,Zi b.note,.slice A b.lows.length c,.slice B b.highs.length d,Zi t0,Zi t1,Zi r0,Zi r1,Zi u0,Zi u1,Zi d0,Zi d1,Zi a0,Zi a1,Zi b0,Zi b1,Zi le,Zi me])]:=by
 subst hR hN
 exact vtake3_any bb b A c B d X cx Y cy u0 u1 d0 d1 a0 a1 b0 b1 t0 t1 r0 r1 le me w hq hx hxe hy hye
theorem vtq1 (bb gs:Nat) (b:Bx) (A:Option Addr) (c:Nat) (B:Option Addr) (d:Nat) (Ia Ib:List (Nat×BA)) (exq:Nat→Prop) (X:Option Addr) (cx:Nat) (Y:Option Addr) (cy:Nat) (ny bX oX:Nat) (RR:List (Int×Int)) (s0 s1 s2 s3:Int) (hR:RR=[(s0,s1),(s2,s3)]) (w:World) (hj:b.lows.length≤800000) (hsA:Sl 77 4 (.slice A b.lows.length c) b.lows.length (sc b.lows) Ia) (SX:Sp w exq [] X RR.length 2 bX oX (rc RR)) (M0:Mem w exq w ((bb,.cells (bxM b (.slice A b.lows.length c) (.slice B b.highs.length d)))::(Ib++Ia))) (qs:Bk w gs #[.func (.func 111) #[] #[]]) (hgs : ¬ exq gs) :
  Calls prog 113 #[Zj bb,.agg #[.slice X RR.length cx,.slice Y ny cy],Zj gs] w fun e w'=>∃ g cap,e=.returned (.tuple #[])∧Mem w exq w' ((bb,.cells (Zbm b (.slice (some ⟨g,0,none⟩) (b.lows.length+1) cap) (.slice B b.highs.length d)))::(g,.row 77 4 (b.lows.length+1) (sc b.lows++sc [⟨s0,s1,s2,s3⟩]) cap)::Ib):=by
 subst hR
 exact vtake1_any bb gs b A c B d Ia Ib exq X cx Y cy ny bX oX s0 s1 s2 s3 w hj hsA SX M0 qs hgs
theorem vtq2 (bb gs:Nat) (b:Bx) (A:Option Addr) (c:Nat) (B:Option Addr) (d:Nat) (Ia Ib:List (Nat×BA)) (exq:Nat→Prop) (X:Option Addr) (cx:Nat) (Y:Option Addr) (cy:Nat) (ny bX oX:Nat) (RR:List (Int×Int)) (s0 s1 s2 s3:Int) (hR:RR=[(s0,s1),(s2,s3)]) (w:World) (hj:b.highs.length≤800000) (hsB:Sl 77 4 (.slice B b.highs.length d) b.highs.length (sc b.highs) Ib) (SX:Sp w exq [] X RR.length 2 bX oX (rc RR)) (M0:Mem w exq w ((bb,.cells (bxM b (.slice A b.lows.length c) (.slice B b.highs.length d)))::(Ia++Ib))) (qs:Bk w gs #[.func (.func 111) #[] #[]]) (hgs : ¬ exq gs) :
  Calls prog 114 #[Zj bb,.agg #[.slice X RR.length cx,.slice Y ny cy],Zj gs] w fun e w'=>∃ g cap,e=.returned (.tuple #[])∧Mem w exq w' ((bb,.cells (Zbm b (.slice A b.lows.length c) (.slice (some ⟨g,0,none⟩) (b.highs.length+1) cap)))::(g,.row 77 4 (b.highs.length+1) (sc b.highs++sc [⟨s0,s1,s2,s3⟩]) cap)::Ia):=by
 subst hR
 exact vtake2_any bb gs b A c B d Ia Ib exq X cx Y cy ny bX oX s0 s1 s2 s3 w hj hsB SX M0 qs hgs
theorem Sl.spW {e n c size:Nat} {A:Option Addr} {xs:List Value} {I:List (Nat×BA)} (h:Sl e size (.slice A n c) n xs I) (hl:xs.length=n * size):∃ b o,∀ (w:World) (ex:Nat→Prop),Sp w ex I A n size b o xs:=by
 rcases h with ⟨h1,rfl,rfl,rfl⟩ | ⟨g,cap,h1,rfl⟩
 ·exact ⟨0,0,fun w ex=>Sp.nil⟩
 ·injection h1 with h1 _ h2
  subst h1
  exact ⟨g,0,fun w ex=>Sp.row (by omega)⟩
theorem inL_left {X F:List (Nat×BA)}:∀ b,inL X b→inL (X++F) b:=fun b h=>by
 obtain ⟨q,hq,rfl⟩:=List.mem_map.1 h
 exact List.mem_map.2 ⟨q,List.mem_append_left _ hq,Z⟩
def TakeH (k:Nat) (fm:List UInt8) (F:Nat) (cap:List Value) (bb:Nat) (b:Bx) (A:Option Addr) (c:Nat) (B:Option Addr) (d:Nat) (Ia Ib:List (Nat×BA)) (exq:Nat→Prop) (w:World):Prop:=∀ (R:List (Int×Int)) (N xs:List Int) (X:Option Addr) (cx:Nat) (Y:Option Addr) (cy:Nat) (It Iu Fr:List (Nat×BA)) (wc:World),MixQ fm fm.length xs R N→Sl 26 2 (.slice X R.length cx) R.length (rc R) It→Sl 3 1 (.slice Y N.length cy) N.length (ic N) Iu→Mem w exq wc ((bb,.cells (bxM b (.slice A b.lows.length c) (.slice B b.highs.length d)))::(Ia++Ib++(It++Iu++Fr))) →
  Calls prog F ([Value.pointer (some ⟨bb,0,none⟩),Value.agg #[.slice X R.length cx,.slice Y N.length cy]]++cap).toArray wc fun e w'=>e=.returned (.tuple #[])∧∃ L,Mem w exq w' L∧KeptB bb (putV k xs b) L
theorem vreadG_any (kv : Kv) (fm : List UInt8) (k F : Nat) (fnF : Func) (cap : List Value) (s : List UInt8) (bb : Nat) (b : Bx) (A : Option Addr) (c : Nat) (B : Option Addr) (d : Nat) (Ia Ib : List (Nat × BA)) (exq : Nat → Prop) (w : World) (hk : kv.form = fm.map fb) (hfl9 : fm.length ≤ 8) (hF : prog.funcs[F]? = some fnF) (hnm9 : (fnF.name == "runtime.NumGoroutine") = false) (hbF : fnF.body.isNone = false) (hs : s.length ≤ 800000) (hT : ∀ wc L, Mem w exq wc L → StrW wc) (hsA : Sl 77 4 (.slice A b.lows.length c) b.lows.length (sc b.lows) Ia) (hsB : Sl 77 4 (.slice B b.highs.length d) b.highs.length (sc b.highs) Ib) (M0 : Mem w exq w ((bb, .cells (bxM b (.slice A b.lows.length c) (.slice B b.highs.length d))) :: (Ia ++ Ib))) (htake : TakeH k fm F cap bb b A c B d Ia Ib exq w) :
   Calls prog 49 #[.agg #[sv kv.word,sv fm,.func (.func F) #[] cap.toArray],Zj bb,sv s] w (LineB (kv.rd s) w exq bb k b):=by
 refine Zpx exq func49 Z 103 Z [.agg #[sv kv.word,sv fm,.func (.func F) #[] cap.toArray],Zj bb,sv s] Z Z M0 ?_
 intro ac wc T M
 refine Zsr ?_
 refine Zl2 ?_
 refine Zob M T Z Z Z Z (T.e 0 Z) Z ?_;clear M T;intro g1 wc ac M T
 refine lq T (Zra Z evc) ?_;intro ac T
 replace T:=T.pick [1,3,4] rfl
 refine Zln ?_
 refine Zsr ?_
 refine lq T (Zrm Z (T.e 2 Z)) ?_;intro ac T
 refine Zl2 ?_
 refine Zod T Z Z Z Z evf (.cons (T.e 0 Z) (.cons evc .nil)) func46 Z Z ?_
 refine Calls.mono (Split2_any s 44 _ (by omega) (hT _ _ M)) ?_
 clear T;rintro e wc ⟨Au1,cu1,bu1,ou1,Iu1,rfl,hc9u1,SVu1,N⟩ ac T
 obtain ⟨lsu1,hlsu1⟩:∃ q,q=spl 44 s:=⟨_,rfl⟩
 rw [← hlsu1] at hc9u1 SVu1 T
 have Su1:=SVu1 w exq
 replace M:=(M.join N).swapI
 clear N
 replace M:Mem w exq wc ((g1,.cells [sv kv.word,sv fm,.func (.func F) #[] cap.toArray])::(bb,.cells (bxM b (.slice A b.lows.length c) (.slice B b.highs.length d)))::(Ia++Ib++Iu1)):=(Mem.permS (L':=((g1,.cells [sv kv.word,sv fm,.func (.func F) #[] cap.toArray])::(bb,.cells (bxM b (.slice A b.lows.length c) (.slice B b.highs.length d)))::(Ia++Ib++Iu1))) M (fun f=>by simp only [bxM,boxL,sumF_app,sumF_cons,sumF_nil,Zx6,Zx5,Zx4,Zx0,Zxa] <;> omega))
 have hlenu1:lsu1.length≤s.length+1:=by rw [hlsu1];exact spl_len _ _
 have hposu1:0 < lsu1.length:=by rw [hlsu1];exact spl_pos _ _
 obtain ⟨w0u1,hzu1⟩:∃ q,lsu1[0]? = some q:=⟨_,List.getElem?_eq_getElem hposu1⟩
 refine lq T (Zra Z (T.e 0 Z)) ?_;intro ac T
 replace T:=T.pick [0,3,4] rfl
 refine Zln ?_
 refine wp_seq ?_
 refine cut_seq (fun ac wc=>Tm ac 103 [(1,Zj bb),(3,Zj g1),(7,.slice Au1 lsu1.length cu1),(36,.bool ((!(decide (w0u1=kv.word))) || (!(decide (((lsu1.length:Nat):Int)=(1+((fm.length:Nat):Int)))))))]∧Mem w exq wc ((g1,.cells [sv kv.word,sv fm,.func (.func F) #[] cap.toArray])::(bb,.cells (bxM b (.slice A b.lows.length c) (.slice B b.highs.length d)))::(Ia++Ib++Iu1))) ?_ ?_
 ·refine Zgs M (M.mask [true,true] Z) 15 (by kernel_rfl) Z (by kernel_rfl) ?_
  clear M;intro wc M
  refine Zgq T 0 1 Z (fun _=>(Zrm Z (T.e 0 Z))) ?_;intro ac T
  refine Zgq T 1 3 Z (fun _=>(Zri (size:=1) 0 Z (T.e 0 Z) evc ⟨_,underlying37,by kernel_rfl⟩ Z (by omega) (Su1.at0 (by omega)))) ?_;intro ac T
  refine gq T 2 7 Z (fun B w' hD hl hS=>(rn_cell (Sp.stC0 Su1 (show Mem w exq w' _ from hS) (.cons _ (.cons _ (Zsq _ _))) hzu1) Z (T.e 0 Z))) ?_;intro ac T
  refine Zgq (v:=(Zj g1)) T 3 15 Z (fun _=>(Zrg 0 Z (T.e 4 Z))) ?_;intro ac T
  refine gq T 4 31 Z (fun B w' hD hl hS=>(Zro (Mem.nth (show Mem w exq w' _ from hS) 0 Z) Z (T.e 0 Z) Z)) ?_;intro ac T
  refine Zgq T 5 63 Z (fun _=>(rn_sneq Z (T.e 2 Z) (T.e 0 Z))) ?_;intro ac T
  refine Zgq T 6 127 Z (fun _=>(Zrm Z (T.e 0 Z))) ?_;intro ac T
  rcases Zx9 (!(decide (w0u1=kv.word))) with h1 | h1
  ·replace h1 : ¬ (w0u1=kv.word):=by first | (rw [Bool.not_eq_true'] at h1;exact of_decide_eq_false h1) | simpa using h1
   refine g_pass (T:=T) (i:=7) Z (by kernel_rfl) (by kernel_rfl:(Zpb 15 127).setIfInBounds 7 true=Zpb 15 255) si_U (fun _ _ _ h=>h) (Zwn Z Z (T.e 0 Z) (by simp [h1])) Z Z Z ?_;intro ac T
   refine g_pass (T:=T) (i:=8) Z (by kernel_rfl) (by kernel_rfl:(Zpb 15 255).setIfInBounds 8 true=Zpb 15 511) si_U (fun _ _ _ h=>h) (Zwn Z Z (T.e 1 Z) (by simp [h1])) Z Z Z ?_;intro ac T
   refine g_pass (T:=T) (i:=9) Z (by kernel_rfl) (by kernel_rfl:(Zpb 15 511).setIfInBounds 9 true=Zpb 15 1023) si_U (fun _ _ _ h=>h) (Zwn Z Z (T.e 2 Z) (by simp [h1])) Z Z Z ?_;intro ac T
   refine g_pass (T:=T) (i:=10) Z (by kernel_rfl) (by kernel_rfl:(Zpb 15 1023).setIfInBounds 10 true=Zpb 15 2047) si_U (fun _ _ _ h=>h) (Zwn Z Z (T.e 3 Z) (by simp [h1])) Z Z Z ?_;intro ac T
   refine g_pass (T:=T) (i:=11) Z (by kernel_rfl) (by kernel_rfl:(Zpb 15 2047).setIfInBounds 11 true=Zpb 15 4095) si_U (fun _ _ _ h=>h) (Zwn Z Z (T.e 4 Z) (by simp [h1])) Z Z Z ?_;intro ac T
   refine g_pass (T:=T) (i:=12) Z (by kernel_rfl) (by kernel_rfl:(Zpb 15 4095).setIfInBounds 12 true=Zpb 15 8191) si_U (fun _ _ _ h=>h) (Zwn Z Z (T.e 5 Z) (by simp [h1])) Z Z Z ?_;intro ac T
   refine g_pass (T:=T) (i:=13) Z (by kernel_rfl) (by kernel_rfl:(Zpb 15 8191).setIfInBounds 13 true=Zpb 15 16383) si_U (fun _ _ _ h=>h) (Zwn Z Z (T.e 6 Z) (by simp [h1])) Z Z Z ?_;intro ac T
   refine Zgq T 14 32767 Z (fun _=>(Zr1 Z (T.e 7 Z) (by simp [h1]) evc)) ?_;intro ac T
   refine Zgd (by kernel_rfl) ?_
   replace T:=T.pick [0,15,16,17] rfl
   exact ⟨(T.pick (E':=[(1,Zj bb),(3,Zj g1),(7,.slice Au1 lsu1.length cu1),(36,.bool true)]) [3,2,1,0] Z).as (by (try rw [show (!(decide (w0u1=kv.word)))=true from (by simp [h1])]);(try rfl)),M.mask [true,true] Z⟩
  replace h1:w0u1=kv.word:=by first | (rw [Bool.not_eq_false'] at h1;exact of_decide_eq_true h1) | simpa using h1
  refine g_q (T:=T) (i:=7) Z (by kernel_rfl) (by kernel_rfl:(Zpb 15 127).setIfInBounds 7 true=Zpb 15 255) si_U (fun _ _ _ h=>h) (Zwy Z Z (T.e 0 Z) (by simp [h1])) Z Z Z (fun _ _ _ _ _=>(Zrm Z (T.e 7 Z))) ?_;intro ac T
  refine g_q (T:=T) (i:=8) Z (by kernel_rfl) (by kernel_rfl:(Zpb 15 255).setIfInBounds 8 true=Zpb 15 511) si_U (fun _ _ _ h=>h) (Zwy Z Z (T.e 1 Z) (by simp [h1])) Z Z Z (fun _ _ _ _ _=>(Zrl Z underlying37 (T.e 0 Z))) ?_;intro ac T
  refine g_q (v:=(.pointer (some ⟨g1,1,none⟩))) (T:=T) (i:=9) Z (by kernel_rfl) (by kernel_rfl:(Zpb 15 511).setIfInBounds 9 true=Zpb 15 1023) si_U (fun _ _ _ h=>h) (Zwy Z Z (T.e 2 Z) (by simp [h1])) Z Z Z (fun _ _ _ _ _=>(Zrg 1 Z (T.e 10 Z))) ?_;intro ac T
  refine g_q (T:=T) (i:=10) Z (by kernel_rfl) (by kernel_rfl:(Zpb 15 1023).setIfInBounds 10 true=Zpb 15 2047) si_U (fun _ _ _ h=>h) (Zwy Z Z (T.e 3 Z) (by simp [h1])) Z Z Z (fun B w' hD hl hS=>(Zro (Mem.nth (show Mem w exq w' _ from hS) 0 Z) Z (T.e 0 Z) Z)) ?_;intro ac T
  refine g_q (T:=T) (i:=11) Z (by kernel_rfl) (by kernel_rfl:(Zpb 15 2047).setIfInBounds 11 true=Zpb 15 4095) si_U (fun _ _ _ h=>h) (Zwy Z Z (T.e 4 Z) (by simp [h1])) Z Z Z (fun _ _ _ _ _=>(rn_slen Z underlying9 (T.e 0 Z))) ?_;intro ac T
  refine g_q (T:=T) (i:=12) Z (by kernel_rfl) (by kernel_rfl:(Zpb 15 4095).setIfInBounds 12 true=Zpb 15 8191) si_U (fun _ _ _ h=>h) (Zwy Z Z (T.e 5 Z) (by simp [h1])) Z Z Z (fun _ _ _ _ _=>(rn_add Z evc (T.e 0 Z) (by omega))) ?_;intro ac T
  refine g_q (T:=T) (i:=13) Z (by kernel_rfl) (by kernel_rfl:(Zpb 15 8191).setIfInBounds 13 true=Zpb 15 16383) si_U (fun _ _ _ h=>h) (Zwy Z Z (T.e 6 Z) (by simp [h1])) Z Z Z (fun _ _ _ _ _=>(rn_neq Z (T.e 4 Z) (T.e 0 Z))) ?_;intro ac T
  refine Zgq T 14 32767 Z (fun _=>(Zr0 Z (T.e 7 Z) (by simp [h1]) (T.e 0 Z))) ?_;intro ac T
  refine Zgd (by kernel_rfl) ?_
  replace T:=T.pick [0,15,16,17] rfl
  exact ⟨(T.pick (E':=[(1,Zj bb),(3,Zj g1),(7,.slice Au1 lsu1.length cu1),(36,.bool (!(decide (((lsu1.length:Nat):Int)=(1+((fm.length:Nat):Int))))))]) [3,2,1,0] Z).as (by (try rw [show (!(decide (w0u1=kv.word)))=false from (by simp [h1])]);(try rfl)),M.mask [true,true] Z⟩
 clear T M
 rintro ac wc ⟨T,M⟩
 refine wp_cond_split (T.e 3 Z) ?_ ?_
 ·intro h2
  (have h2':=h2;try simp only [Zb1,Zb2,Zb3,Zb4,Zb5,Zb6,Zb7] at h2')
  refine Zsr ?_
  refine lq T (Zra Z evc) ?_;intro ac T
  refine wpList_nil ?_
  replace T:=T.pick [0] rfl
  replace M:=M.mask [false,true] rfl
  replace M:Mem w exq wc ((bb,.cells (bxM b (.slice A b.lows.length c) (.slice B b.highs.length d)))::(Ia++Ib++Iu1)):=M
  refine Znr ?_
  refine Zrt ?_
  refine rt_1 T Z (T.e 0 Z) ?_
  have hno:(kv.rd s)=none:=by
    refine kv_no (fm:=fm) (w0:=w0u1) hk (by rw [← hlsu1];exact hzu1) ?_
    rintro ⟨h8,h9⟩
    rw [← hlsu1] at h9
    exact condV_bad (a:=w0u1) (w:=kv.word) (x:=((lsu1.length:Nat):Int)) (y:=1+((fm.length:Nat):Int)) (by assumption) ⟨h8,by omega⟩
  exact LineB.none (L:=((bb,.cells (boxL b A c B d))::(Ia++Ib))) hno (Mem.subS (L':=((bb,.cells (bxM b (.slice A b.lows.length c) (.slice B b.highs.length d)))::(Ia++Ib))) (Iu1) M (fun f=>by simp only [bxM,boxL,sumF_app,sumF_cons,sumF_nil,Zx6,Zx5,Zx4,Zx0,Zxa] <;> omega)) ⟨A,c,B,d,Ia,Ib,Z,hsA,hsB⟩
 intro h2
 (have h2':=h2;try simp only [Zb1,Zb2,Zb3,Zb4,Zb5,Zb6,Zb7] at h2')
 refine Zsk ?_
 refine Zsr ?_
 refine Zl2 ?_
 refine Zoa M T Z Z Z Z ?_;clear M T;intro g2 wc ac M T
 replace T:=T.pick [0,1,2,3] rfl
 refine Zln ?_
 refine wp_seq ?_
 refine Zsr ?_
 refine Zg2 T (Zq (Zrm Z (T.e 3 Z))) Z (fun _ T=>Zq (rn_slice (size:=1) (l:=1) (h:=lsu1.length) Z underlying37 (by kernel_rfl) (T.e 0 Z) evc Z (by omega) (by omega))) Z ?_;intro ac T
 obtain ⟨Aq1,hAq1⟩:∃ q:Option Addr,q=(if cu1=1 then Au1 else Option.map (fun x:Addr=>x.add (1 * 1)) Au1):=⟨_,rfl⟩
 rw [← hAq1] at T
 obtain ⟨lq1,hlq1⟩:∃ q,q=(lsu1.drop 1).take (lsu1.length - 1):=⟨_,rfl⟩
 have nlq1:lq1.length=lsu1.length - 1:=by rw [hlq1,List.length_take,List.length_drop];(try simp only [Zx1,Zx3,Zx2]);omega
 rw [← nlq1] at T
 have SAq1:Sp w exq Iu1 Aq1 lq1.length 1 bu1 (ou1+1 * 1) (st lq1):=by rw [nlq1,hAq1,hlq1,← st_part];exact Su1.sub (by omega) (by omega) (by omega)
 refine Zg2 T (Zq (Zrl Z underlying37 (T.e 0 Z))) Z (fun _ T=>Zq (Zrm Z evc)) Z ?_;intro ac T
 replace T:=T.pick [0,1,2,4,5,6] rfl
 refine Zln ?_
 refine wp_block ?_
 have hcond:=condV_ok (a:=w0u1) (w:=kv.word) (x:=((lsu1.length:Nat):Int)) (y:=1+((fm.length:Nat):Int)) (by assumption)
 have hnl9:lsu1.length=fm.length+1:=by have:=hcond.2;omega
 refine wp_loop_n (fun mz ac wc=>∃ (i:Nat) (xs:List Int) (R:List (Int×Int)) (N:List Int) (At:Option Addr) (ct:Nat) (Bt:Option Addr) (dt:Nat) (It Iu:List (Nat×BA)),mz=fm.length - i∧(i≤fm.length)∧((kv.rd s)=andQ (some xs) (valsQ ((fm.map fb).drop i) ((lsu1.drop 1).drop i)))∧(MixQ fm i xs R N)∧(Sl 26 2 (.slice At R.length ct) R.length (rc R) It)∧(Sl 3 1 (.slice Bt N.length dt) N.length (ic N) Iu)∧(R.length+N.length=i)∧Tm ac 103 [(1,Zj bb),(3,Zj g1),(8,Zj g2),(38,.slice Aq1 lq1.length (cu1 - 1)),(39,Zi ((lq1.length:Nat):Int)),(40,Zi (i:Int))]∧Mem w exq wc ((g2,.cells [.slice At R.length ct,.slice Bt N.length dt])::(g1,.cells [sv kv.word,sv fm,.func (.func F) #[] cap.toArray])::(bb,.cells (bxM b (.slice A b.lows.length c) (.slice B b.highs.length d)))::(Ia++Ib++Iu1++It++Iu))) ?_ ?_
 ·exact ⟨_,0,[],[],[],none,0,none,0,[],[],Z,(by omega),(by rw [hlsu1,kv_prog (fm:=fm) hk (by rw [← hlsu1];exact hzu1) hcond.1];exact (andQ_zero _).symm),(MixQ.start _),(Sl.nil _ _),(Sl.nil _ _),Z,T.pick [4,5,3,2,1,0] Z,(by simp only [Zx4];exact M)⟩
 clear T M
 rintro mz ac wc ⟨i,xs,R,N,At,ct,Bt,dt,It,Iu,hmm1,hi,H,hmix,hslR,hslN,hrn,T,M⟩
 refine Zsr ?_
 refine lq T (rn_lss Z (T.e 5 Z) (T.e 4 Z)) ?_;intro ac T
 refine Zln ?_
 refine wp_seq ?_
 refine wp_if (T.e 0 Z) ?_ ?_
 ·intro h3
  have hq9:lq1=lsu1.drop 1:=by rw [hlq1];exact List.take_of_length_le (by rw [List.length_drop];exact Nat.le_refl _)
  obtain ⟨p,hkp⟩:∃ q,lq1[i]? = some q:=⟨_,List.getElem?_eq_getElem (by omega)⟩
  have hkq:(lsu1.drop 1)[i]? = some p:=by rw [← hq9];exact hkp
  have hpl:p.length≤s.length:=spl_mem_len (c:=44) (by rw [← hlsu1];exact List.mem_of_mem_drop (List.mem_of_getElem? hkq))
  obtain ⟨f,hfi⟩:∃ q,fm[i]? = some q:=⟨_,List.getElem?_eq_getElem (by omega)⟩
  rw [valsQ_step hfi hkq] at H
  refine Zsk ?_
  refine wp_seq ?_
  refine wp_block ?_
  refine Zsr ?_
  refine Zg5 T (Zq (Zrm Z (T.e 6 Z))) Z (fun _ T=>Zq (Zri (size:=1) i Z (T.e 5 Z) (T.e 7 Z) ⟨_,underlying37,by kernel_rfl⟩ Z (by omega) (SAq1.at0 (by omega)))) Z (fun _ T=>Zq (rn_cell (Sp.stC0 SAq1 M (.cons _ (.cons _ (.cons _ (subL (subL (Zsq _ _)))))) hkp) Z (T.e 0 Z))) Z (Za 2 Z Z) Z (Za 1 Z Z) Z ?_;intro ac T
  replace T:=T.pick [0,1,6,7,8,9,10,11] rfl
  refine Zln ?_
  refine wp_seq ?_
  refine Zsr ?_
  refine Zg5 (v1:=(.pointer (some ⟨g1,1,none⟩))) T (Zq (Zrg 1 Z (T.e 3 Z))) Z (Zo M 1 0 Z Z Z Z) Z (Zm 3 Z Z) Z (fun _ T=>Zq (rn_sidx i Z underlying9 (T.e 1 Z) (T.e 0 Z) Z hfi)) Z (fun _ T=>Zq (rn_eql Z (T.e 0 Z) evc)) Z ?_;intro ac T
  replace T:=T.pick [0,5,7,8,9,10,11,12] rfl
  refine Zln ?_
  refine wp_if (T.e 0 Z) ?_ ?_
  ·intro h4
   refine Zsr ?_
   refine lq T (Zrm Z (T.e 1 Z)) ?_;intro ac T
   refine Zl2 ?_
   refine Zod T Z Z Z Z evf (.cons (T.e 0 Z) .nil) func117 Z Z ?_
   refine Calls.mono (number_any p _ (by omega) (hT _ _ M)) ?_
   clear T;rintro e wc ⟨nu2,rfl,hvu2,hb⟩ ac T
   replace M:=M.call hb;clear hb
   refine Zg5 T (Zq (Zrm Z (T.e 0 Z))) Z (Ze 0 Z Z Z) Z (Ze 1 Z Z Z) Z (Za 1 Z Z) Z (Za 1 Z Z) Z ?_;intro ac T
   replace T:=T.pick [0,1,9,10,11,12,13,14] rfl
   refine Zln ?_
   refine wp_seq ?_
   refine Zsr ?_
   refine Zg2 T (Zq (Zrm Z (T.e 0 Z))) Z (fun _ T=>Zq (rn_not Z (T.e 0 Z))) Z ?_;intro ac T
   replace T:=T.pick [0,3,4,5,6,7,8,9] rfl
   refine Zln ?_
   refine wp_cond_split (T.e 0 Z) ?_ ?_
   ·intro h5
    (have h5':=h5;try simp only [Zb1,Zb2,Zb3,Zb4,Zb5,Zb6,Zb7] at h5')
    refine Zsr ?_
    refine lq T (Zra Z evc) ?_;intro ac T
    refine wpList_nil ?_
    replace T:=T.pick [0] rfl
    replace M:=M.mask [false,false,true] rfl
    replace M:Mem w exq wc ((bb,.cells (bxM b (.slice A b.lows.length c) (.slice B b.highs.length d)))::(Ia++Ib++Iu1++It++Iu)):=M
    refine Znr ?_
    refine Zrt ?_
    refine Zrt ?_
    refine Zrb ?_
    refine Zrt ?_
    refine Zrt ?_
    refine Zrb ?_
    refine Zrt ?_
    refine rt_1 T Z (T.e 0 Z) ?_
    have hwp:=wordQ_nonum (p:=p) (by first | assumption | simp_all)
    rw [fb_n (c:=f) (by first | assumption | omega),hwp] at H
    exact LineB.none (L:=((bb,.cells (boxL b A c B d))::(Ia++Ib))) (H.trans Z) (Mem.subS (L':=((bb,.cells (bxM b (.slice A b.lows.length c) (.slice B b.highs.length d)))::(Ia++Ib))) ((Iu1++It++Iu)) M (fun f=>by simp only [bxM,boxL,sumF_app,sumF_cons,sumF_nil,Zx6,Zx5,Zx4,Zx0,Zxa] <;> omega)) ⟨A,c,B,d,Ia,Ib,Z,hsA,hsB⟩
   intro h5
   (have h5':=h5;try simp only [Zb1,Zb2,Zb3,Zb4,Zb5,Zb6,Zb7] at h5')
   refine Zsk ?_
   refine Zsr ?_
   refine Zg3 (v1:=(.pointer (some ⟨g2,1,none⟩))) T (Zq (Zrg 1 Z (T.e 4 Z))) Z (Zo M 0 0 Z Z Z Z) Z (Zm 3 Z Z) Z ?_;intro ac T
   refine Zl2 ?_
   refine ow_bs (e:=3) [Zi nu2] M T Z Z Z Z (.cons (T.e 0 Z) .nil) (fun _=>by kernel_rfl) ?_;clear M T;intro g3 wc ac M T
   refine Zl2 ?_
   refine ow_app (((g3,.cells [Zi nu2])::(g2,.cells [.slice At R.length ct,.slice Bt N.length dt])::(g1,.cells [sv kv.word,sv fm,.func (.func F) #[] cap.toArray])::(bb,.cells (bxM b (.slice A b.lows.length c) (.slice B b.highs.length d)))::(Ia++Ib++Iu1++It))) Tryz.info3 hslN M (by first | rfl | simp) T Z Z Z Z underlying31 Z Z Z (by omega) (T.e 2 Z) (T.e 0 Z) (Zne (i:=0) Z) Z Z ?_;clear M T;intro ga1 cga1 wc ac M T
   refine lq (v:=(.pointer (some ⟨g2,1,none⟩))) T (Zrg 1 Z (T.e 9 Z)) ?_;intro ac T
   refine Zl2 ?_
   refine Zot M T Z Z (T.e 0 Z) (T.e 1 Z) Z (.tail (.tail .head)) Z Z ?_;clear M T;intro wc ac M T
   refine wpList_nil ?_
   replace T:=T.pick [8,9,10,11,12,13] rfl
   replace M:=M.mask [true,false,true,true,true] rfl
   replace M:Mem w exq wc ((ga1,.row 3 1 (N.length+1) ((ic N)++[Zi nu2]) cga1)::(g2,.cells [.slice At R.length ct,.slice (some ⟨ga1,0,none⟩) (N.length+1) cga1])::(g1,.cells [sv kv.word,sv fm,.func (.func F) #[] cap.toArray])::(bb,.cells (bxM b (.slice A b.lows.length c) (.slice B b.highs.length d)))::(Ia++Ib++Iu1++It)):=M
   refine nm_then ?_
   refine wp_exit ?_
   refine Zet ?_
   refine ex_hit ?_
   refine nm_then ?_
   refine wp_region_lit ?_
   refine lq T (rn_add Z (T.e 5 Z) evc (by omega)) ?_;intro ac T
   refine l_q (v:=(Zi ((i:Int)+1))) (T.pick [0,1,2,3,4,5] Z) Z Z Z Z (Zrm Z (T.e 0 Z)) ?_;intro ac T
   replace T:=T.pick [0,2,3,4,5,6] rfl
   refine Zln ?_
   have hff:=fb_n (c:=f) (by first | assumption | omega)
   have e9:N.length+1=(N++[nu2]).length:=by simp
   have e8:((ic N)++[Zi nu2])=ic (N++[nu2]):=by first | rw [ic_snoc] | rw [← ic_snoc]
   rw [e9,e8] at M
   clear e9 e8
   have hwp:=wordQ_num (p:=p) hvu2 (by first | assumption | simp_all)
   rw [hff,hwp,andQ_put] at H
   replace hmix:=hmix.num hfi hff nu2
   exact ⟨_,by omega,i+1,(xs++[nu2]),R,(N++[nu2]),At,ct,some ⟨ga1,0,none⟩,cga1,It,[(ga1,.row 3 1 (N++[nu2]).length (ic (N++[nu2])) cga1)],Z,(by omega),H,hmix,hslR,(Sl.row _ _ _ _ _ _),(by simp only [Zx3,Zx1,Zx2];omega),T.pick [1,2,3,4,5,0] Z,(Mem.subS ([]) M (fun f=>by simp only [bxM,boxL,sumF_app,sumF_cons,sumF_nil,Zx6,Zx5,Zx4,Zx0,Zxa] <;> omega))⟩
  intro h4
  refine Zsk ?_
  refine Zsr ?_
  refine lq T (Zrm Z (T.e 1 Z)) ?_;intro ac T
  refine Zl2 ?_
  refine Zod T Z Z Z Z evf (.cons (T.e 0 Z) (.cons evc .nil)) func118 Z Z ?_
  refine Calls.mono (Cut_any p [46,46] _ (by omega) (hT _ _ M)) ?_
  clear T;rintro e wc ⟨rfl,hb⟩ ac T
  replace M:=M.call hb;clear hb
  replace M:Mem w exq wc ((g2,.cells [.slice At R.length ct,.slice Bt N.length dt])::(g1,.cells [sv kv.word,sv fm,.func (.func F) #[] cap.toArray])::(bb,.cells (bxM b (.slice A b.lows.length c) (.slice B b.highs.length d)))::(Ia++Ib++Iu1++Iu++It)):=(Mem.permS (L':=((g2,.cells [.slice At R.length ct,.slice Bt N.length dt])::(g1,.cells [sv kv.word,sv fm,.func (.func F) #[] cap.toArray])::(bb,.cells (bxM b (.slice A b.lows.length c) (.slice B b.highs.length d)))::(Ia++Ib++Iu1++Iu++It))) M (fun f=>by simp only [bxM,boxL,sumF_app,sumF_cons,sumF_nil,Zx6,Zx5,Zx4,Zx0,Zxa] <;> omega))
  have hcl:=cut2_len p
  refine Zg7 T (Zq (Zrm Z (T.e 0 Z))) Z (Ze 0 Z Z Z) Z (Ze 1 Z Z Z) Z (Ze 2 Z Z Z) Z (Za 2 Z Z) Z (Za 2 Z Z) Z (Za 2 Z Z) Z ?_;intro ac T
  replace T:=T.pick [0,1,2,11,12,13,14,15,16] rfl
  refine Zln ?_
  refine Zsr ?_
  refine lq T (Zrm Z (T.e 2 Z)) ?_;intro ac T
  refine Zl2 ?_
  refine Zod T Z Z Z Z evf (.cons (T.e 0 Z) .nil) func117 Z Z ?_
  refine Calls.mono (number_any ((Lib.cut p [46,46]).1) _ (by omega) (hT _ _ M)) ?_
  clear T;rintro e wc ⟨nu4,rfl,hvu4,hb⟩ ac T
  replace M:=M.call hb;clear hb
  refine Zg5 T (Zq (Zrm Z (T.e 0 Z))) Z (Ze 0 Z Z Z) Z (Ze 1 Z Z Z) Z (Za 1 Z Z) Z (Za 1 Z Z) Z ?_;intro ac T
  replace T:=T.pick [0,1,7,8,10,11,12,13,14,15] rfl
  refine Zln ?_
  refine Zsr ?_
  refine lq T (Zrm Z (T.e 3 Z)) ?_;intro ac T
  refine Zl2 ?_
  refine Zod T Z Z Z Z evf (.cons (T.e 0 Z) .nil) func117 Z Z ?_
  refine Calls.mono (number_any ((Lib.cut p [46,46]).2.1) _ (by omega) (hT _ _ M)) ?_
  clear T;rintro e wc ⟨nu5,rfl,hvu5,hb⟩ ac T
  replace M:=M.call hb;clear hb
  refine Zg5 T (Zq (Zrm Z (T.e 0 Z))) Z (Ze 0 Z Z Z) Z (Ze 1 Z Z Z) Z (Za 1 Z Z) Z (Za 1 Z Z) Z ?_;intro ac T
  replace T:=T.pick [0,1,7,8,9,11,12,13,14,15,16] rfl
  refine Zln ?_
  refine wp_seq ?_
  refine cut_seq (fun ac wc=>Tm ac 103 [(1,Zj bb),(3,Zj g1),(8,Zj g2),(16,Zi nu4),(18,Zi nu5),(38,.slice Aq1 lq1.length (cu1 - 1)),(39,Zi ((lq1.length:Nat):Int)),(40,Zi (i:Int)),(88,.bool ((!((Lib.cut p [46,46]).2.2)) || ((!((numP ((Lib.cut p [46,46]).1)).isSome)) || (!((numP ((Lib.cut p [46,46]).2.1)).isSome)))))]∧Mem w exq wc ((g2,.cells [.slice At R.length ct,.slice Bt N.length dt])::(g1,.cells [sv kv.word,sv fm,.func (.func F) #[] cap.toArray])::(bb,.cells (bxM b (.slice A b.lows.length c) (.slice B b.highs.length d)))::(Ia++Ib++Iu1++Iu++It))) ?_ ?_
  ·refine wp_region_lit ?_
   refine Zg3 T (Zq (Zrm Z (T.e 4 Z))) Z (fun _ T=>Zq (rn_not Z (T.e 0 Z))) Z (Zm 0 Z Z) Z ?_;intro ac T
   rcases Zx9 (!((Lib.cut p [46,46]).2.2)) with h6 | h6
   ·refine Zg7 T (Zp (Zwn Z Z (T.e 0 Z) h6)) Z (fun _ T=>Zp (Zwn Z Z (T.e 1 Z) h6)) Z (fun _ T=>Zq (Zr1 Z (T.e 2 Z) h6 evc)) Z (Zm 0 Z Z) Z (fun _ T=>Zp (Zwn Z Z (T.e 0 Z) Z)) Z (fun _ T=>Zp (Zwn Z Z (T.e 1 Z) Z)) Z (fun _ T=>Zq (Zr1 Z (T.e 2 Z) Z evc)) Z ?_;intro ac T
    refine wpList_nil ?_
    replace T:=T.pick [0,1,2,5,6,11,13,15,16,17,18,19,20] rfl
    exact ⟨(T.pick (E':=[(1,Zj bb),(3,Zj g1),(8,Zj g2),(16,Zi nu4),(18,Zi nu5),(38,.slice Aq1 lq1.length (cu1 - 1)),(39,Zi ((lq1.length:Nat):Int)),(40,Zi (i:Int)),(88,.bool true)]) [7,8,9,6,5,10,11,12,0] Z).as (by (try rw [show (!((Lib.cut p [46,46]).2.2))=true from h6]);(try rfl)),M.mask [true,true,true] Z⟩
   refine Zg4 T (Zw (Zwy Z Z (T.e 0 Z) h6) (Zrm Z (T.e 5 Z))) Z (fun _ T=>Zw (Zwy Z Z (T.e 1 Z) h6) (rn_not Z (T.e 0 Z))) Z (fun _ T=>Zq (Zr0 Z (T.e 2 Z) h6 (T.e 0 Z))) Z (Zm 0 Z Z) Z ?_;intro ac T
   rcases Zx9 (!((numP ((Lib.cut p [46,46]).1)).isSome)) with h7 | h7
   ·refine Zg3 T (Zp (Zwn Z Z (T.e 0 Z) h7)) Z (fun _ T=>Zp (Zwn Z Z (T.e 1 Z) h7)) Z (fun _ T=>Zq (Zr1 Z (T.e 2 Z) h7 evc)) Z ?_;intro ac T
    refine wpList_nil ?_
    replace T:=T.pick [0,1,2,5,6,11,13,15,16,17,18,19,20] rfl
    exact ⟨(T.pick (E':=[(1,Zj bb),(3,Zj g1),(8,Zj g2),(16,Zi nu4),(18,Zi nu5),(38,.slice Aq1 lq1.length (cu1 - 1)),(39,Zi ((lq1.length:Nat):Int)),(40,Zi (i:Int)),(88,.bool true)]) [7,8,9,6,5,10,11,12,0] Z).as (by (try rw [show (!((Lib.cut p [46,46]).2.2))=false from h6]);(try rw [show (!((numP ((Lib.cut p [46,46]).1)).isSome))=true from h7]);(try rfl)),M.mask [true,true,true] Z⟩
   refine Zg3 T (Zw (Zwy Z Z (T.e 0 Z) h7) (Zrm Z (T.e 7 Z))) Z (fun _ T=>Zw (Zwy Z Z (T.e 1 Z) h7) (rn_not Z (T.e 0 Z))) Z (fun _ T=>Zq (Zr0 Z (T.e 2 Z) h7 (T.e 0 Z))) Z ?_;intro ac T
   refine wpList_nil ?_
   replace T:=T.pick [0,1,2,5,6,11,13,15,16,17,18,19,20] rfl
   exact ⟨(T.pick (E':=[(1,Zj bb),(3,Zj g1),(8,Zj g2),(16,Zi nu4),(18,Zi nu5),(38,.slice Aq1 lq1.length (cu1 - 1)),(39,Zi ((lq1.length:Nat):Int)),(40,Zi (i:Int)),(88,.bool (!((numP ((Lib.cut p [46,46]).2.1)).isSome)))]) [7,8,9,6,5,10,11,12,0] Z).as (by (try rw [show (!((Lib.cut p [46,46]).2.2))=false from h6]);(try rw [show (!((numP ((Lib.cut p [46,46]).1)).isSome))=false from h7]);(try rfl)),M.mask [true,true,true] Z⟩
  clear T M
  rintro ac wc ⟨T,M⟩
  refine wp_cond_split (T.e 8 Z) ?_ ?_
  ·intro h8
   (have h8':=h8;try simp only [Zb1,Zb2,Zb3,Zb4,Zb5,Zb6,Zb7] at h8')
   refine Zsr ?_
   refine lq T (Zra Z evc) ?_;intro ac T
   refine wpList_nil ?_
   replace T:=T.pick [0] rfl
   replace M:=M.mask [false,false,true] rfl
   replace M:Mem w exq wc ((bb,.cells (bxM b (.slice A b.lows.length c) (.slice B b.highs.length d)))::(Ia++Ib++Iu1++Iu++It)):=M
   refine Znr ?_
   refine Zrt ?_
   refine Zrb ?_
   refine Zrt ?_
   refine Zrt ?_
   refine Zrb ?_
   refine Zrt ?_
   refine rt_1 T Z (T.e 0 Z) ?_
   have hwp:=wordQ_norg (p:=p) (by assumption)
   rw [fb_r (c:=f) (by first | assumption | omega),hwp] at H
   exact LineB.none (L:=((bb,.cells (boxL b A c B d))::(Ia++Ib))) (H.trans Z) (Mem.subS (L':=((bb,.cells (bxM b (.slice A b.lows.length c) (.slice B b.highs.length d)))::(Ia++Ib))) ((Iu1++Iu++It)) M (fun f=>by simp only [bxM,boxL,sumF_app,sumF_cons,sumF_nil,Zx6,Zx5,Zx4,Zx0,Zxa] <;> omega)) ⟨A,c,B,d,Ia,Ib,Z,hsA,hsB⟩
  intro h8
  (have h8':=h8;try simp only [Zb1,Zb2,Zb3,Zb4,Zb5,Zb6,Zb7] at h8')
  refine Zsk ?_
  refine wp_region_lit ?_
  refine Zg5 (v1:=(Zj g2)) (v5:=(.agg #[Zi nu4,Zi nu5])) T (Zq (Zrg 0 Z (T.e 2 Z))) Z (Zo M 0 0 Z Z Z Z) Z (Zm 5 Z Z) Z (Zm 7 Z Z) Z (fun _ T=>Zq (rn_build Z (.cons (T.e 1 Z) (.cons (T.e 0 Z) .nil)) (fun _=>by kernel_rfl))) Z ?_;intro ac T
  refine Zl2 ?_
  refine ow_bs (e:=26) [Zi nu4,Zi nu5] M T Z Z Z Z (.cons (T.e 0 Z) .nil) (fun _=>by kernel_rfl) ?_;clear M T;intro g4 wc ac M T
  refine Zl2 ?_
  refine ow_app (((g4,.cells [Zi nu4,Zi nu5])::(g2,.cells [.slice At R.length ct,.slice Bt N.length dt])::(g1,.cells [sv kv.word,sv fm,.func (.func F) #[] cap.toArray])::(bb,.cells (bxM b (.slice A b.lows.length c) (.slice B b.highs.length d)))::(Ia++Ib++Iu1++Iu))) Tryz.info26 hslR M (by first | rfl | simp) T Z Z Z Z underlying57 Z Z Z (by omega) (T.e 4 Z) (T.e 0 Z) (Zne (i:=0) Z) Z Z ?_;clear M T;intro ga2 cga2 wc ac M T
  refine lq (v:=(Zj g2)) T (Zrg 0 Z (T.e 9 Z)) ?_;intro ac T
  refine Zl2 ?_
  refine Zot M T Z Z (T.e 0 Z) (T.e 1 Z) Z (.tail (.tail .head)) Z Z ?_;clear M T;intro wc ac M T
  refine wpList_nil ?_
  replace T:=T.pick [8,9,10,13,14,15] rfl
  replace M:=M.mask [true,false,true,true,true] rfl
  replace M:Mem w exq wc ((ga2,.row 26 2 (R.length+1) ((rc R)++[Zi nu4,Zi nu5]) cga2)::(g2,.cells [.slice (some ⟨ga2,0,none⟩) (R.length+1) cga2,.slice Bt N.length dt])::(g1,.cells [sv kv.word,sv fm,.func (.func F) #[] cap.toArray])::(bb,.cells (bxM b (.slice A b.lows.length c) (.slice B b.highs.length d)))::(Ia++Ib++Iu1++Iu)):=M
  refine Znb ?_
  refine nm_then ?_
  refine wp_region_lit ?_
  refine lq T (rn_add Z (T.e 5 Z) evc (by omega)) ?_;intro ac T
  refine l_q (v:=(Zi ((i:Int)+1))) (T.pick [0,1,2,3,4,5] Z) Z Z Z Z (Zrm Z (T.e 0 Z)) ?_;intro ac T
  replace T:=T.pick [0,2,3,4,5,6] rfl
  refine Zln ?_
  have hft:=fb_r (c:=f) (by first | assumption | omega)
  have e9:R.length+1=(R++[(nu4,nu5)]).length:=by simp
  have e8:((rc R)++[Zi nu4,Zi nu5])=rc (R++[(nu4,nu5)]):=by first | rw [rc_snoc] | rw [← rc_snoc]
  rw [e9,e8] at M
  clear e9 e8
  have hwp:=wordQ_rg (p:=p) (by assumption) hvu4 hvu5
  rw [hft,hwp,andQ_put] at H
  replace hmix:=hmix.rg hfi hft nu4 nu5
  exact ⟨_,by omega,i+1,(xs++[nu4,nu5]),(R++[(nu4,nu5)]),N,some ⟨ga2,0,none⟩,cga2,Bt,dt,[(ga2,.row 26 2 (R++[(nu4,nu5)]).length (rc (R++[(nu4,nu5)])) cga2)],Iu,Z,(by omega),H,hmix,(Sl.row _ _ _ _ _ _),hslN,(by simp only [Zx3,Zx1,Zx2];omega),T.pick [1,2,3,4,5,0] Z,(Mem.subS ([]) M (fun f=>by simp only [bxM,boxL,sumF_app,sumF_cons,sumF_nil,Zx6,Zx5,Zx4,Zx0,Zxa] <;> omega))⟩
 intro h3
 refine wp_exit ?_
 refine Zet ?_
 refine Zet ?_
 refine ex_hit ?_
 refine nm_then ?_
 refine Zsr ?_
 refine Zg4 (v1:=(.pointer (some ⟨g1,2,none⟩))) T (Zq (Zrg 2 Z (T.e 2 Z))) Z (Zo M 1 0 Z Z Z Z) Z (Zm 3 Z Z) Z (Zr M 0 6 Z Z Z Z) Z ?_;intro ac T
 refine Zl2 ?_
 have hi9:i=fm.length:=by omega
 have hm9:=hmix
 rw [hi9] at hm9
 have Mq:Mem w exq wc ((bb,.cells (bxM b (.slice A b.lows.length c) (.slice B b.highs.length d)))::(Ia++Ib++(It++Iu++((g2,.cells [.slice At R.length ct,.slice Bt N.length dt])::(g1,.cells [sv kv.word,sv fm,.func (.func F) #[] cap.toArray])::Iu1)))):=M.permS (fun f=>by simp only [bxM,boxL,sumF_app,sumF_cons,sumF_nil,Zx6,Zx5,Zx4,Zx0,Zxa] <;> omega)
 refine Zoc (first:=[]) (cap:=cap) T Z Z Z Z (T.e 2 Z) (.cons (T.e 1 Z) (.cons (T.e 0 Z) .nil)) hF hnm9 hbF ?_
 refine Calls.mono (htake R N xs At ct Bt dt It Iu ((g2,.cells [.slice At R.length ct,.slice Bt N.length dt])::(g1,.cells [sv kv.word,sv fm,.func (.func F) #[] cap.toArray])::Iu1) _ hm9 hslR hslN Mq) ?_
 clear T;rintro e wc ⟨rfl,L9,N9,hk9⟩ ac T
 replace M:Mem w exq wc (L9):=N9
 clear N9
 replace T:=T.pick [] rfl
 refine Zln ?_
 refine Zsr ?_
 refine lq T (Zra Z evc) ?_;intro ac T
 refine Zln ?_
 refine wp_ret ?_
 refine rt_1 T Z (T.e 0 Z) ?_
 rw [List.drop_of_length_le (l:=fm.map fb) (by rw [List.length_map];omega),List.drop_of_length_le (l:=lsu1.drop 1) (by rw [List.length_drop];omega)] at H
 replace H:kv.rd s=some xs:=H.trans (by show some (xs++[])=some xs;rw [Zx4])
 exact ⟨by rw [H];rfl,L9,M,by rw [H];exact hk9⟩
theorem vread0_any (s:List UInt8) (bb:Nat) (b:Bx) (A:Option Addr) (c:Nat) (B:Option Addr) (d:Nat) (Ia Ib:List (Nat×BA)) (exq:Nat→Prop) (w:World) (hs:s.length≤800000) (hT:∀ wc L,Mem w exq wc L→StrW wc) (hsA:Sl 77 4 (.slice A b.lows.length c) b.lows.length (sc b.lows) Ia) (hsB:Sl 77 4 (.slice B b.highs.length d) b.highs.length (sc b.highs) Ib) (M0:Mem w exq w ((bb,.cells (bxM b (.slice A b.lows.length c) (.slice B b.highs.length d)))::(Ia++Ib))):Calls prog 49 #[.agg #[sv KL.word,sv fmL,.func (.func 112) #[] #[]],Zj bb,sv s] w (LineB (KL.rd s) w exq bb 0 b):=by
 refine vreadG_any KL fmL 0 112 _ [] s bb b A c B d Ia Ib exq w Z (by decide) func112 (by kernel_rfl) (by kernel_rfl) hs hT hsA hsB M0 ?_
 intro R N xs X cx Y cy It Iu Fr wc hm sR sN M
 obtain ⟨qm,qt,qf⟩:=hm
 replace qt:R.length=0:=qt
 replace qf:N.length=5:=qf
 obtain ⟨bx,ox,SVx⟩:=Sl.spW sR (rc_length _)
 have hR:=List.length_eq_zero_iff.1 qt
 obtain ⟨n0,n1,n2,n3,n4,hN⟩:=len5 qf
 have hx9:xs=[n0,n1,n2,n3,n4]:=by rw [qm,hR,hN];rfl
 rw [hx9]
 obtain ⟨by9,oy,SVy⟩:=Sl.spW sN (by rw [ic_length,Nat.mul_one])
 have MR:Mem w exq wc (It++((bb,.cells (bxM b (.slice A b.lows.length c) (.slice B b.highs.length d)))::(Ia++Ib++(Iu++Fr)))):=M.permS (fun f=>by simp only [bxM,boxL,sumF_app,sumF_cons,sumF_nil,Zx6,Zx5,Zx4,Zx0,Zxa] <;> omega)
 have MN:Mem w exq wc (Iu++((bb,.cells (bxM b (.slice A b.lows.length c) (.slice B b.highs.length d)))::(Ia++Ib++(It++Fr)))):=M.permS (fun f=>by simp only [bxM,boxL,sumF_app,sumF_cons,sumF_nil,Zx6,Zx5,Zx4,Zx0,Zxa] <;> omega)
 have nR:=Sl.ne sR (Mem.subS (L':=(bb,.cells (bxM b (.slice A b.lows.length c) (.slice B b.highs.length d)))::It) (Ia++Ib++(Iu++Fr)) M (fun f=>by simp only [bxM,boxL,sumF_app,sumF_cons,sumF_nil,Zx6,Zx5,Zx4,Zx0,Zxa] <;> omega))
 have nN:=Sl.ne sN (Mem.subS (L':=(bb,.cells (bxM b (.slice A b.lows.length c) (.slice B b.highs.length d)))::Iu) (Ia++Ib++(It++Fr)) M (fun f=>by simp only [bxM,boxL,sumF_app,sumF_cons,sumF_nil,Zx6,Zx5,Zx4,Zx0,Zxa] <;> omega))
 refine Calls.mono (vtq0 bb b A c B d X cx Y cy R N n0 n1 n2 n3 n4 hR hN wc (M.nth 0 Z) ((SVx w exq).rd MR (Zsl _ _)) nR ((SVy w exq).rd MN (Zsl _ _)) nN) ?_
 rintro e w9 ⟨rfl,N9⟩
 have M9:=Mem.joinX (X:=[(bb,.cells (bxM b (.slice A b.lows.length c) (.slice B b.highs.length d)))]) (F:=Ia++Ib++(It++Iu++Fr)) M N9 (fun b h=>by subst h;exact Zz2)
 exact ⟨rfl,(bb,.cells [Zi n0,Zi n1,Zi n2,Zi n3,Zi n4,.slice A b.lows.length c,.slice B b.highs.length d,Zi b.t0,Zi b.t1,Zi b.r0,Zi b.r1,Zi b.u0,Zi b.u1,Zi b.d0,Zi b.d1,Zi b.a0,Zi b.a1,Zi b.b0,Zi b.b1,Zi b.le,Zi b.me])::(Ia++Ib),Mem.subS (It++Iu++Fr) M9 (fun f=>by simp only [bxM,boxL,sumF_app,sumF_cons,sumF_nil,Zx6,Zx5,Zx4,Zx0,Zxa] <;> omega),A,c,B,d,Ia,Ib,Z,hsA,hsB⟩
theorem vread1_any (s:List UInt8) (bb gs:Nat) (b:Bx) (A:Option Addr) (c:Nat) (B:Option Addr) (d:Nat) (Ia Ib:List (Nat×BA)) (exq:Nat→Prop) (w:World) (hs:s.length≤800000) (hT:∀ wc L,Mem w exq wc L→StrW wc) (hsA:Sl 77 4 (.slice A b.lows.length c) b.lows.length (sc b.lows) Ia) (hsB:Sl 77 4 (.slice B b.highs.length d) b.highs.length (sc b.highs) Ib) (M0:Mem w exq w ((bb,.cells (bxM b (.slice A b.lows.length c) (.slice B b.highs.length d)))::(Ia++Ib))) (hl:b.lows.length≤800000) (qs:Bk w gs #[.func (.func 111) #[] #[]]) (hgs : ¬ exq gs):Calls prog 49 #[.agg #[sv KA.word,sv fmA,.func (.func 113) #[] #[Zj gs]],Zj bb,sv s] w (LineB (KA.rd s) w exq bb 1 b):=by
 refine vreadG_any KA fmA 1 113 _ [Zj gs] s bb b A c B d Ia Ib exq w Z (by decide) func113 (by kernel_rfl) (by kernel_rfl) hs hT hsA hsB M0 ?_
 intro R N xs X cx Y cy It Iu Fr wc hm sR sN M
 obtain ⟨qm,qt,qf⟩:=hm
 replace qt:R.length=2:=qt
 replace qf:N.length=0:=qf
 obtain ⟨bx,ox,SVx⟩:=Sl.spW sR (rc_length _)
 have hN:=List.length_eq_zero_iff.1 qf
 obtain ⟨s0,s1,s2,s3,hR⟩:=len2r qt
 have hx9:xs=[s0,s1,s2,s3]:=by rw [qm,hR,hN];rfl
 rw [hx9]
 have Mq:Mem w exq wc (((bb,.cells (bxM b (.slice A b.lows.length c) (.slice B b.highs.length d)))::(Ib++Ia))++(It++Iu++Fr)):=M.permS (fun f=>by simp only [bxM,boxL,sumF_app,sumF_cons,sumF_nil,Zx6,Zx5,Zx4,Zx0,Zxa] <;> omega)
 have My:Mem w exq wc ((bb,.cells (bxM b (.slice A b.lows.length c) (.slice B b.highs.length d)))::(Ib++Ia)):=Mq.sub (Zsl _ _)
 have Sx:=Sp.of (ex':=inL ((bb,.cells (bxM b (.slice A b.lows.length c) (.slice B b.highs.length d)))::(Ib++Ia))) Mq (fun _ h=>h) (SVx w exq) ((Zsl It Iu).trans (Zsl _ _))
 have hO:=Old.move (ex':=inL ((bb,.cells (bxM b (.slice A b.lows.length c) (.slice B b.highs.length d)))::(Ib++Ia))) (cs:=[.func (.func 111) #[] #[]]) Mq inL_left ⟨qs,hgs⟩
 refine Calls.mono (vtq1 bb gs b A c B d Ia Ib (inL ((bb,.cells (bxM b (.slice A b.lows.length c) (.slice B b.highs.length d)))::(Ib++Ia))) X cx Y cy N.length bx ox R s0 s1 s2 s3 hR wc (by omega) hsA Sx My.rebase hO.1 hO.2) ?_
 rintro e w9 ⟨g9,c9,rfl,N9⟩
 have e9:b.lows.length+1=(b.lows++[(⟨s0,s1,s2,s3⟩:Snd)]).length:=by simp
 have e8:sc b.lows++sc [⟨s0,s1,s2,s3⟩]=sc (b.lows++[(⟨s0,s1,s2,s3⟩:Snd)]):=by simp [sc]
 rw [e9,e8] at N9
 have M9:=Mem.joinX (X:=((bb,.cells (bxM b (.slice A b.lows.length c) (.slice B b.highs.length d)))::(Ib++Ia))) Mq N9 (fun b h=>h)
 exact ⟨rfl,(bb,.cells (Zbm b (.slice (some ⟨g9,0,none⟩) ((b.lows++[(⟨s0,s1,s2,s3⟩:Snd)]).length) c9) (.slice B b.highs.length d)))::([(g9,.row 77 4 (b.lows++[(⟨s0,s1,s2,s3⟩:Snd)]).length (sc (b.lows++[(⟨s0,s1,s2,s3⟩:Snd)])) c9)]++Ib),Mem.subS (It++Iu++Fr) M9 (fun f=>by simp only [Zbm,bxM,boxL,sumF_app,sumF_cons,sumF_nil,Zx6,Zx5,Zx4,Zx0,Zxa] <;> omega),some ⟨g9,0,none⟩,c9,B,d,[(g9,.row 77 4 (b.lows++[(⟨s0,s1,s2,s3⟩:Snd)]).length (sc (b.lows++[(⟨s0,s1,s2,s3⟩:Snd)])) c9)],Ib,Z,Sl.row _ _ _ _ _ _,hsB⟩
theorem vread2_any (s:List UInt8) (bb gs:Nat) (b:Bx) (A:Option Addr) (c:Nat) (B:Option Addr) (d:Nat) (Ia Ib:List (Nat×BA)) (exq:Nat→Prop) (w:World) (hs:s.length≤800000) (hT:∀ wc L,Mem w exq wc L→StrW wc) (hsA:Sl 77 4 (.slice A b.lows.length c) b.lows.length (sc b.lows) Ia) (hsB:Sl 77 4 (.slice B b.highs.length d) b.highs.length (sc b.highs) Ib) (M0:Mem w exq w ((bb,.cells (bxM b (.slice A b.lows.length c) (.slice B b.highs.length d)))::(Ia++Ib))) (hl:b.highs.length≤800000) (qs:Bk w gs #[.func (.func 111) #[] #[]]) (hgs : ¬ exq gs):Calls prog 49 #[.agg #[sv KB.word,sv fmA,.func (.func 114) #[] #[Zj gs]],Zj bb,sv s] w (LineB (KB.rd s) w exq bb 2 b):=by
 refine vreadG_any KB fmA 2 114 _ [Zj gs] s bb b A c B d Ia Ib exq w Z (by decide) func114 (by kernel_rfl) (by kernel_rfl) hs hT hsA hsB M0 ?_
 intro R N xs X cx Y cy It Iu Fr wc hm sR sN M
 obtain ⟨qm,qt,qf⟩:=hm
 replace qt:R.length=2:=qt
 replace qf:N.length=0:=qf
 obtain ⟨bx,ox,SVx⟩:=Sl.spW sR (rc_length _)
 have hN:=List.length_eq_zero_iff.1 qf
 obtain ⟨s0,s1,s2,s3,hR⟩:=len2r qt
 have hx9:xs=[s0,s1,s2,s3]:=by rw [qm,hR,hN];rfl
 rw [hx9]
 have Mq:Mem w exq wc (((bb,.cells (bxM b (.slice A b.lows.length c) (.slice B b.highs.length d)))::(Ia++Ib))++(It++Iu++Fr)):=M.permS (fun f=>by simp only [bxM,boxL,sumF_app,sumF_cons,sumF_nil,Zx6,Zx5,Zx4,Zx0,Zxa] <;> omega)
 have My:Mem w exq wc ((bb,.cells (bxM b (.slice A b.lows.length c) (.slice B b.highs.length d)))::(Ia++Ib)):=Mq.sub (Zsl _ _)
 have Sx:=Sp.of (ex':=inL ((bb,.cells (bxM b (.slice A b.lows.length c) (.slice B b.highs.length d)))::(Ia++Ib))) Mq (fun _ h=>h) (SVx w exq) ((Zsl It Iu).trans (Zsl _ _))
 have hO:=Old.move (ex':=inL ((bb,.cells (bxM b (.slice A b.lows.length c) (.slice B b.highs.length d)))::(Ia++Ib))) (cs:=[.func (.func 111) #[] #[]]) Mq inL_left ⟨qs,hgs⟩
 refine Calls.mono (vtq2 bb gs b A c B d Ia Ib (inL ((bb,.cells (bxM b (.slice A b.lows.length c) (.slice B b.highs.length d)))::(Ia++Ib))) X cx Y cy N.length bx ox R s0 s1 s2 s3 hR wc (by omega) hsB Sx My.rebase hO.1 hO.2) ?_
 rintro e w9 ⟨g9,c9,rfl,N9⟩
 have e9:b.highs.length+1=(b.highs++[(⟨s0,s1,s2,s3⟩:Snd)]).length:=by simp
 have e8:sc b.highs++sc [⟨s0,s1,s2,s3⟩]=sc (b.highs++[(⟨s0,s1,s2,s3⟩:Snd)]):=by simp [sc]
 rw [e9,e8] at N9
 have M9:=Mem.joinX (X:=((bb,.cells (bxM b (.slice A b.lows.length c) (.slice B b.highs.length d)))::(Ia++Ib))) Mq N9 (fun b h=>h)
 exact ⟨rfl,(bb,.cells (Zbm b (.slice A b.lows.length c) (.slice (some ⟨g9,0,none⟩) ((b.highs++[(⟨s0,s1,s2,s3⟩:Snd)]).length) c9)))::(Ia++[(g9,.row 77 4 (b.highs++[(⟨s0,s1,s2,s3⟩:Snd)]).length (sc (b.highs++[(⟨s0,s1,s2,s3⟩:Snd)])) c9)]),Mem.subS (It++Iu++Fr) M9 (fun f=>by simp only [Zbm,bxM,boxL,sumF_app,sumF_cons,sumF_nil,Zx6,Zx5,Zx4,Zx0,Zxa] <;> omega),A,c,some ⟨g9,0,none⟩,c9,Ia,[(g9,.row 77 4 (b.highs++[(⟨s0,s1,s2,s3⟩:Snd)]).length (sc (b.highs++[(⟨s0,s1,s2,s3⟩:Snd)])) c9)],Z,hsA,Sl.row _ _ _ _ _ _⟩
theorem vread3_any (s:List UInt8) (bb:Nat) (b:Bx) (A:Option Addr) (c:Nat) (B:Option Addr) (d:Nat) (Ia Ib:List (Nat×BA)) (exq:Nat→Prop) (w:World) (hs:s.length≤800000) (hT:∀ wc L,Mem w exq wc L→StrW wc) (hsA:Sl 77 4 (.slice A b.lows.length c) b.lows.length (sc b.lows) Ia) (hsB:Sl 77 4 (.slice B b.highs.length d) b.highs.length (sc b.highs) Ib) (M0:Mem w exq w ((bb,.cells (bxM b (.slice A b.lows.length c) (.slice B b.highs.length d)))::(Ia++Ib))):Calls prog 49 #[.agg #[sv KF.word,sv fmF,.func (.func 115) #[] #[]],Zj bb,sv s] w (LineB (KF.rd s) w exq bb 3 b):=by
 refine vreadG_any KF fmF 3 115 _ [] s bb b A c B d Ia Ib exq w Z (by decide) func115 (by kernel_rfl) (by kernel_rfl) hs hT hsA hsB M0 ?_
 intro R N xs X cx Y cy It Iu Fr wc hm sR sN M
 obtain ⟨qm,qt,qf⟩:=hm
 replace qt:R.length=6:=qt
 replace qf:N.length=2:=qf
 obtain ⟨bx,ox,SVx⟩:=Sl.spW sR (rc_length _)
 obtain ⟨u0,u1,d0,d1,a0,a1,b0,b1,t0,t1,r0,r1,hR⟩:=len6r qt
 obtain ⟨le,me,hN⟩:=len2 qf
 have hx9:xs=[u0,u1,d0,d1,a0,a1,b0,b1,le,t0,t1,r0,r1,me]:=by rw [qm,hR,hN];rfl
 rw [hx9]
 obtain ⟨by9,oy,SVy⟩:=Sl.spW sN (by rw [ic_length,Nat.mul_one])
 have MR:Mem w exq wc (It++((bb,.cells (bxM b (.slice A b.lows.length c) (.slice B b.highs.length d)))::(Ia++Ib++(Iu++Fr)))):=M.permS (fun f=>by simp only [bxM,boxL,sumF_app,sumF_cons,sumF_nil,Zx6,Zx5,Zx4,Zx0,Zxa] <;> omega)
 have MN:Mem w exq wc (Iu++((bb,.cells (bxM b (.slice A b.lows.length c) (.slice B b.highs.length d)))::(Ia++Ib++(It++Fr)))):=M.permS (fun f=>by simp only [bxM,boxL,sumF_app,sumF_cons,sumF_nil,Zx6,Zx5,Zx4,Zx0,Zxa] <;> omega)
 have nR:=Sl.ne sR (Mem.subS (L':=(bb,.cells (bxM b (.slice A b.lows.length c) (.slice B b.highs.length d)))::It) (Ia++Ib++(Iu++Fr)) M (fun f=>by simp only [bxM,boxL,sumF_app,sumF_cons,sumF_nil,Zx6,Zx5,Zx4,Zx0,Zxa] <;> omega))
 have nN:=Sl.ne sN (Mem.subS (L':=(bb,.cells (bxM b (.slice A b.lows.length c) (.slice B b.highs.length d)))::Iu) (Ia++Ib++(It++Fr)) M (fun f=>by simp only [bxM,boxL,sumF_app,sumF_cons,sumF_nil,Zx6,Zx5,Zx4,Zx0,Zxa] <;> omega))
 refine Calls.mono (vtq3 bb b A c B d X cx Y cy R N u0 u1 d0 d1 a0 a1 b0 b1 t0 t1 r0 r1 le me hR hN wc (M.nth 0 Z) ((SVx w exq).rd MR (Zsl _ _)) nR ((SVy w exq).rd MN (Zsl _ _)) nN) ?_
 rintro e w9 ⟨rfl,N9⟩
 have M9:=Mem.joinX (X:=[(bb,.cells (bxM b (.slice A b.lows.length c) (.slice B b.highs.length d)))]) (F:=Ia++Ib++(It++Iu++Fr)) M N9 (fun b h=>by subst h;exact Zz2)
 exact ⟨rfl,(bb,.cells [Zi b.first,Zi b.step,Zi b.span,Zi b.press,Zi b.note,.slice A b.lows.length c,.slice B b.highs.length d,Zi t0,Zi t1,Zi r0,Zi r1,Zi u0,Zi u1,Zi d0,Zi d1,Zi a0,Zi a1,Zi b0,Zi b1,Zi le,Zi me])::(Ia++Ib),Mem.subS (It++Iu++Fr) M9 (fun f=>by simp only [bxM,boxL,sumF_app,sumF_cons,sumF_nil,Zx6,Zx5,Zx4,Zx0,Zxa] <;> omega),A,c,B,d,Ia,Ib,Z,hsA,hsB⟩
abbrev KpV:=Nat×Nat
abbrev kW (p:KpV):List UInt8:=(kvAt KL KA KB KF p.1).word
def kM (p:KpV):List UInt8:=match p.1 with
 | 0=>fmL
 | 1=>fmA
 | 2=>fmA
 | _=>fmF
def kG (p:KpV):Value:=match p.1 with
 | 0=>.func (.func 112) #[] #[]
 | 1=>.func (.func 113) #[] #[.pointer (some ⟨p.2,0,none⟩)]
 | 2=>.func (.func 114) #[] #[.pointer (some ⟨p.2,0,none⟩)]
 | _=>.func (.func 115) #[] #[]
def kvE (p:KpV):List Value:=[sv (kW p),sv (kM p),kG p]
def kv (l:List KpV):List Value:=l.flatMap kvE
theorem kv_get:∀ (l:List KpV) (k:Nat) {x:KpV},l[k]? = some x→∀ (i:Nat) (v:Value),(kvE x)[i]? = some v→(kv l)[k * 3+i]? = some v
 | [],k,x,h=>by simp at h
 | y::l,0,x,h=>by
  intro i v hv
  simp only [List.getElem?_cons_zero,Option.some.injEq] at h
  subst h
  show (kvE y++kv l)[0 * 3+i]? = some v
  rw [Nat.zero_mul,Zxa,List.getElem?_append_left (List.getElem?_eq_some_iff.1 hv).1]
  exact hv
 | y::l,k+1,x,h=>by
  intro i v hv
  have:=kv_get l k (by simpa using h) i v hv
  show (kvE y++kv l)[(k+1) * 3+i]? = some v
  have e:(kvE y).length=3:=rfl
  rw [List.getElem?_append_right (by rw [e];omega),e,show (k+1) * 3+i - 3=k * 3+i by omega]
  exact this
section
variable {w w':World} {ex:Nat→Prop} {I L:List (Nat×BA)} {n b o k:Nat} {A:Option Addr} {l:List KpV} {p:KpV}
theorem Sp.kvA (S:Sp w ex I A n 3 b o (kv l)) (M:Mem w ex w' L) (hI:I.Sublist L) (h:l[k]? = some p) (f:Nat) (v:Value) (hv:(kvE p)[f]? = some v):w'.cell? ⟨b,o+k * 3+f,none⟩=some v:=by
 have:=S.cell w' L M hI _ _ (kv_get l k h f v hv)
 rwa [← Nat.add_assoc] at this
theorem Sp.kvR (S:Sp w ex I A n 3 b o (kv l)) (M:Mem w ex w' L) (hI:I.Sublist L) (h:l[k]? = some p):w'.rangeAt b (o+k * 3) [sv (kW p),sv (kM p),kG p]:=fun j v hv=>S.kvA M hI h j v hv
theorem Sp.kvC0 (S:Sp w ex I A n 3 b o (kv l)) (M:Mem w ex w' L) (hI:I.Sublist L) (h:l[k]? = some p):w'.cell? ⟨b,o+k * 3+0,none⟩=some (sv (kW p)):=S.kvA M hI h 0 _ rfl
end
def kvs (gs:Nat):List KpV:=[(0,gs),(1,gs),(2,gs),(3,gs)]
theorem kv_at {gs q:Nat} (h:q < 4):(kvs gs)[q]? = some (q,gs):=by
 match q,h with
 | 0,_=>rfl
 | 1,_=>rfl
 | 2,_=>rfl
 | 3,_=>rfl
theorem readQ_any (q:Nat) (hq:q < 4) (s:List UInt8) (bb gs:Nat) (b:Bx) (A:Option Addr) (c:Nat) (B:Option Addr) (d:Nat) (Ia Ib:List (Nat×BA)) (exq:Nat→Prop) (w:World) (hs:s.length≤800000) (hl:b.lows.length≤800000) (hh:b.highs.length≤800000) (hT:∀ wc L,Mem w exq wc L→StrW wc)
  (hsA:Sl 77 4 (.slice A b.lows.length c) b.lows.length (sc b.lows) Ia) (hsB:Sl 77 4 (.slice B b.highs.length d) b.highs.length (sc b.highs) Ib) (M0:Mem w exq w ((bb,.cells (boxL b A c B d))::(Ia++Ib))) (hO:Old w exq gs [.func (.func 111) #[] #[]]) :
  Calls prog 49 #[.agg #[sv (kW (q,gs)),sv (kM (q,gs)),kG (q,gs)],Zj bb,sv s] w (LineB ((kvAt KL KA KB KF q).rd s) w exq bb q b):=by
 match q,hq with
 | 0,_=>exact vread0_any s bb b A c B d Ia Ib exq w hs hT hsA hsB M0
 | 1,_=>exact vread1_any s bb gs b A c B d Ia Ib exq w hs hT hsA hsB M0 hl hO.1 hO.2
 | 2,_=>exact vread2_any s bb gs b A c B d Ia Ib exq w hs hT hsA hsB M0 hh hO.1 hO.2
 | 3,_=>exact vread3_any s bb b A c B d Ia Ib exq w hs hT hsA hsB M0
def RdE.app (l:List (Nat×List Int)) (r:RdE):RdE:=l.foldr (fun x r=>r.cons x) r
theorem app_bad (l:List (Nat×List Int)) (q:Nat):(RdE.bad q).app l=.bad q:=by
 induction l with
 | nil=>rfl
 | cons x l ih=>show RdE.cons x (RdE.app l (RdE.bad q))=_;rw [ih];rfl
theorem app_ok (l m:List (Nat×List Int)) (d:Bool):(RdE.ok d m).app l=.ok d (l++m):=by
 induction l with
 | nil=>rfl
 | cons x l ih=>show RdE.cons x (RdE.app l (RdE.ok d m))=_;rw [ih];rfl
theorem app_cons (l:List (Nat×List Int)) (x:Nat×List Int) (r:RdE):(r.cons x).app l=r.app (l++[x]):=by
 unfold RdE.app
 rw [List.foldr_append]
 rfl
theorem foldV_snoc (l:List (Nat×List Int)) (k:Nat) (x:List Int) (b:Bx):foldV (l++[(k,x)]) b=putV k x (foldV l b):=by
 unfold foldV
 rw [List.foldl_append]
 rfl
theorem putV_len (k:Nat) (x:List Int) (b:Bx):(putV k x b).lows.length+(putV k x b).highs.length≤b.lows.length+b.highs.length+1:=by
 unfold putV
 split <;> simp <;> omega
theorem progV_at {at' i : Nat} {ls : List (List UInt8)} {s : List UInt8} (h : ls[i]? = some s) : progV KL KA KB KF at' i (ls.drop i) = if 4 ≤ nxV KA KB at' s then .bad (i + 1) else match (kvAt KL KA KB KF (nxV KA KB at' s)).rd s with
   | none=>.bad (i+1)
   | some x=>(progV KL KA KB KF (if nxV KA KB at' s=0∨nxV KA KB at' s=3 then nxV KA KB at' s+1 else nxV KA KB at' s) (i+1) (ls.drop (i+1))).cons (nxV KA KB at' s,x):=by
 rw [List.drop_eq_getElem_cons (List.getElem?_eq_some_iff.1 h).1,(List.getElem?_eq_some_iff.1 h).2]
 rfl
theorem nx_stay {p gs:Nat} {s:List UInt8} (h:((decide ((p:Int)=1) || decide ((p:Int)=2)) && !(List.isPrefixOf (kW (p,gs)++[44]) s))=false):nxV KA KB p s=p:=by
 unfold nxV
 by_cases h1:p=1
 ·subst h1
  rw [if_pos rfl,if_pos]
  cases e:preV KA s with
  | true=>rfl
  | false=>rw [show List.isPrefixOf (kW (1,gs)++[44]) s=false from e] at h;simp at h
 ·rw [if_neg h1]
  by_cases h2:p=2
  ·subst h2
   rw [if_pos rfl,if_pos]
   cases e:preV KB s with
   | true=>rfl
   | false=>rw [show List.isPrefixOf (kW (2,gs)++[44]) s=false from e] at h;simp at h
  ·rw [if_neg h2]
theorem nx_go {p gs:Nat} {s:List UInt8} (h:((decide ((p:Int)=1) || decide ((p:Int)=2)) && !(List.isPrefixOf (kW (p,gs)++[44]) s))=true):nxV KA KB (p+1) s=nxV KA KB p s∧p < 3:=by
 simp only [Bool.and_eq_true,Bool.or_eq_true,decide_eq_true_eq,Bool.not_eq_true'] at h
 obtain ⟨h1,h2⟩:=h
 unfold nxV
 rcases h1 with h1 | h1
 ·obtain rfl:p=1:=by omega
  refine ⟨?_,by omega⟩
  rw [if_neg (by omega),if_pos rfl,if_pos rfl,if_neg (show ¬ preV KA s=true by rw [show preV KA s=false from h2];decide)]
 ·obtain rfl:p=2:=by omega
  refine ⟨?_,by omega⟩
  rw [if_neg (by omega),if_neg (by omega),if_neg (by omega),if_pos rfl,if_neg (show ¬ preV KB s=true by rw [show preV KB s=false from h2];decide)]
section
variable {q i:Nat} {s:List UInt8} {l:List (Nat×List Int)} {r:RdE}
theorem bad_at {o:Option (List Int)} {f:List Int→RdE} (H:r=RdE.app l (if 4≤q then .bad (i+1) else match o with | none=>.bad (i+1) | some x=>f x)) (h:4≤(q:Int)):r=.bad (i+1):=by
 rw [if_pos (by omega),app_bad] at H
 exact H
theorem bad_line {o:Option (List Int)} {f:List Int→RdE} (H:r=RdE.app l (if 4≤q then .bad (i+1) else match o with | none=>.bad (i+1) | some x=>f x)) (h4 : ¬ 4≤(q:Int)) (h:(!o.isSome)=true):r=.bad (i+1):=by
 rw [if_neg (by omega)] at H
 cases o with
 | none=>rw [app_bad] at H;exact H
 | some x=>cases h
theorem good_line {o:Option (List Int)} {f:List Int→RdE} (H:r=RdE.app l (if 4≤q then .bad (i+1) else match o with | none=>.bad (i+1) | some x=>(f x).cons (q,x))) (h4 : ¬ 4≤(q:Int)) (h:(!o.isSome)=false):∃ x,o=some x∧r=RdE.app (l++[(q,x)]) (f x):=by
 rw [if_neg (by omega)] at H
 cases o with
 | none=>cases h
 | some x =>
  refine ⟨x,Z,?_⟩
  rw [← app_cons]
  exact H
end
theorem endV_bad {rows:List (List UInt8)} {l:List (Nat×List Int)} {d:Bool} {zl:List UInt8} (hz:rows[rows.length - 1]? = some zl) (h:d=false∨zl≠[]):endV rows (.ok d l)=(zeroB,(rows.length:Int),2):=by
 unfold endV
 dsimp only
 rw [if_pos]
 rcases h with h | h
 ·exact .inl h
 ·refine .inr fun e=>h ?_
  rw [List.getLast?_eq_getElem?,hz] at e
  injection e
theorem endV_go {rows:List (List UInt8)} {l:List (Nat×List Int)} {d:Bool} {zl:List UInt8} (hz:rows[rows.length - 1]? = some zl) (h:d=true∧zl=[]):endV rows (.ok d l)=if checkB (foldV l zeroB)≠0 then (zeroB,0,checkB (foldV l zeroB)) else (foldV l zeroB,0,0):=by
 unfold endV
 dsimp only
 rw [if_neg]
 rintro (h1 | h1)
 ·rw [h.1] at h1;cases h1
 ·rw [List.getLast?_eq_getElem?,hz,h.2] at h1
  exact h1 Z
theorem or_bad {p:Nat} {zl:List UInt8} (h:(decide ((p:Int) < 4) || (!decide (zl=[])))=true):decide (4≤p)=false∨zl≠[]:=by
 simp only [Bool.or_eq_true,decide_eq_true_eq,Bool.not_eq_true',decide_eq_false_iff_not] at h
 rcases h with h | h
 · exact .inl (Zdf (by omega))
 · exact .inr h
theorem or_go {p:Nat} {zl:List UInt8} (h:(decide ((p:Int) < 4) || (!decide (zl=[])))=false):decide (4≤p)=true∧zl=[]:=by
 simp only [Bool.or_eq_false_iff,decide_eq_false_iff_not,Bool.not_eq_false',decide_eq_true_eq] at h
 exact ⟨Zdt (by omega),h.2⟩
theorem readV_long {t:List UInt8} (h:500 < t.length):readV t=(zeroB,0,10):=by unfold readV;rw [if_pos h]
theorem readV_short {t:List UInt8} (h : ¬ 500 < t.length):readV t=endV (spl 10 t) (progV KL KA KB KF 0 0 (spl 10 t).dropLast):=by unfold readV;rw [if_neg h]
section
variable {P:Program} {fn:Func} {R:Ending→World→Prop} {a:Act} {w0 w:World} {ex:Nat→Prop} {L:List (Nat×BA)} {n:Nat} {E:List (Nat×Value)}
theorem rt_ctt {t t' t2:Tmp} {ty:TypeId} {m g:Nat} [hT:RowTy P ty m] {v v2:Value} {cs:List Value} (M:Mem w0 ex w L) (T:Tm a n E) (hr:fn.results = #[.cell t ty,.tmp t',.tmp t2])
  (hx:a.eval (.tmp t)=Zj g) (hx':a.eval (.tmp t')=v) (hx2:a.eval (.tmp t2)=v2) (hm:(g,BA.cells cs)∈L) (hn:cs.length=m) (h:R (.returned (.tuple #[.agg cs.toArray,v,v2])) w):bodyPost P fn R .ret a w:=by
 obtain ⟨d,hu,hw⟩:=hT.row
 refine ⟨T.defers,.tuple #[.agg cs.toArray,v,v2],?_,h⟩
 have hB:=M.get hm
 have hl:=run_loadVar_mid w g 0 ty cs d hB.range hu hw (by rw [hn];exact hT.size)
 have e:a.tmps[t]?.getD undef=Zj g:=by simpa [Act.eval] using hx
 have e':a.tmps[t']?.getD undef=v:=by simpa [Act.eval] using hx'
 have e2:a.tmps[t2]?.getD undef=v2:=by simpa [Act.eval] using hx2
 simp [results,hr,e,e',e2,asAddr,hl,Sem.run_bind]
end
def ReadB (r:Bx×Int×Int) (w:World) (e:Ending) (w':World):Prop:=∃ (A:Option Addr) (c:Nat) (B:Option Addr) (d:Nat) (Ia Ib:List (Nat×BA)),e=.returned (.tuple #[bxV r.1 A c B d,Zi r.2.1,Zi r.2.2])∧Sl 77 4 (.slice A r.1.lows.length c) r.1.lows.length (sc r.1.lows) Ia∧Sl 77 4 (.slice B r.1.highs.length d) r.1.highs.length (sc r.1.highs) Ib∧Mem w noEx w' (Ia++Ib)
theorem ReadB.zero {r:Bx×Int×Int} {w w':World} {L:List (Nat×BA)} {r1 e1:Int} (h:r=(zeroB,r1,e1)) (M:Mem w noEx w' L):ReadB r w (.returned (.tuple #[bxV zeroB none 0 none 0,Zi r1,Zi e1])) w':=by
 subst h
 exact ⟨none,0,none,0,[],[],Z,Sl.nil _ _,Sl.nil _ _,M.sub (Zz9 _)⟩
theorem kinds_any  (w:World)  :
  Calls prog 47 #[] w fun e w'=>∃ gk gs,e=.returned (.slice (some ⟨gk,0,none⟩) 4 4)∧Mem w noEx w' [(gk,.cells (kv (kvs gs))),(gs,.cells [.func (.func 111) #[] #[]])]:=by
 refine Zpx noEx func47 Z 9 Z [] Z Z (Mem.init w _) ?_
 intro ac wc T M
 refine Zsr ?_
 refine lq T (Zra Z evc) ?_;intro ac T
 replace T:=T.pick [] rfl
 refine Zln ?_
 refine Zsr ?_
 refine Zl2 ?_
 refine Zoa M T Z Z Z Z ?_;clear M T;intro g1 wc ac M T
 refine Zl2 ?_
 refine Zot M T Z Z (T.e 0 Z) evf Z .head Z Z ?_;clear M T;intro wc ac M T
 refine Zln ?_
 refine Zsr ?_
 refine Zg6 (v1:=(.agg #[sv ([108,97,119]),sv ([110,110,110,110,110]),.func (.func 112) #[] #[]])) (v2:=(.func (.func 113) #[] #[Zj g1])) (v3:=(.agg #[sv ([108,111,119]),sv ([114,114]),.func (.func 113) #[] #[Zj g1]])) (v4:=(.func (.func 114) #[] #[Zj g1])) (v5:=(.agg #[sv ([104,105,103,104]),sv ([114,114]),.func (.func 114) #[] #[Zj g1]])) (v6:=(.agg #[sv ([102,105,108,101]),sv ([114,114,114,114,110,114,114,110]),.func (.func 115) #[] #[]])) T (Zq (rn_build Z (.cons evc (.cons evc (.cons evf .nil))) (fun _=>by kernel_rfl))) Z (fun _ T=>Zq (rn_makeFunc Z .nil (.cons (T.e 1 Z) .nil))) Z (fun _ T=>Zq (rn_build Z (.cons evc (.cons evc (.cons (T.e 0 Z) .nil))) (fun _=>by kernel_rfl))) Z (fun _ T=>Zq (rn_makeFunc Z .nil (.cons (T.e 3 Z) .nil))) Z (fun _ T=>Zq (rn_build Z (.cons evc (.cons evc (.cons (T.e 0 Z) .nil))) (fun _=>by kernel_rfl))) Z (fun _ T=>Zq (rn_build Z (.cons evc (.cons evc (.cons evf .nil))) (fun _=>by kernel_rfl))) Z ?_;intro ac T
 refine Zl2 ?_
 refine ow_bs (e:=100) [sv ([108,97,119]),sv ([110,110,110,110,110]),.func (.func 112) #[] #[],sv ([108,111,119]),sv ([114,114]),.func (.func 113) #[] #[Zj g1],sv ([104,105,103,104]),sv ([114,114]),.func (.func 114) #[] #[Zj g1],sv ([102,105,108,101]),sv ([114,114,114,114,110,114,114,110]),.func (.func 115) #[] #[]] M T Z Z Z Z (.cons (T.e 5 Z) (.cons (T.e 3 Z) (.cons (T.e 1 Z) (.cons (T.e 0 Z) .nil)))) (fun _=>by kernel_rfl) ?_;clear M T;intro g2 wc ac M T
 refine lq T (Zra Z (T.e 0 Z)) ?_;intro ac T
 replace T:=T.pick [0] rfl
 refine Zln ?_
 refine wp_ret ?_
 refine rt_1 T Z (T.e 0 Z) ?_
 exact ⟨g2,g1,Z,M.perm [0,1] Z Z⟩
theorem kW_len (q gs:Nat):(kW (q,gs)).length≤4:=by
 unfold kW
 match q with
 | 0=>exact (by decide:lawW.length≤4)
 | 1=>exact (by decide:lowW.length≤4)
 | 2=>exact (by decide:highW.length≤4)
 | _+3=>exact (by decide:fileV.length≤4)
theorem nx_cond (a b c:Bool):(bif a then c else b && c)=((a || b) && c):=by cases a <;> rfl
theorem vread_any (text:List UInt8) (w:World) (hT:StrW w)  :
   Calls prog 13 #[sv text] w (ReadB (readV text) w):=by
 refine Zpx noEx func13 Z 96 Z [sv text] Z Z (Mem.init w _) ?_
 intro ac wc T M
 refine Zsr ?_
 refine Zl2 ?_
 refine Zoa M T Z Z Z Z ?_;clear M T;intro g1 wc ac M T
 refine Zg2 T (Zq (Zra Z evc)) Z (Zc Z) Z ?_;intro ac T
 replace T:=T.pick [2,3] rfl
 refine Zln ?_
 refine wp_seq ?_
 refine Zsr ?_
 refine Zg3 T (Zq (Zrm Z (T.e 1 Z))) Z (fun _ T=>Zq (rn_slen Z underlying9 (T.e 0 Z))) Z (fun _ T=>Zq (rn_gtr Z (T.e 0 Z) evc)) Z ?_;intro ac T
 replace T:=T.pick [0,3,4] rfl
 refine Zln ?_
 refine wp_if (T.e 0 Z) ?_ ?_
 ·intro h1
  refine Zsr ?_
  refine lq (v:=(.agg #[Zi 0,Zi 0,Zi 0,Zi 0,Zi 0,.slice none 0 0,.slice none 0 0,Zi 0,Zi 0,Zi 0,Zi 0,Zi 0,Zi 0,Zi 0,Zi 0,Zi 0,Zi 0,Zi 0,Zi 0,Zi 0,Zi 0])) T (rn_build Z .nil (fun _=>by kernel_rfl)) ?_;intro ac T
  refine Zl2 ?_
  refine Zot M T Z Z (T.e 2 Z) (T.e 0 Z) Z .head Z Z ?_;clear M T;intro wc ac M T
  refine Zg2 T (Zq (Zra Z evc)) Z (Zc Z) Z ?_;intro ac T
  replace T:=T.pick [0,1,4] rfl
  refine Zln ?_
  refine wp_ret ?_
  refine Zrt ?_
  refine rt_ctt M T Z (T.e 2 Z) (T.e 1 Z) (T.e 0 Z) (Zne (i:=0) Z) Z ?_
  exact ReadB.zero (readV_long (by omega)) M
 intro h1
 refine Zsk ?_
 refine Zsr ?_
 refine lq T (Zrm Z (T.e 2 Z)) ?_;intro ac T
 refine Zl2 ?_
 refine Zod T Z Z Z Z evf (.cons (T.e 0 Z) (.cons evc .nil)) func46 Z Z ?_
 refine Calls.mono (Split2_any text 10 _ (by omega) (hT.mem0 M)) ?_
 clear T;rintro e wc ⟨Au1,cu1,bu1,ou1,Iu1,rfl,hc9u1,SVu1,N⟩ ac T
 obtain ⟨lsu1,hlsu1⟩:∃ q,q=spl 10 text:=⟨_,rfl⟩
 rw [← hlsu1] at hc9u1 SVu1 T
 have Su1:=SVu1 w noEx
 replace M:=(M.join N).swapI
 clear N
 replace M:Mem w noEx wc ((g1,.cells Zb0)::Iu1):=M
 have hlenu1:lsu1.length≤text.length+1:=by rw [hlsu1];exact spl_len _ _
 have hposu1:0 < lsu1.length:=by rw [hlsu1];exact spl_pos _ _
 refine lq T (Zra Z (T.e 0 Z)) ?_;intro ac T
 replace T:=T.pick [0,4] rfl
 refine Zln ?_
 refine Zsr ?_
 refine Zg4 T (Zq (Zrm Z (T.e 0 Z))) Z (Zl underlying37 0 Z Z) Z (fun _ T=>Zq (rn_sub Z (T.e 0 Z) evc (by omega))) Z (Za 0 Z Z) Z ?_;intro ac T
 replace T:=T.pick [0,4,5] rfl
 refine Zln ?_
 refine Zsr ?_
 refine Zl2 ?_
 refine Zod T Z Z Z Z evf .nil func47 Z Z ?_
 refine Calls.mono (kinds_any _) ?_
 clear T;rintro e wc ⟨gk,gs,rfl,N⟩ ac T
 replace N:Mem _ noEx _ [(gk,.cells (kv (kvs gs)++[])),(gs,.cells [.func (.func 111) #[] #[]])]:=N
 replace M:=M.join N
 clear N
 replace M:Mem w noEx wc ((gk,.cells (kv (kvs gs)++[]))::(gs,.cells [.func (.func 111) #[] #[]])::(g1,.cells Zb0)::Iu1):=M
 have Sk:=Sp.pre (w:=w) (ex:=noEx) (size:=3) (n:=4) (g:=gk) (xs:=kv (kvs gs)) (ys:=[]) (by rfl)
 refine lq T (Zra Z (T.e 0 Z)) ?_;intro ac T
 replace T:=T.pick [0,2,3,4] rfl
 refine Zln ?_
 refine Zsr ?_
 refine lq T (Zra Z evc) ?_;intro ac T
 refine Zln ?_
 refine wp_seq ?_
 refine Zsr ?_
 refine Zg3 T (Zq (Zrm Z (T.e 3 Z))) Z (Zm 3 Z Z) Z (fun _ T=>Zq (rn_slice (size:=1) (l:=0) (h:=(lsu1.length - 1)) Z underlying37 (by kernel_rfl) (T.e 1 Z) Z ((T.e 0 Z).trans (congrArg (Value.int .i64) (by omega))) (by omega) (by omega))) Z ?_;intro ac T
 obtain ⟨Aq1,hAq1⟩:∃ q:Option Addr,q=(if cu1=0 then Au1 else Option.map (fun x:Addr=>x.add (0 * 1)) Au1):=⟨_,rfl⟩
 rw [← hAq1] at T
 obtain ⟨lq1,hlq1⟩:∃ q,q=(lsu1.drop 0).take ((lsu1.length - 1) - 0):=⟨_,rfl⟩
 have nlq1:lq1.length=(lsu1.length - 1) - 0:=by rw [hlq1,List.length_take,List.length_drop];(try simp only [Zx1,Zx3,Zx2]);omega
 rw [← nlq1] at T
 have SAq1:Sp w noEx Iu1 Aq1 lq1.length 1 bu1 (ou1+0 * 1) (st lq1):=by rw [nlq1,hAq1,hlq1,← st_part];exact Su1.sub (by omega) (by omega) (by omega)
 refine Zg2 T (Zq (Zrl Z underlying37 (T.e 0 Z))) Z (fun _ T=>Zq (Zrm Z evc)) Z ?_;intro ac T
 replace T:=T.pick [0,1,2,5,6,7,8,9] rfl
 refine Zln ?_
 refine wp_block ?_
 have hdl:lq1=lsu1.dropLast:=by rw [hlq1,List.dropLast_eq_take];rfl
 refine wp_loop_n (fun mz ac wc=>∃ (i p:Nat) (b:Bx) (A:Option Addr) (c:Nat) (B:Option Addr) (d:Nat) (Ia Ib:List (Nat×BA)) (l:List (Nat×List Int)),mz=lq1.length - i∧(i≤lq1.length)∧(p≤4)∧(progV KL KA KB KF 0 0 lq1=RdE.app l (progV KL KA KB KF p i (lq1.drop i)))∧(b=foldV l zeroB)∧(Sl 77 4 (.slice A b.lows.length c) b.lows.length (sc b.lows) Ia)∧(Sl 77 4 (.slice B b.highs.length d) b.highs.length (sc b.highs) Ib)∧(b.lows.length+b.highs.length≤i)∧Tm ac 96 [(2,Zj g1),(5,.slice Au1 lsu1.length cu1),(6,Zi (((lsu1.length:Nat):Int) - 1)),(7,.slice (some ⟨gk,0,none⟩) 4 4),(8,Zi (p:Int)),(24,.slice Aq1 lq1.length (cu1 - 0)),(25,Zi ((lq1.length:Nat):Int)),(26,Zi (i:Int))]∧Mem w noEx wc ((gk,.cells (kv (kvs gs)++[]))::(gs,.cells [.func (.func 111) #[] #[]])::(g1,.cells (bxM b (.slice A b.lows.length c) (.slice B b.highs.length d)))::(Ia++Ib++Iu1))) ?_ ?_
 ·exact ⟨_,0,0,zeroB,none,0,none,0,[],[],[],Z,(Nat.zero_le _),(Nat.zero_le _),Z,Z,(Sl.nil _ _),(Sl.nil _ _),(Nat.zero_le _),T.pick [7,6,5,4,3,2,1,0] Z,M⟩
 clear T M
 rintro mz ac wc ⟨i,p,b,A,c,B,d,Ia,Ib,l,hmm1,hi,hp,H,hj,hsA,hsB,hjl,T,M⟩
 refine Zsr ?_
 refine lq T (rn_lss Z (T.e 7 Z) (T.e 6 Z)) ?_;intro ac T
 refine Zln ?_
 refine wp_seq ?_
 refine wp_if (T.e 0 Z) ?_ ?_
 ·intro h2
  obtain ⟨s,hks⟩:∃ q,lq1[i]? = some q:=⟨_,List.getElem?_eq_getElem (by omega)⟩
  have hsm:s∈lsu1:=by have h9:=List.mem_of_getElem? hks;rw [hdl] at h9;exact (List.dropLast_sublist _).subset h9
  have hsl8:s.length≤text.length:=spl_mem_len (c:=10) (by rw [← hlsu1];exact hsm)
  rw [progV_at hks] at H
  refine Zsk ?_
  refine wp_seq ?_
  refine wp_block ?_
  refine Zsr ?_
  refine Zg5 T (Zq (Zrm Z (T.e 8 Z))) Z (fun _ T=>Zq (Zri (size:=1) i Z (T.e 7 Z) (T.e 9 Z) ⟨_,underlying37,by kernel_rfl⟩ Z (by omega) (SAq1.at0 (by omega)))) Z (fun _ T=>Zq (rn_cell (Sp.stC0 SAq1 M (.cons _ (.cons _ (.cons _ (Zsq _ _)))) hks) Z (T.e 0 Z))) Z (Za 2 Z Z) Z (Za 1 Z Z) Z ?_;intro ac T
  replace T:=T.pick [0,1,6,7,8,9,10,11,12,13] rfl
  refine Zln ?_
  refine wp_seq ?_
  refine wp_block ?_
  refine wp_loop_n (fun mz ac wc=>∃ (q:Nat),mz=4 - q∧(q≤4)∧(nxV KA KB q s=nxV KA KB p s)∧Tm ac 96 [(2,Zj g1),(5,.slice Au1 lsu1.length cu1),(6,Zi (((lsu1.length:Nat):Int) - 1)),(7,.slice (some ⟨gk,0,none⟩) 4 4),(8,Zi (q:Int)),(9,Zi (i:Int)),(10,sv s),(24,.slice Aq1 lq1.length (cu1 - 0)),(25,Zi ((lq1.length:Nat):Int)),(26,Zi (i:Int))]∧Mem w noEx wc ((gk,.cells (kv (kvs gs)++[]))::(gs,.cells [.func (.func 111) #[] #[]])::(g1,.cells (bxM b (.slice A b.lows.length c) (.slice B b.highs.length d)))::(Ia++Ib++Iu1))) ?_ ?_
  ·exact ⟨_,p,Z,(by omega),Z,T.pick [2,3,4,5,6,1,0,7,8,9] Z,M.mask [true,true,true] Z⟩
  clear T M
  rintro mz ac wc ⟨q,hmm2,hq4,hnx,T,M⟩
  have hkl:=kW_len q gs
  refine wp_seq ?_
  refine cut_seq (fun ac wc=>Tm ac 96 [(2,Zj g1),(5,.slice Au1 lsu1.length cu1),(6,Zi (((lsu1.length:Nat):Int) - 1)),(7,.slice (some ⟨gk,0,none⟩) 4 4),(8,Zi (q:Int)),(9,Zi (i:Int)),(10,sv s),(24,.slice Aq1 lq1.length (cu1 - 0)),(25,Zi ((lq1.length:Nat):Int)),(26,Zi (i:Int)),(47,.bool (bif (decide ((q:Int)=1)) then (!(List.isPrefixOf ((kW (q,gs))++([44])) s)) else ((decide ((q:Int)=2)) && (!(List.isPrefixOf ((kW (q,gs))++([44])) s)))))]∧Mem w noEx wc ((gk,.cells (kv (kvs gs)++[]))::(gs,.cells [.func (.func 111) #[] #[]])::(g1,.cells (bxM b (.slice A b.lows.length c) (.slice B b.highs.length d)))::(Ia++Ib++Iu1))) ?_ ?_
  ·refine wp_region_lit ?_
   refine Zg3 T (Zq (Zrm Z (T.e 4 Z))) Z (fun _ T=>Zq (rn_eql Z (T.e 0 Z) evc)) Z (Zm 0 Z Z) Z ?_;intro ac T
   rcases Zx9 (decide ((q:Int)=1)) with h3 | h3
   ·replace h3:=of_decide_eq_true h3
    refine Zg8 T (Zp (Zwn Z Z (T.e 0 Z) (Zdt h3))) Z (fun _ T=>Zp (Zwn Z Z (T.e 1 Z) (Zdt h3))) Z (fun _ T=>Zq (Zr1 Z (T.e 2 Z) (Zdt h3) evc)) Z (Zm 0 Z Z) Z (fun _ T=>Zw (Zwy Z Z (T.e 0 Z) Z) (Zrm Z (T.e 13 Z))) Z (fun _ T=>Zw (Zwy Z Z (T.e 1 Z) Z) (Zrm Z (T.e 11 Z))) Z (fun _ T=>Zw (Zwy Z Z (T.e 2 Z) Z) (Zrm Z (T.e 13 Z))) Z (fun _ T=>Zw (Zwy Z Z (T.e 3 Z) Z) (Zri (size:=3) q Z (T.e 1 Z) (T.e 0 Z) ⟨_,underlying95,by kernel_rfl⟩ Z (by omega) Z)) Z ?_;intro ac T
    refine Zg3 T (Zw (Zwy Z Z (T.e 4 Z) Z) (Zrg 0 Z (T.e 0 Z))) Z (fun _ T=>Zw (Zwy Z Z (T.e 5 Z) Z) (rn_cell (Sp.kvC0 Sk M (List.Sublist.cons_cons _ (Zz9 _)) (kv_at (by omega))) Z (T.e 0 Z))) Z (fun _ T=>Zw (Zwy Z Z (T.e 6 Z) Z) (rn_sadd Z (T.e 0 Z) evc (by (try simp only [Zx3,Zx1,Zx2]);omega))) Z ?_;intro ac T
    refine l_w (Zwy Z Z (T.e 7 Z) Z) ?_;intro K hK
    refine Zod T Z Z Z Z evf (.cons (T.e 6 Z) (.cons (T.e 0 Z) .nil)) func48 Z Z ?_
    refine Calls.mono (HasPrefix_any s ((kW (q,gs))++([44])) _) ?_
    clear T;rintro e wc ⟨rfl,hb⟩ ac T
    replace M:=M.call hb;clear hb
    refine Zso hK _ _ ?_;clear hK K
    refine Zg2 T (Zw (Zwy Z Z (T.e 8 Z) Z) (rn_not Z (T.e 0 Z))) Z (fun _ T=>Zq (Zr1 Z (T.e 9 Z) Z (T.e 0 Z))) Z ?_;intro ac T
    refine wpList_nil ?_
    replace T:=T.pick [0,1,2,3,4,5,6,7,8,9,12,13,17,18,19,20,21,22,23,24,25,26] rfl
    exact ⟨(T.pick (E':=[(2,Zj g1),(5,.slice Au1 lsu1.length cu1),(6,Zi (((lsu1.length:Nat):Int) - 1)),(7,.slice (some ⟨gk,0,none⟩) 4 4),(8,Zi (q:Int)),(9,Zi (i:Int)),(10,sv s),(24,.slice Aq1 lq1.length (cu1 - 0)),(25,Zi ((lq1.length:Nat):Int)),(26,Zi (i:Int)),(47,.bool (!(List.isPrefixOf ((kW (q,gs))++([44])) s)))]) [12,13,14,15,16,17,18,19,20,21,0] Z).as (by (try rw [show (decide ((q:Int)=1))=true from (Zdt h3)]);(try rfl)),M.mask [true,true,true] Z⟩
   replace h3:=of_decide_eq_false h3
   refine Zg4 T (Zw (Zwy Z Z (T.e 0 Z) (Zdf h3)) (Zrm Z (T.e 7 Z))) Z (fun _ T=>Zw (Zwy Z Z (T.e 1 Z) (Zdf h3)) (rn_eql Z (T.e 0 Z) evc)) Z (fun _ T=>Zq (Zr0 Z (T.e 2 Z) (Zdf h3) (T.e 0 Z))) Z (Zm 0 Z Z) Z ?_;intro ac T
   rcases Zx9 (decide ((q:Int)=2)) with h4 | h4
   ·replace h4:=of_decide_eq_true h4
    refine Zg7 T (Zw (Zwy Z Z (T.e 0 Z) (Zdt h4)) (Zrm Z (T.e 13 Z))) Z (fun _ T=>Zw (Zwy Z Z (T.e 1 Z) (Zdt h4)) (Zrm Z (T.e 11 Z))) Z (fun _ T=>Zw (Zwy Z Z (T.e 2 Z) (Zdt h4)) (Zrm Z (T.e 13 Z))) Z (fun _ T=>Zw (Zwy Z Z (T.e 3 Z) (Zdt h4)) (Zri (size:=3) q Z (T.e 1 Z) (T.e 0 Z) ⟨_,underlying95,by kernel_rfl⟩ Z (by omega) Z)) Z (fun _ T=>Zw (Zwy Z Z (T.e 4 Z) (Zdt h4)) (Zrg 0 Z (T.e 0 Z))) Z (fun _ T=>Zw (Zwy Z Z (T.e 5 Z) (Zdt h4)) (rn_cell (Sp.kvC0 Sk M (List.Sublist.cons_cons _ (Zz9 _)) (kv_at (by omega))) Z (T.e 0 Z))) Z (fun _ T=>Zw (Zwy Z Z (T.e 6 Z) (Zdt h4)) (rn_sadd Z (T.e 0 Z) evc (by (try simp only [Zx3,Zx1,Zx2]);omega))) Z ?_;intro ac T
    refine l_w (Zwy Z Z (T.e 7 Z) (Zdt h4)) ?_;intro K hK
    refine Zod T Z Z Z Z evf (.cons (T.e 6 Z) (.cons (T.e 0 Z) .nil)) func48 Z Z ?_
    refine Calls.mono (HasPrefix_any s ((kW (q,gs))++([44])) _) ?_
    clear T;rintro e wc ⟨rfl,hb⟩ ac T
    replace M:=M.call hb;clear hb
    refine Zso hK _ _ ?_;clear hK K
    refine Zg2 T (Zw (Zwy Z Z (T.e 8 Z) (Zdt h4)) (rn_not Z (T.e 0 Z))) Z (fun _ T=>Zq (Zr1 Z (T.e 9 Z) (Zdt h4) (T.e 0 Z))) Z ?_;intro ac T
    refine wpList_nil ?_
    replace T:=T.pick [0,1,2,3,4,5,6,7,8,9,12,13,17,18,19,20,21,22,23,24,25,26] rfl
    exact ⟨(T.pick (E':=[(2,Zj g1),(5,.slice Au1 lsu1.length cu1),(6,Zi (((lsu1.length:Nat):Int) - 1)),(7,.slice (some ⟨gk,0,none⟩) 4 4),(8,Zi (q:Int)),(9,Zi (i:Int)),(10,sv s),(24,.slice Aq1 lq1.length (cu1 - 0)),(25,Zi ((lq1.length:Nat):Int)),(26,Zi (i:Int)),(47,.bool (!(List.isPrefixOf ((kW (q,gs))++([44])) s)))]) [12,13,14,15,16,17,18,19,20,21,0] Z).as (by (try rw [show (decide ((q:Int)=1))=false from (Zdf h3)]);(try rw [show (decide ((q:Int)=2))=true from (Zdt h4)]);(try rfl)),M.mask [true,true,true] Z⟩
   replace h4:=of_decide_eq_false h4
   refine Zg8 T (Zp (Zwn Z Z (T.e 0 Z) (Zdf h4))) Z (fun _ T=>Zp (Zwn Z Z (T.e 1 Z) (Zdf h4))) Z (fun _ T=>Zp (Zwn Z Z (T.e 2 Z) (Zdf h4))) Z (fun _ T=>Zp (Zwn Z Z (T.e 3 Z) (Zdf h4))) Z (fun _ T=>Zp (Zwn Z Z (T.e 4 Z) (Zdf h4))) Z (fun _ T=>Zp (Zwn Z Z (T.e 5 Z) (Zdf h4))) Z (fun _ T=>Zp (Zwn Z Z (T.e 6 Z) (Zdf h4))) Z (fun _ T=>Zp (Zwn Z Z (T.e 7 Z) (Zdf h4))) Z ?_;intro ac T
   refine Zg2 T (Zp (Zwn Z Z (T.e 8 Z) (Zdf h4))) Z (fun _ T=>Zq (Zr0 Z (T.e 9 Z) (Zdf h4) evc)) Z ?_;intro ac T
   refine wpList_nil ?_
   replace T:=T.pick [0,1,2,3,4,5,6,7,8,9,12,13,17,18,19,20,21,22,23,24,25,26] rfl
   exact ⟨(T.pick (E':=[(2,Zj g1),(5,.slice Au1 lsu1.length cu1),(6,Zi (((lsu1.length:Nat):Int) - 1)),(7,.slice (some ⟨gk,0,none⟩) 4 4),(8,Zi (q:Int)),(9,Zi (i:Int)),(10,sv s),(24,.slice Aq1 lq1.length (cu1 - 0)),(25,Zi ((lq1.length:Nat):Int)),(26,Zi (i:Int)),(47,.bool false)]) [12,13,14,15,16,17,18,19,20,21,0] Z).as (by (try rw [show (decide ((q:Int)=1))=false from (Zdf h3)]);(try rw [show (decide ((q:Int)=2))=false from (Zdf h4)]);(try rfl)),M.mask [true,true,true] Z⟩
  clear T M
  rintro ac wc ⟨T,M⟩
  refine wp_cond_split (T.e 10 Z) ?_ ?_
  ·intro h5
   (have h5':=h5;try simp only [Zb1,Zb2,Zb3,Zb4,Zb5,Zb6,Zb7] at h5')
   refine Zsk ?_
   refine wp_block ?_
   refine wp_region_lit ?_
   refine Zg2 T (Zq (Zrm Z (T.e 4 Z))) Z (fun _ T=>Zq (rn_add Z (T.e 0 Z) evc (by omega))) Z ?_;intro ac T
   refine l_q (v:=(Zi ((q:Int)+1))) (T.pick [0,1,2,3,4,5,7,8,9,10,11,12] Z) Z Z Z Z (Zra Z (T.e 0 Z)) ?_;intro ac T
   refine wpList_nil ?_
   replace T:=T.pick [0,3,4,5,6,7,8,9,10,11] rfl
   refine Znb ?_
   refine nm_then ?_
   obtain ⟨hg1,hg2⟩:=nx_go (gs:=gs) (by first | exact h5 | (rw [← nx_cond];exact h5))
   exact ⟨_,by omega,q+1,Z,(by omega),(hg1.trans hnx),T.pick [1,2,3,4,0,5,6,7,8,9] Z,M.mask [true,true,true] Z⟩
  intro h5
  (have h5':=h5;try simp only [Zb1,Zb2,Zb3,Zb4,Zb5,Zb6,Zb7] at h5')
  have hqq:nxV KA KB p s=q:=hnx.symm.trans (nx_stay (gs:=gs) (by first | exact h5 | (rw [← nx_cond];exact h5)))
  rw [hqq] at H
  refine wp_exit ?_
  refine Zet ?_
  refine Zet ?_
  refine ex_hit ?_
  refine Zns ?_
  refine Zsr ?_
  refine Zg5 (v3:=(Zi 4)) T (Zq (Zrm Z (T.e 4 Z))) Z (Zm 4 Z Z) Z (Zl underlying95 0 Z Z) Z (fun _ T=>Zq (rn_geq Z (T.e 2 Z) (T.e 0 Z))) Z (Zm 0 Z Z) Z ?_;intro ac T
  rcases Zx9 (decide (4≤(q:Int))) with h6 | h6
  ·replace h6:=of_decide_eq_true h6
   refine Zg8 T (Zp (Zwn Z Z (T.e 0 Z) (Zdt h6))) Z (fun _ T=>Zp (Zwn Z Z (T.e 1 Z) (Zdt h6))) Z (fun _ T=>Zp (Zwn Z Z (T.e 2 Z) (Zdt h6))) Z (fun _ T=>Zp (Zwn Z Z (T.e 3 Z) (Zdt h6))) Z (fun _ T=>Zp (Zwn Z Z (T.e 4 Z) (Zdt h6))) Z (fun _ T=>Zp (Zwn Z Z (T.e 5 Z) (Zdt h6))) Z (fun _ T=>Zp (Zwn Z Z (T.e 6 Z) (Zdt h6))) Z (fun _ T=>Zq (Zr1 Z (T.e 7 Z) (Zdt h6) evc)) Z ?_;intro ac T
   replace T:=T.pick [0,1,2,3,4,5,6,7,13,14,15,16,17,18,20,21,22] rfl
   refine Zln ?_
   refine wp_cond_true (T.e 0 Z) ?_
   refine Zsr ?_
   refine Zg3 (v1:=(.agg #[Zi 0,Zi 0,Zi 0,Zi 0,Zi 0,.slice none 0 0,.slice none 0 0,Zi 0,Zi 0,Zi 0,Zi 0,Zi 0,Zi 0,Zi 0,Zi 0,Zi 0,Zi 0,Zi 0,Zi 0,Zi 0,Zi 0])) T (Zq (rn_build Z .nil (fun _=>by kernel_rfl))) Z (Zm 14 Z Z) Z (fun _ T=>Zq (rn_add Z (T.e 0 Z) evc (by omega))) Z ?_;intro ac T
   refine Zl2 ?_
   refine Zot M T Z Z (T.e 11 Z) (T.e 2 Z) Z (.tail (.tail .head)) Z Z ?_;clear M T;intro wc ac M T
   refine Zg2 T (Zq (Zra Z (T.e 0 Z))) Z (Zc Z) Z ?_;intro ac T
   replace T:=T.pick [0,1,13] rfl
   refine Zln ?_
   refine wp_ret ?_
   refine Zrt ?_
   refine Zrb ?_
   refine Zrt ?_
   refine Zrt ?_
   refine Zrb ?_
   refine Zrt ?_
   refine rt_ctt M T Z (T.e 2 Z) (T.e 1 Z) (T.e 0 Z) (Zne (i:=2) Z) Z ?_
   have hb9:=by first | exact bad_at H (by assumption) | exact bad_line H (by assumption) (by assumption)
   exact ReadB.zero (by rw [readV_short (by omega),← hlsu1,← hdl,hb9];rfl) M
  replace h6:=of_decide_eq_false h6
  refine Zg5 (v4:=(.agg #[sv (kW (q,gs)),sv (kM (q,gs)),kG (q,gs)])) T (Zw (Zwy Z Z (T.e 0 Z) (Zdf h6)) (Zrm Z (T.e 8 Z))) Z (fun _ T=>Zw (Zwy Z Z (T.e 1 Z) (Zdf h6)) (Zrm Z (T.e 10 Z))) Z (fun _ T=>Zw (Zwy Z Z (T.e 2 Z) (Zdf h6)) (Zri (size:=3) q Z (T.e 1 Z) (T.e 0 Z) ⟨_,underlying95,by kernel_rfl⟩ Z (by omega) Z)) Z (fun _ T=>Zw (Zwy Z Z (T.e 3 Z) (Zdf h6)) (rn_rowat (Sp.kvR Sk M (List.Sublist.cons_cons _ (Zz9 _)) (kv_at (by omega))) Z (T.e 0 Z) Z)) Z (fun _ T=>Zw (Zwy Z Z (T.e 4 Z) (Zdf h6)) (Zrm Z (T.e 15 Z))) Z ?_;intro ac T
  refine l_w (Zwy Z Z (T.e 5 Z) (Zdf h6)) ?_;intro K hK
  have Mq:Mem w noEx wc (((g1,.cells (bxM b (.slice A b.lows.length c) (.slice B b.highs.length d)))::(Ia++Ib))++((gk,.cells (kv (kvs gs)++[]))::(gs,.cells [.func (.func 111) #[] #[]])::Iu1)):=M.permS (fun f=>by simp only [bxM,boxL,sumF_app,sumF_cons,sumF_nil,Zx6,Zx5,Zx4,Zx0,Zxa] <;> omega)
  have My:Mem w noEx wc ((g1,.cells (bxM b (.slice A b.lows.length c) (.slice B b.highs.length d)))::(Ia++Ib)):=Mq.sub (Zsl _ _)
  refine Zod T Z Z Z Z evf (.cons (T.e 1 Z) (.cons (T.e 10 Z) (.cons (T.e 0 Z) .nil))) func49 Z Z ?_
  refine Calls.mono (readQ_any q (by omega) s g1 gs b A c B d Ia Ib (inL ((g1,.cells (bxM b (.slice A b.lows.length c) (.slice B b.highs.length d)))::(Ia++Ib))) _ (by omega) (by omega) (by omega) (fun wq Lq Mx=>hT.mem0 (Mem.joinX (X:=((g1,.cells (bxM b (.slice A b.lows.length c) (.slice B b.highs.length d)))::(Ia++Ib))) (F:=((gk,.cells (kv (kvs gs)++[]))::(gs,.cells [.func (.func 111) #[] #[]])::Iu1)) Mq Mx (fun b h=>h))) hsA hsB My.rebase (Old.of (cs:=[.func (.func 111) #[] #[]]) Mq (fun b h=>h) (by simp))) ?_
  clear T;rintro e wc ⟨rfl,Lqu5,N9,Acu5,ccu5,Bcu5,ddu5,Iaqu5,Ibqu5,rfl,hsau5,hsbu5⟩ ac T
  obtain ⟨bqu5,hbqu5⟩:∃ x,x=putQ q ((kvAt KL KA KB KF q).rd s) b:=⟨_,rfl⟩
  rw [← hbqu5] at N9 hsau5 hsbu5
  replace M:=Mem.joinX (X:=((g1,.cells (bxM b (.slice A b.lows.length c) (.slice B b.highs.length d)))::(Ia++Ib))) (X':=((g1,.cells (bxM bqu5 (.slice Acu5 bqu5.lows.length ccu5) (.slice Bcu5 bqu5.highs.length ddu5)))::(Iaqu5++Ibqu5))) (F:=((gk,.cells (kv (kvs gs)++[]))::(gs,.cells [.func (.func 111) #[] #[]])::Iu1)) Mq N9 (fun b h=>h)
  clear N9 Mq My
  replace M:Mem w noEx wc ((g1,.cells (bxM bqu5 (.slice Acu5 bqu5.lows.length ccu5) (.slice Bcu5 bqu5.highs.length ddu5)))::(gk,.cells (kv (kvs gs)++[]))::(gs,.cells [.func (.func 111) #[] #[]])::(Iaqu5++Ibqu5++Iu1)):=(Mem.permS (L':=((g1,.cells (bxM bqu5 (.slice Acu5 bqu5.lows.length ccu5) (.slice Bcu5 bqu5.highs.length ddu5)))::(gk,.cells (kv (kvs gs)++[]))::(gs,.cells [.func (.func 111) #[] #[]])::(Iaqu5++Ibqu5++Iu1))) M (fun f=>by simp only [bxM,boxL,sumF_app,sumF_cons,sumF_nil,Zx6,Zx5,Zx4,Zx0,Zxa] <;> omega))
  refine Zso hK _ _ ?_;clear hK K
  refine Zg2 T (Zw (Zwy Z Z (T.e 6 Z) (Zdf h6)) (rn_not Z (T.e 0 Z))) Z (fun _ T=>Zq (Zr0 Z (T.e 7 Z) (Zdf h6) (T.e 0 Z))) Z ?_;intro ac T
  replace T:=T.pick [0,1,2,3,4,5,6,7,13,14,15,16,17,18,20,21,22] rfl
  refine Zln ?_
  refine wp_cond_split (T.e 0 Z) ?_ ?_
  ·intro h7
   (have h7':=h7;try simp only [Zb1,Zb2,Zb3,Zb4,Zb5,Zb6,Zb7] at h7')
   refine Zsr ?_
   refine Zg3 (v1:=(.agg #[Zi 0,Zi 0,Zi 0,Zi 0,Zi 0,.slice none 0 0,.slice none 0 0,Zi 0,Zi 0,Zi 0,Zi 0,Zi 0,Zi 0,Zi 0,Zi 0,Zi 0,Zi 0,Zi 0,Zi 0,Zi 0,Zi 0])) T (Zq (rn_build Z .nil (fun _=>by kernel_rfl))) Z (Zm 14 Z Z) Z (fun _ T=>Zq (rn_add Z (T.e 0 Z) evc (by omega))) Z ?_;intro ac T
   refine Zl2 ?_
   refine Zot M T Z Z (T.e 11 Z) (T.e 2 Z) Z .head Z Z ?_;clear M T;intro wc ac M T
   refine Zg2 T (Zq (Zra Z (T.e 0 Z))) Z (Zc Z) Z ?_;intro ac T
   replace T:=T.pick [0,1,13] rfl
   refine Zln ?_
   refine wp_ret ?_
   refine Zrt ?_
   refine Zrb ?_
   refine Zrt ?_
   refine Zrt ?_
   refine Zrb ?_
   refine Zrt ?_
   refine rt_ctt M T Z (T.e 2 Z) (T.e 1 Z) (T.e 0 Z) (Zne (i:=0) Z) Z ?_
   have hb9:=by first | exact bad_at H (by assumption) | exact bad_line H (by assumption) (by assumption)
   exact ReadB.zero (by rw [readV_short (by omega),← hlsu1,← hdl,hb9];rfl) M
  intro h7
  (have h7':=h7;try simp only [Zb1,Zb2,Zb3,Zb4,Zb5,Zb6,Zb7] at h7')
  refine Zsk ?_
  refine cut_seq (fun ac wc=>Tm ac 96 [(2,Zj g1),(5,.slice Au1 lsu1.length cu1),(6,Zi (((lsu1.length:Nat):Int) - 1)),(7,.slice (some ⟨gk,0,none⟩) 4 4),(8,Zi (q:Int)),(24,.slice Aq1 lq1.length (cu1 - 0)),(25,Zi ((lq1.length:Nat):Int)),(26,Zi (i:Int)),(55,.slice (some ⟨gk,0,none⟩) 4 4),(56,Zi (q:Int)),(57,.pointer (some ⟨gk,0+q * 3,none⟩)),(58,.agg #[sv (kW (q,gs)),sv (kM (q,gs)),kG (q,gs)]),(59,sv s),(60,.bool (((kvAt KL KA KB KF q).rd s).isSome)),(61,.bool (!(((kvAt KL KA KB KF q).rd s).isSome))),(71,.bool ((decide ((q:Int)=0)) || (decide ((q:Int)=3))))]∧Mem w noEx wc ((g1,.cells (bxM bqu5 (.slice Acu5 bqu5.lows.length ccu5) (.slice Bcu5 bqu5.highs.length ddu5)))::(gk,.cells (kv (kvs gs)++[]))::(gs,.cells [.func (.func 111) #[] #[]])::(Iaqu5++Ibqu5++Iu1))) ?_ ?_
  ·refine wp_region_lit ?_
   refine Zg3 T (Zq (Zrm Z (T.e 12 Z))) Z (fun _ T=>Zq (rn_eql Z (T.e 0 Z) evc)) Z (Zm 0 Z Z) Z ?_;intro ac T
   rcases Zx9 (decide ((q:Int)=0)) with h8 | h8
   ·replace h8:=of_decide_eq_true h8
    refine Zg3 T (Zp (Zwn Z Z (T.e 0 Z) (Zdt h8))) Z (fun _ T=>Zp (Zwn Z Z (T.e 1 Z) (Zdt h8))) Z (fun _ T=>Zq (Zr1 Z (T.e 2 Z) (Zdt h8) evc)) Z ?_;intro ac T
    refine wpList_nil ?_
    replace T:=T.pick [0,1,2,7,8,9,10,11,12,13,14,15,16,17,18,20,21,22] rfl
    exact ⟨(T.pick (E':=[(2,Zj g1),(5,.slice Au1 lsu1.length cu1),(6,Zi (((lsu1.length:Nat):Int) - 1)),(7,.slice (some ⟨gk,0,none⟩) 4 4),(8,Zi (q:Int)),(24,.slice Aq1 lq1.length (cu1 - 0)),(25,Zi ((lq1.length:Nat):Int)),(26,Zi (i:Int)),(55,.slice (some ⟨gk,0,none⟩) 4 4),(56,Zi (q:Int)),(57,.pointer (some ⟨gk,0+q * 3,none⟩)),(58,.agg #[sv (kW (q,gs)),sv (kM (q,gs)),kG (q,gs)]),(59,sv s),(60,.bool (((kvAt KL KA KB KF q).rd s).isSome)),(61,.bool (!(((kvAt KL KA KB KF q).rd s).isSome))),(71,.bool true)]) [10,11,12,13,14,15,16,17,9,8,7,6,5,4,3,0] Z).as (by (try rw [show (decide ((q:Int)=0))=true from (Zdt h8)]);(try rfl)),M.mask [true,true,true] Z⟩
   replace h8:=of_decide_eq_false h8
   refine Zg3 T (Zw (Zwy Z Z (T.e 0 Z) (Zdf h8)) (Zrm Z (T.e 15 Z))) Z (fun _ T=>Zw (Zwy Z Z (T.e 1 Z) (Zdf h8)) (rn_eql Z (T.e 0 Z) evc)) Z (fun _ T=>Zq (Zr0 Z (T.e 2 Z) (Zdf h8) (T.e 0 Z))) Z ?_;intro ac T
   refine wpList_nil ?_
   replace T:=T.pick [0,1,2,7,8,9,10,11,12,13,14,15,16,17,18,20,21,22] rfl
   exact ⟨(T.pick (E':=[(2,Zj g1),(5,.slice Au1 lsu1.length cu1),(6,Zi (((lsu1.length:Nat):Int) - 1)),(7,.slice (some ⟨gk,0,none⟩) 4 4),(8,Zi (q:Int)),(24,.slice Aq1 lq1.length (cu1 - 0)),(25,Zi ((lq1.length:Nat):Int)),(26,Zi (i:Int)),(55,.slice (some ⟨gk,0,none⟩) 4 4),(56,Zi (q:Int)),(57,.pointer (some ⟨gk,0+q * 3,none⟩)),(58,.agg #[sv (kW (q,gs)),sv (kM (q,gs)),kG (q,gs)]),(59,sv s),(60,.bool (((kvAt KL KA KB KF q).rd s).isSome)),(61,.bool (!(((kvAt KL KA KB KF q).rd s).isSome))),(71,.bool (decide ((q:Int)=3)))]) [10,11,12,13,14,15,16,17,9,8,7,6,5,4,3,0] Z).as (by (try rw [show (decide ((q:Int)=0))=false from (Zdf h8)]);(try rfl)),M.mask [true,true,true] Z⟩
  clear T M
  rintro ac wc ⟨T,M⟩
  refine wp_cond_split (T.e 15 Z) ?_ ?_
  ·intro h9
   (have h9':=h9;try simp only [Zb1,Zb2,Zb3,Zb4,Zb5,Zb6,Zb7] at h9')
   refine wp_region_lit ?_
   refine Zg2 T (Zq (Zrm Z (T.e 4 Z))) Z (fun _ T=>Zq (rn_add Z (T.e 0 Z) evc (by omega))) Z ?_;intro ac T
   refine l_q (v:=(Zi ((q:Int)+1))) (T.pick [0,1,2,3,4,5,7,8,9,10,11,12,13,14,15,16,17] Z) Z Z Z Z (Zra Z (T.e 0 Z)) ?_;intro ac T
   refine wpList_nil ?_
   replace T:=T.pick [0,3,4,5,6,7,8,9,10,11,12,13,14,15,16] rfl
   refine Znb ?_
   refine nm_then ?_
   refine wp_region_lit ?_
   refine lq T (rn_add Z (T.e 7 Z) evc (by omega)) ?_;intro ac T
   refine l_q (v:=(Zi ((i:Int)+1))) (T.pick [0,1,2,3,4,5,6,7,9,10,11,12,13,14,15] Z) Z Z Z Z (Zrm Z (T.e 0 Z)) ?_;intro ac T
   replace T:=T.pick [0,2,3,4,5,6,7,8,9,10,11,12,13,14,15] rfl
   refine Zln ?_
   obtain ⟨xq,hxq,hH⟩:=good_line H (by assumption) (by assumption)
   have hjn:bqu5=foldV (l++[(q,xq)]) zeroB:=by rw [hbqu5,hxq,foldV_snoc,← hj];rfl
   have hjm:bqu5.lows.length+bqu5.highs.length≤b.lows.length+b.highs.length+1:=by rw [hbqu5,hxq];exact putV_len _ _ _
   exact ⟨_,by omega,i+1,q+1,bqu5,Acu5,ccu5,Bcu5,ddu5,Iaqu5,Ibqu5,(l++[(q,xq)]),Z,(by omega),(by omega),(by rw [if_pos (show q=0∨q=3 from (by have h9:=h9;simp only [Bool.or_eq_true,Bool.or_eq_false_iff,decide_eq_true_eq,decide_eq_false_iff_not] at h9;omega))] at hH;exact hH),hjn,hsau5,hsbu5,(by omega),T.pick [2,3,4,5,1,6,7,0] Z,(M.permS (fun f=>by simp only [bxM,boxL,sumF_app,sumF_cons,sumF_nil,Zx6,Zx5,Zx4,Zx0,Zxa] <;> omega))⟩
  intro h9
  (have h9':=h9;try simp only [Zb1,Zb2,Zb3,Zb4,Zb5,Zb6,Zb7] at h9')
  refine wp_skip ?_
  refine Znb ?_
  refine nm_then ?_
  refine wp_region_lit ?_
  refine lq T (rn_add Z (T.e 7 Z) evc (by omega)) ?_;intro ac T
  refine l_q (v:=(Zi ((i:Int)+1))) (T.pick [0,1,2,3,4,5,6,7,9,10,11,12,13,14,15,16] Z) Z Z Z Z (Zrm Z (T.e 0 Z)) ?_;intro ac T
  replace T:=T.pick [0,2,3,4,5,6,7,8,9,10,11,12,13,14,15] rfl
  refine Zln ?_
  obtain ⟨xq,hxq,hH⟩:=good_line H (by assumption) (by assumption)
  have hjn:bqu5=foldV (l++[(q,xq)]) zeroB:=by rw [hbqu5,hxq,foldV_snoc,← hj];rfl
  have hjm:bqu5.lows.length+bqu5.highs.length≤b.lows.length+b.highs.length+1:=by rw [hbqu5,hxq];exact putV_len _ _ _
  exact ⟨_,by omega,i+1,q,bqu5,Acu5,ccu5,Bcu5,ddu5,Iaqu5,Ibqu5,(l++[(q,xq)]),Z,(by omega),(by omega),(by rw [if_neg (show ¬ (q=0∨q=3) from (by have h9:=h9;simp only [Bool.or_eq_true,Bool.or_eq_false_iff,decide_eq_true_eq,decide_eq_false_iff_not] at h9;omega))] at hH;exact hH),hjn,hsau5,hsbu5,(by omega),T.pick [1,2,3,4,5,6,7,0] Z,(M.permS (fun f=>by simp only [bxM,boxL,sumF_app,sumF_cons,sumF_nil,Zx6,Zx5,Zx4,Zx0,Zxa] <;> omega))⟩
 intro h2
 obtain ⟨zl,hzl⟩:∃ q,lsu1[lsu1.length - 1]? = some q:=⟨_,List.getElem?_eq_getElem (by omega)⟩
 have hzm:zl.length≤text.length:=spl_mem_len (c:=10) (by rw [← hlsu1];exact List.mem_of_getElem? hzl)
 obtain ⟨bA,oA,SA0⟩:=Sl.spW hsA (sc_length _)
 have SA9:=SA0 w noEx
 obtain ⟨bB,oB,SB0⟩:=Sl.spW hsB (sc_length _)
 have SB9:=SB0 w noEx
 rw [List.drop_of_length_le (by omega)] at H
 replace H:progV KL KA KB KF 0 0 lq1=.ok (decide (4≤p)) l:=by rw [H];exact (app_ok l [] _).trans (by rw [Zx4])
 refine wp_exit ?_
 refine Zet ?_
 refine Zet ?_
 refine ex_hit ?_
 refine Zns ?_
 refine cut_seq (fun ac wc=>Tm ac 96 [(2,Zj g1),(6,Zi (((lsu1.length:Nat):Int) - 1)),(85,.bool ((decide ((p:Int) < 4)) || (!(decide (zl=([]))))))]∧Mem w noEx wc ((gk,.cells (kv (kvs gs)++[]))::(gs,.cells [.func (.func 111) #[] #[]])::(g1,.cells (bxM b (.slice A b.lows.length c) (.slice B b.highs.length d)))::(Ia++Ib++Iu1))) ?_ ?_
 ·refine wp_region_lit ?_
  refine Zg5 (v3:=(Zi 4)) T (Zq (Zrm Z (T.e 5 Z))) Z (Zm 5 Z Z) Z (Zl underlying95 0 Z Z) Z (fun _ T=>Zq (rn_lss Z (T.e 2 Z) (T.e 0 Z))) Z (Zm 0 Z Z) Z ?_;intro ac T
  rcases Zx9 (decide ((p:Int) < 4)) with h10 | h10
  ·replace h10:=of_decide_eq_true h10
   refine Zg6 T (Zp (Zwn Z Z (T.e 0 Z) (Zdt h10))) Z (fun _ T=>Zp (Zwn Z Z (T.e 1 Z) (Zdt h10))) Z (fun _ T=>Zp (Zwn Z Z (T.e 2 Z) (Zdt h10))) Z (fun _ T=>Zp (Zwn Z Z (T.e 3 Z) (Zdt h10))) Z (fun _ T=>Zp (Zwn Z Z (T.e 4 Z) (Zdt h10))) Z (fun _ T=>Zq (Zr1 Z (T.e 5 Z) (Zdt h10) evc)) Z ?_;intro ac T
   refine wpList_nil ?_
   replace T:=T.pick [0,12,14] rfl
   exact ⟨(T.pick (E':=[(2,Zj g1),(6,Zi (((lsu1.length:Nat):Int) - 1)),(85,.bool true)]) [1,2,0] Z).as (by (try rw [show (decide ((p:Int) < 4))=true from (Zdt h10)]);(try rfl)),M.mask [true,true,true] Z⟩
  replace h10:=of_decide_eq_false h10
  refine Zg6 T (Zw (Zwy Z Z (T.e 0 Z) (Zdf h10)) (Zrm Z (T.e 7 Z))) Z (fun _ T=>Zw (Zwy Z Z (T.e 1 Z) (Zdf h10)) (Zrm Z (T.e 9 Z))) Z (fun _ T=>Zw (Zwy Z Z (T.e 2 Z) (Zdf h10)) (Zri (size:=1) (lsu1.length - 1) Z (T.e 1 Z) (T.e 0 Z) ⟨_,underlying37,by kernel_rfl⟩ (by omega) (by omega) (Su1.at0 (by omega)))) Z (fun _ T=>Zw (Zwy Z Z (T.e 3 Z) (Zdf h10)) (rn_cell (Sp.stC0 Su1 M (.cons _ (.cons _ (.cons _ (Zsq _ _)))) hzl) Z (T.e 0 Z))) Z (fun _ T=>Zw (Zwy Z Z (T.e 4 Z) (Zdf h10)) (rn_sneq Z (T.e 0 Z) evc)) Z (fun _ T=>Zq (Zr0 Z (T.e 5 Z) (Zdf h10) (T.e 0 Z))) Z ?_;intro ac T
  refine wpList_nil ?_
  replace T:=T.pick [0,12,14] rfl
  exact ⟨(T.pick (E':=[(2,Zj g1),(6,Zi (((lsu1.length:Nat):Int) - 1)),(85,.bool (!(decide (zl=([])))))]) [1,2,0] Z).as (by (try rw [show (decide ((p:Int) < 4))=false from (Zdf h10)]);(try rfl)),M.mask [true,true,true] Z⟩
 clear T M
 rintro ac wc ⟨T,M⟩
 refine wp_cond_split (T.e 2 Z) ?_ ?_
 ·intro h11
  (have h11':=h11;try simp only [Zb1,Zb2,Zb3,Zb4,Zb5,Zb6,Zb7] at h11')
  refine Zsr ?_
  refine Zg3 (v1:=(.agg #[Zi 0,Zi 0,Zi 0,Zi 0,Zi 0,.slice none 0 0,.slice none 0 0,Zi 0,Zi 0,Zi 0,Zi 0,Zi 0,Zi 0,Zi 0,Zi 0,Zi 0,Zi 0,Zi 0,Zi 0,Zi 0,Zi 0])) T (Zq (rn_build Z .nil (fun _=>by kernel_rfl))) Z (Zm 2 Z Z) Z (fun _ T=>Zq (rn_add Z (T.e 0 Z) evc (by omega))) Z ?_;intro ac T
  refine Zl2 ?_
  refine Zot M T Z Z (T.e 3 Z) (T.e 2 Z) Z (.tail (.tail .head)) Z Z ?_;clear M T;intro wc ac M T
  refine Zg2 T (Zq (Zra Z (T.e 0 Z))) Z (Zc Z) Z ?_;intro ac T
  replace T:=T.pick [0,1,5] rfl
  refine Zln ?_
  refine wp_ret ?_
  refine Zrt ?_
  refine rt_ctt M T Z (T.e 2 Z) (T.e 1 Z) (T.e 0 Z) (Zne (i:=2) Z) Z ?_
  have hb9:=endV_bad (l:=l) hzl (or_bad (p:=p) (by assumption))
  exact ReadB.zero (by rw [readV_short (by omega),← hlsu1,← hdl,H,hb9,show (((lsu1.length:Nat):Int) - 1+1)=((lsu1.length:Nat):Int) by omega]) M
 intro h11
 (have h11':=h11;try simp only [Zb1,Zb2,Zb3,Zb4,Zb5,Zb6,Zb7] at h11')
 refine Zsk ?_
 refine wp_seq ?_
 refine Zsr ?_
 refine lq T (Zrr (Mem.nth M 2 Z) Z (T.e 0 Z) Z) ?_;intro ac T
 refine Zl2 ?_
 refine Zod T Z Z Z Z evf (.cons (T.e 0 Z) .nil) func39 Z Z ?_
 refine Calls.mono (vCheck_any b _ _ _ _ _ (SA9.rd M (.cons _ (.cons _ (.cons _ (subL (subL (List.Sublist.refl _))))))) (SB9.rd M (.cons _ (.cons _ (.cons _ (subL (Zsq _ _)))))) (by omega) (by omega)) ?_
 clear T;rintro e wc ⟨rfl,hb⟩ ac T
 replace M:=M.call hb;clear hb
 refine lq T (Zra Z (T.e 0 Z)) ?_;intro ac T
 replace T:=T.pick [0,3] rfl
 refine Zln ?_
 refine Zsr ?_
 refine Zg2 T (Zq (Zrm Z (T.e 0 Z))) Z (fun _ T=>Zq (rn_neq Z (T.e 0 Z) evc)) Z ?_;intro ac T
 replace T:=T.pick [0,2,3] rfl
 refine Zln ?_
 refine wp_ifn (T.e 0 Z) ?_ ?_
 ·intro h12
  refine Zsr ?_
  refine Zg2 (v1:=(.agg #[Zi 0,Zi 0,Zi 0,Zi 0,Zi 0,.slice none 0 0,.slice none 0 0,Zi 0,Zi 0,Zi 0,Zi 0,Zi 0,Zi 0,Zi 0,Zi 0,Zi 0,Zi 0,Zi 0,Zi 0,Zi 0,Zi 0])) T (Zq (rn_build Z .nil (fun _=>by kernel_rfl))) Z (Zm 2 Z Z) Z ?_;intro ac T
  refine Zl2 ?_
  refine Zot M T Z Z (T.e 4 Z) (T.e 1 Z) Z (.tail (.tail .head)) Z Z ?_;clear M T;intro wc ac M T
  refine Zg2 T (Zq (Zra Z evc)) Z (Za 1 Z Z) Z ?_;intro ac T
  replace T:=T.pick [0,1,6] rfl
  refine Zln ?_
  refine wp_ret ?_
  refine Zrt ?_
  refine rt_ctt M T Z (T.e 2 Z) (T.e 1 Z) (T.e 0 Z) (Zne (i:=2) Z) Z ?_
  have hb9:=endV_go (l:=l) hzl (or_go (p:=p) (by assumption))
  rw [← hj] at hb9
  have hr9:readV text=if checkB b≠0 then (zeroB,0,checkB b) else (b,0,0):=by rw [readV_short (by omega),← hlsu1,← hdl,H];exact hb9
  rw [if_pos (by assumption)] at hr9
  exact ReadB.zero hr9 M
 intro h12
 refine Zsk ?_
 refine Zsr ?_
 refine lq T (Zrr (Mem.nth M 2 Z) Z (T.e 2 Z) Z) ?_;intro ac T
 refine Zl2 ?_
 refine Zot M T Z Z (T.e 3 Z) (T.e 0 Z) Z (.tail (.tail .head)) Z Z ?_;clear M T;intro wc ac M T
 refine Zg2 T (Zq (Zra Z evc)) Z (Zc Z) Z ?_;intro ac T
 replace T:=T.pick [0,1,5] rfl
 refine Zln ?_
 refine wp_ret ?_
 refine rt_ctt M T Z (T.e 2 Z) (T.e 1 Z) (T.e 0 Z) (Zne (i:=2) Z) Z ?_
 have hb9:=endV_go (l:=l) hzl (or_go (p:=p) (by assumption))
 rw [← hj] at hb9
 have hr9:readV text=if checkB b≠0 then (zeroB,0,checkB b) else (b,0,0):=by rw [readV_short (by omega),← hlsu1,← hdl,H];exact hb9
 rw [if_neg (fun h=>h (by assumption))] at hr9
 rw [hr9]
 exact ⟨A,c,B,d,Ia,Ib,Z,hsA,hsB,(Mem.subS (L':=((Ia++Ib))) ((gk,.cells (kv (kvs gs)++[]))::(gs,.cells [.func (.func 111) #[] #[]])::(g1,.cells (bxM b (.slice A b.lows.length c) (.slice B b.highs.length d)))::Iu1) M (fun f=>by simp only [bxM,boxL,sumF_app,sumF_cons,sumF_nil,Zx6,Zx5,Zx4,Zx0,Zxa] <;> omega))⟩
def kdR (w:List UInt8):Int×List UInt8:=if w=lawW then (0,fmL) else if w=lowW then (1,fmA) else if w=highW then (2,fmA) else if w=fileV then (3,fmF) else (-1,[])
theorem rnumP_any (s:List UInt8) (w:World) (hs:s.length≤1000000):Calls prog 119 #[sv s] w (NumPost numP s w):=by
 refine (rnumber_any s w hs).mono fun e w' h=>?_
 obtain ⟨n,h1,h2,h3⟩:=h
 exact ⟨n,by rw [num_eq];exact h1,fun v hv=>h2 v (by rw [← num_eq];exact hv),h3⟩
theorem cutS_two {p:List UInt8} {k:Nat} (h:k+1 < p.length):cutS p k (k+2)=[46,46]↔p[k]? = some 46∧p[k+1]? = some 46:=by
 unfold cutS
 obtain ⟨a,ha⟩:∃ a,p[k]? = some a:=⟨_,List.getElem?_eq_getElem (by omega)⟩
 obtain ⟨b,hb⟩:∃ b,p[k+1]? = some b:=⟨_,List.getElem?_eq_getElem h⟩
 rw [show k+2 - k=2 by omega,drop_at ha,drop_at hb,ha,hb]
 simp
theorem cutS_le (l:List UInt8) (a b:Nat):(cutS l a b).length≤l.length:=by
 unfold cutS
 rw [List.length_take,List.length_drop]
 omega
theorem find_go {p:List UInt8} {k:Nat} (h:(decide (((k:Int)+1) < (p.length:Int)) && !(decide (cutS p k (k+2)=[46,46])))=true) (hno:∀ j,j < k→¬ (p[j]? = some 46∧p[j+1]? = some 46)):k+1 < p.length∧∀ j,j < k+1→¬ (p[j]? = some 46∧p[j+1]? = some 46):=by
 simp only [Bool.and_eq_true,decide_eq_true_eq,Bool.not_eq_true',decide_eq_false_iff_not] at h
 have hk:k+1 < p.length:=by omega
 refine ⟨hk,fun j hj=>?_⟩
 by_cases e:j=k
 ·subst e
  exact fun h2=>h.2 ((cutS_two hk).2 h2)
 ·exact hno j (by omega)
theorem find_none {p:List UInt8} {k:Nat} (hno:∀ j,j < k→¬ (p[j]? = some 46∧p[j+1]? = some 46)) (hk : ¬ k+1 < p.length):cut2 p=none:=by
 rw [cut2_drop hno]
 have:(p.drop k).length≤1:=by rw [List.length_drop];omega
 match p.drop k,this with
 | [],_=>rfl
 | [_],_=>rfl
theorem find_some {p:List UInt8} {k:Nat} (hno:∀ j,j < k→¬ (p[j]? = some 46∧p[j+1]? = some 46)) (hk:k+1 < p.length) (h:(decide (((k:Int)+1) < (p.length:Int)) && !(decide (cutS p k (k+2)=[46,46])))=false):cut2 p=some (cutS p 0 k,cutS p (k+2) p.length):=by
 rw [Zdt (show ((k:Int)+1) < (p.length:Int) by omega),Bool.true_and,Bool.not_eq_false',decide_eq_true_eq] at h
 have h2:=(cutS_two hk).1 h
 rw [cut2_drop hno]
 have e1:p.drop k=46::46::p.drop (k+2):=by rw [drop_at h2.1,drop_at h2.2]
 rw [e1]
 unfold cut2 cutS
 rw [if_pos ⟨rfl,rfl⟩]
 simp
 exact (List.take_of_length_le (by rw [List.length_drop];exact Nat.le_refl _)).symm
theorem wordQ_cut {p a z:List UInt8} {n m:Int} (hc:cut2 p=some (a,z)) (h1:∀ v,numP a=some v→n=v) (s1:(!(numP a).isSome)=false) (h2:∀ v,numP z=some v→m=v) (s2:(!(numP z).isSome)=false):wordQ true p=some [n,m]:=by
 unfold wordQ rangeQ
 rw [if_pos rfl,hc]
 dsimp only
 cases e1:numP a with
 | none=>rw [e1] at s1;cases s1
 | some x =>
  cases e2:numP z with
  | none=>rw [e2] at s2;cases s2
  | some y =>
   obtain rfl:=h1 x e1
   obtain rfl:=h2 y e2
   rfl
theorem wordQ_c1 {p a z:List UInt8} (hc:cut2 p=some (a,z)) (s1:(!(numP a).isSome)=true):wordQ true p=none:=by
 unfold wordQ rangeQ
 rw [if_pos rfl,hc]
 dsimp only
 cases e1:numP a with
 | none=>rfl
 | some x=>rw [e1] at s1;cases s1
theorem wordQ_c2 {p a z:List UInt8} (hc:cut2 p=some (a,z)) (s1:(!(numP z).isSome)=true):wordQ true p=none:=by
 unfold wordQ rangeQ
 rw [if_pos rfl,hc]
 dsimp only
 cases e1:numP a with
 | none=>rfl
 | some x =>
  cases e2:numP z with
  | none=>rfl
  | some y=>rw [e2] at s1;cases s1
theorem wordQ_c0 {p:List UInt8} (hc:cut2 p=none):wordQ true p=none:=by
 unfold wordQ rangeQ
 rw [if_pos rfl,hc]
def NumsPost (o:Option (List Int)) (w:World) (e:Ending) (w':World):Prop:=∃ (A:Option Addr) (c:Nat) (xs:List Int) (I:List (Nat×BA)),e=.returned (.tuple #[.slice A xs.length c,.bool o.isSome])∧(∀ ys,o=some ys→xs=ys)∧Sl 3 1 (.slice A xs.length c) xs.length (ic xs) I∧Mem w noEx w' I
theorem NumsPost.none {o:Option (List Int)} {w w':World} {L:List (Nat×BA)} (h:o=.none) (M:Mem w noEx w' L):NumsPost o w (.returned (.tuple #[.slice .none 0 0,.bool false])) w':=⟨.none,0,[],[],(by rw [h];rfl),(fun v hv=>by rw [h] at hv;cases hv),Sl.nil _ _,M.sub (Zz9 _)⟩
theorem fb_114 {f:UInt8} (h:((f.toNat:Nat):Int)=114):fb f=true:=fb_r (by omega)
theorem fb_no {f:UInt8} (h2:f=110∨f=114) (h : ¬ ((f.toNat:Nat):Int)=114):fb f=false:=by
 rcases h2 with rfl | rfl
 · rfl
 · exact absurd Z h
theorem rkind_any (s:List UInt8) (w:World)  :
   Calls prog 51 #[sv s] w fun e w'=>e=.returned (.tuple #[Zi ((kdR s).1),sv ((kdR s).2)])∧Below w.heap.size w w':=by
 refine Zpx noEx func51 Z 13 Z [sv s] Z Z (Mem.init w _) ?_
 intro ac wc T M
 refine Zsr ?_
 refine Zg2 T (Zq (Zra Z evc)) Z (Zc Z) Z ?_;intro ac T
 replace T:=T.pick [2] rfl
 refine Zln ?_
 refine wp_seq ?_
 refine Zsr ?_
 refine lq T (Zrm Z (T.e 0 Z)) ?_;intro ac T
 replace T:=T.pick [0] rfl
 refine Zln ?_
 refine wp_block ?_
 refine Zsr ?_
 refine Zg2 T (Zq (rn_seql Z (T.e 0 Z) evc)) Z (Za 0 Z Z) Z ?_;intro ac T
 replace T:=T.pick [0,2] rfl
 refine Zln ?_
 refine wp_if (T.e 0 Z) ?_ ?_
 ·intro h1
  refine Zsr ?_
  refine Zg2 T (Zq (Zra Z evc)) Z (Zc Z) Z ?_;intro ac T
  replace T:=T.pick [0,1] rfl
  refine Zln ?_
  refine wp_ret ?_
  refine Zrb ?_
  refine Zrt ?_
  refine rt_2 T Z (T.e 1 Z) (T.e 0 Z) ?_
  have e9:kdR s=(0,fmL):=by unfold kdR;simp_all [lawW,lowW,highW,fileV]
  rw [e9]
  exact ⟨rfl,M.below⟩
 intro h1
 refine Zsr ?_
 refine Zg2 T (Zq (rn_seql Z (T.e 1 Z) evc)) Z (Za 0 Z Z) Z ?_;intro ac T
 replace T:=T.pick [0,3] rfl
 refine Zln ?_
 refine wp_if (T.e 0 Z) ?_ ?_
 ·intro h2
  refine Zsr ?_
  refine Zg2 T (Zq (Zra Z evc)) Z (Zc Z) Z ?_;intro ac T
  replace T:=T.pick [0,1] rfl
  refine Zln ?_
  refine wp_ret ?_
  refine Zrb ?_
  refine Zrt ?_
  refine rt_2 T Z (T.e 1 Z) (T.e 0 Z) ?_
  have e9:kdR s=(1,fmA):=by unfold kdR;simp_all [lawW,lowW,highW,fileV]
  rw [e9]
  exact ⟨rfl,M.below⟩
 intro h2
 refine Zsr ?_
 refine Zg2 T (Zq (rn_seql Z (T.e 1 Z) evc)) Z (Za 0 Z Z) Z ?_;intro ac T
 replace T:=T.pick [0,3] rfl
 refine Zln ?_
 refine wp_if (T.e 0 Z) ?_ ?_
 ·intro h3
  refine Zsr ?_
  refine Zg2 T (Zq (Zra Z evc)) Z (Zc Z) Z ?_;intro ac T
  replace T:=T.pick [0,1] rfl
  refine Zln ?_
  refine wp_ret ?_
  refine Zrb ?_
  refine Zrt ?_
  refine rt_2 T Z (T.e 1 Z) (T.e 0 Z) ?_
  have e9:kdR s=(2,fmA):=by unfold kdR;simp_all [lawW,lowW,highW,fileV]
  rw [e9]
  exact ⟨rfl,M.below⟩
 intro h3
 refine Zsr ?_
 refine Zg2 T (Zq (rn_seql Z (T.e 1 Z) evc)) Z (Za 0 Z Z) Z ?_;intro ac T
 replace T:=T.pick [0] rfl
 refine Zln ?_
 refine wp_if (T.e 0 Z) ?_ ?_
 ·intro h4
  refine Zsr ?_
  refine Zg2 T (Zq (Zra Z evc)) Z (Zc Z) Z ?_;intro ac T
  replace T:=T.pick [0,1] rfl
  refine Zln ?_
  refine wp_ret ?_
  refine Zrb ?_
  refine Zrt ?_
  refine rt_2 T Z (T.e 1 Z) (T.e 0 Z) ?_
  have e9:kdR s=(3,fmF):=by unfold kdR;simp_all [lawW,lowW,highW,fileV]
  rw [e9]
  exact ⟨rfl,M.below⟩
 intro h4
 refine wp_skip ?_
 refine Znb ?_
 refine nm_then ?_
 refine Zsr ?_
 refine Zg2 T (Zq (Zra Z evc)) Z (Zc Z) Z ?_;intro ac T
 replace T:=T.pick [0,1] rfl
 refine Zln ?_
 refine wp_ret ?_
 refine rt_2 T Z (T.e 1 Z) (T.e 0 Z) ?_
 have e9:kdR s=(-1,[]):=by unfold kdR;simp_all [lawW,lowW,highW,fileV]
 rw [e9]
 exact ⟨rfl,M.below⟩
theorem at5_any (A:Option Addr) (c k:Nat) (xs:List Int) (a b:Int) (w:World) (hr:Rd w w.heap.size 1 A xs.length (ic xs)) (ha:xs[k]? = some a) (hb:xs[k+1]? = some b) (hk9:k≤1000) :
  Calls prog 120 #[.slice A xs.length c,Zi (k:Int)] w fun e w'=>e=.returned (.agg #[Zi a,Zi b])∧Below w.heap.size w w':=by
 obtain ⟨bI,oI,SI⟩:=Sp.old hr
 have hk1:=(List.getElem?_eq_some_iff.1 hb).1
 refine Zpx noEx func120 Z 15 Z [.slice A xs.length c,Zi (k:Int)] Z Z (Mem.init w _) ?_
 intro ac wc T M
 refine Zsr ?_
 refine Zl2 ?_
 refine Zoa M T Z Z Z Z ?_;clear M T;intro g1 wc ac M T
 refine Zln ?_
 refine wp_seq ?_
 refine Zgs M (M.perm [] Z Z) 11 (by kernel_rfl) Z (by kernel_rfl) ?_
 clear M;intro wc M
 refine g_addG 10 M ?_
 refine Zgq T 0 1 Z (fun _=>(Zrm Z (T.e 1 Z))) ?_;intro ac T
 refine Zgq T 1 3 Z (fun _=>(Zrm Z (T.e 3 Z))) ?_;intro ac T
 refine Zgq T 2 7 Z (fun _=>(Zri (size:=1) k Z (T.e 1 Z) (T.e 0 Z) ⟨_,underlying31,by kernel_rfl⟩ Z (by omega) (SI.at0 (by omega)))) ?_;intro ac T
 refine gq T 3 15 Z (fun B w' hD hl hS=>(rn_cell (Sp.ic0 SI (show Mem w noEx w' _ from ((MA.lft hS) (hD.wait (i:=3) (m:=10) (by kernel_rfl) hl))) (Zz9 _) ha) Z (T.e 0 Z))) ?_;intro ac T
 refine Zgq T 4 31 Z (fun _=>(Zrm Z (T.e 5 Z))) ?_;intro ac T
 refine Zgq T 5 63 Z (fun _=>(Zrm Z (T.e 7 Z))) ?_;intro ac T
 refine Zgq T 6 127 Z (fun _=>(rn_add Z (T.e 0 Z) evc (by omega))) ?_;intro ac T
 refine Zgq T 7 255 Z (fun _=>(Zri (size:=1) (k+1) Z (T.e 2 Z) (T.e 0 Z) ⟨_,underlying31,by kernel_rfl⟩ (by omega) (by omega) (SI.at0 (by omega)))) ?_;intro ac T
 refine gq T 8 511 Z (fun B w' hD hl hS=>(rn_cell (Sp.ic0 SI (show Mem w noEx w' _ from ((MA.lft hS) (hD.wait (i:=8) (m:=10) (by kernel_rfl) hl))) (Zz9 _) hb) Z (T.e 0 Z))) ?_;intro ac T
 refine Zgq (v:=(.agg #[Zi a,Zi b])) T 9 1023 Z (fun _=>(rn_build Z (.cons (T.e 5 Z) (.cons (T.e 0 Z) .nil)) (fun _=>by kernel_rfl))) ?_;intro ac T
 refine gw 10 2047 ?_;intro K hK
 refine Zot M T Z Z (T.e 10 Z) (T.e 0 Z) Z .head Z Z ?_;clear M T;intro wc ac M T
 refine Zso hK _ _ (MA.mk (fun h=>(no_of (by kernel_rfl) h).elim) (M.mask [false] Z)) ?_;clear hK K
 refine Zgd (by kernel_rfl) ?_
 replace T:=T.pick [10] rfl
 refine Znr ?_
 refine rt_c M T Z (T.e 0 Z) (Zne (i:=0) Z) Z ?_
 exact ⟨rfl,M.below⟩
theorem rvalues_any (A:Option Addr) (c:Nat) (ws:List (List UInt8)) (fm:List UInt8) (w:World) (hr:Rd w w.heap.size 1 A ws.length (st ws)) (hws:ws.length≤1000) (hp:∀ p∈ws,p.length≤800000) (hfm:∀ f∈fm,f=110∨f=114) :
   Calls prog 52 #[.slice A ws.length c,sv fm] w (NumsPost (valsQ (fm.map fb) ws) w):=by
 obtain ⟨bW,oW,SW⟩:=Sp.old hr
 refine Zpx noEx func52 Z 82 Z [.slice A ws.length c,sv fm] Z Z (Mem.init w _) ?_
 intro ac wc T M
 refine Zsr ?_
 refine Zg2 T (Zq (Zra Z evc)) Z (Zc Z) Z ?_;intro ac T
 replace T:=T.pick [2,3] rfl
 refine Zln ?_
 refine wp_seq ?_
 refine Zsr ?_
 refine Zg5 T (Zq (Zrm Z (T.e 0 Z))) Z (Zl underlying37 0 Z Z) Z (Zm 3 Z Z) Z (fun _ T=>Zq (rn_slen Z underlying9 (T.e 0 Z))) Z (fun _ T=>Zq (rn_neq Z (T.e 2 Z) (T.e 0 Z))) Z ?_;intro ac T
 replace T:=T.pick [0,5,6] rfl
 refine Zln ?_
 refine wp_ifn (T.e 0 Z) ?_ ?_
 ·intro h1
  refine Zsr ?_
  refine Zg2 T (Zq (Zra Z evc)) Z (Zc Z) Z ?_;intro ac T
  replace T:=T.pick [0,1] rfl
  refine Zln ?_
  refine wp_ret ?_
  refine Zrt ?_
  refine rt_2 T Z (T.e 1 Z) (T.e 0 Z) ?_
  exact NumsPost.none (valsQ_short (by rw [List.length_map];omega)) M
 intro h1
 refine Zsk ?_
 refine Zsr ?_
 refine lq T (Zra Z evc) ?_;intro ac T
 replace T:=T.pick [0,2,3] rfl
 refine Zln ?_
 refine wp_seq ?_
 refine Zsr ?_
 refine lq T (Zra Z evc) ?_;intro ac T
 refine Zln ?_
 refine wp_block ?_
 refine wp_loop_n (fun mz ac wc=>∃ (i:Nat) (xs:List Int) (At:Option Addr) (ct:Nat) (It:List (Nat×BA)),mz=ws.length - i∧(i≤ws.length)∧((valsQ (fm.map fb) ws)=andQ (some xs) (valsQ ((fm.map fb).drop i) (ws.drop i)))∧(Sl 3 1 (.slice At xs.length ct) xs.length (ic xs) It)∧(xs.length≤2 * i)∧Tm ac 82 [(0,.slice A ws.length c),(1,sv fm),(6,.slice At xs.length ct),(7,Zi (i:Int))]∧Mem w noEx wc (It)) ?_ ?_
 ·exact ⟨_,0,[],none,0,[],Z,(Nat.zero_le _),(andQ_zero _).symm,(Sl.nil _ _),(Nat.zero_le _),T.pick [2,3,1,0] Z,(by (try simp only [Zx4]);exact M)⟩
 clear T M
 rintro mz ac wc ⟨i,xs,At,ct,It,hmm1,hi,H,hsl,hxl,T,M⟩
 refine wp_seq ?_
 refine Zsr ?_
 refine Zg4 T (Zq (Zrm Z (T.e 3 Z))) Z (Zm 1 Z Z) Z (Zl underlying37 0 Z Z) Z (fun _ T=>Zq (rn_lss Z (T.e 2 Z) (T.e 0 Z))) Z ?_;intro ac T
 replace T:=T.pick [0,4,5,6,7] rfl
 refine Zln ?_
 refine wp_if (T.e 0 Z) ?_ ?_
 ·intro h2
  obtain ⟨p,hkp⟩:∃ q,ws[i]? = some q:=⟨_,List.getElem?_eq_getElem (by omega)⟩
  have hpl:=hp p (List.mem_of_getElem? hkp)
  obtain ⟨f,hfi⟩:∃ q,fm[i]? = some q:=⟨_,List.getElem?_eq_getElem (by omega)⟩
  have hff:=hfm f (List.mem_of_getElem? hfi)
  rw [valsQ_step hfi hkp] at H
  refine Zsk ?_
  refine wp_seq ?_
  refine wp_block ?_
  refine Zsr ?_
  refine Zg5 T (Zq (Zrm Z (T.e 1 Z))) Z (Zm 5 Z Z) Z (fun _ T=>Zq (Zri (size:=1) i Z (T.e 1 Z) (T.e 0 Z) ⟨_,underlying37,by kernel_rfl⟩ Z (by omega) (SW.at0 (by omega)))) Z (fun _ T=>Zq (rn_cell (Sp.stC0 SW M (Zz9 _) hkp) Z (T.e 0 Z))) Z (Za 0 Z Z) Z ?_;intro ac T
  replace T:=T.pick [0,6,7,8,9] rfl
  refine Zln ?_
  refine wp_seq ?_
  refine Zsr ?_
  refine Zg4 T (Zq (Zrm Z (T.e 2 Z))) Z (Zm 5 Z Z) Z (fun _ T=>Zq (rn_sidx i Z underlying9 (T.e 1 Z) (T.e 0 Z) Z hfi)) Z (fun _ T=>Zq (rn_eql Z (T.e 0 Z) evc)) Z ?_;intro ac T
  replace T:=T.pick [0,4,5,6,7,8] rfl
  refine Zln ?_
  refine wp_if (T.e 0 Z) ?_ ?_
  ·intro h3
   refine Zsr ?_
   refine lq T (Zra Z evc) ?_;intro ac T
   replace T:=T.pick [0,2,3,4,5,6] rfl
   refine Zln ?_
   refine wp_seq ?_
   refine wp_block ?_
   refine wp_loop_n (fun mz ac wc=>∃ (k:Nat),mz=p.length - k∧(k≤p.length)∧(∀ j,j < k→¬ (p[j]? = some 46∧p[j+1]? = some 46))∧Tm ac 82 [(0,.slice A ws.length c),(1,sv fm),(6,.slice At xs.length ct),(7,Zi (i:Int)),(8,sv p),(9,Zi (k:Int))]∧Mem w noEx wc (It)) ?_ ?_
   ·exact ⟨_,0,Z,(Nat.zero_le _),(fun j hj=>absurd hj (Nat.not_lt_zero j)),T.pick [2,3,4,5,1,0] Z,M.mask [] Z⟩
   clear T M
   rintro mz ac wc ⟨k,hmm2,hk,hno,T,M⟩
   refine wp_seq ?_
   refine cut_seq (fun ac wc=>Tm ac 82 [(0,.slice A ws.length c),(1,sv fm),(6,.slice At xs.length ct),(7,Zi (i:Int)),(8,sv p),(9,Zi (k:Int)),(45,.bool ((decide (((k:Int)+1) < ((p.length:Nat):Int))) && (!(decide ((cutS p k (k+2))=([46,46]))))))]∧Mem w noEx wc (It)) ?_ ?_
   ·refine wp_region_lit ?_
    refine Zg6 T (Zq (Zrm Z (T.e 5 Z))) Z (fun _ T=>Zq (rn_add Z (T.e 0 Z) evc (by omega))) Z (Zm 6 Z Z) Z (fun _ T=>Zq (rn_slen Z underlying9 (T.e 0 Z))) Z (fun _ T=>Zq (rn_lss Z (T.e 2 Z) (T.e 0 Z))) Z (Zm 0 Z Z) Z ?_;intro ac T
    rcases Zx9 (decide (((k:Int)+1) < ((p.length:Nat):Int))) with h4 | h4
    ·replace h4:=of_decide_eq_true h4
     refine Zg7 T (Zw (Zwy Z Z (T.e 0 Z) (Zdt h4)) (Zrm Z (T.e 10 Z))) Z (fun _ T=>Zw (Zwy Z Z (T.e 1 Z) (Zdt h4)) (Zrm Z (T.e 12 Z))) Z (fun _ T=>Zw (Zwy Z Z (T.e 2 Z) (Zdt h4)) (Zrm Z (T.e 13 Z))) Z (fun _ T=>Zw (Zwy Z Z (T.e 3 Z) (Zdt h4)) (rn_add Z (T.e 0 Z) evc (by omega))) Z (fun _ T=>Zw (Zwy Z Z (T.e 4 Z) (Zdt h4)) (rn_sslice (p:=k) (q:=(k+2)) Z underlying9 (T.e 3 Z) (T.e 2 Z) ((T.e 0 Z).trans (congrArg (Value.int .i64) (by omega))) (by omega) (by omega))) Z (fun _ T=>Zw (Zwy Z Z (T.e 5 Z) (Zdt h4)) (rn_sneq Z (T.e 0 Z) evc)) Z (fun _ T=>Zq (Zr1 Z (T.e 6 Z) (Zdt h4) (T.e 0 Z))) Z ?_;intro ac T
     refine wpList_nil ?_
     replace T:=T.pick [0,1,2,3,4,5,6,13,14,15,16,17,18] rfl
     exact ⟨(T.pick (E':=[(0,.slice A ws.length c),(1,sv fm),(6,.slice At xs.length ct),(7,Zi (i:Int)),(8,sv p),(9,Zi (k:Int)),(45,.bool (!(decide ((cutS p k (k+2))=([46,46])))))]) [7,8,9,10,11,12,0] Z).as (by (try rw [show (decide (((k:Int)+1) < ((p.length:Nat):Int)))=true from (Zdt h4)]);(try rfl)),M.mask [] Z⟩
    replace h4:=of_decide_eq_false h4
    refine Zg7 T (Zp (Zwn Z Z (T.e 0 Z) (Zdf h4))) Z (fun _ T=>Zp (Zwn Z Z (T.e 1 Z) (Zdf h4))) Z (fun _ T=>Zp (Zwn Z Z (T.e 2 Z) (Zdf h4))) Z (fun _ T=>Zp (Zwn Z Z (T.e 3 Z) (Zdf h4))) Z (fun _ T=>Zp (Zwn Z Z (T.e 4 Z) (Zdf h4))) Z (fun _ T=>Zp (Zwn Z Z (T.e 5 Z) (Zdf h4))) Z (fun _ T=>Zq (Zr0 Z (T.e 6 Z) (Zdf h4) evc)) Z ?_;intro ac T
    refine wpList_nil ?_
    replace T:=T.pick [0,1,2,3,4,5,6,13,14,15,16,17,18] rfl
    exact ⟨(T.pick (E':=[(0,.slice A ws.length c),(1,sv fm),(6,.slice At xs.length ct),(7,Zi (i:Int)),(8,sv p),(9,Zi (k:Int)),(45,.bool false)]) [7,8,9,10,11,12,0] Z).as (by (try rw [show (decide (((k:Int)+1) < ((p.length:Nat):Int)))=false from (Zdf h4)]);(try rfl)),M.mask [] Z⟩
   clear T M
   rintro ac wc ⟨T,M⟩
   refine wp_cond_split (T.e 6 Z) ?_ ?_
   ·intro h5
    (have h5':=h5;try simp only [Zb1,Zb2,Zb3,Zb4,Zb5,Zb6,Zb7] at h5')
    refine Zsk ?_
    refine wp_block ?_
    refine wp_region_lit ?_
    refine Zg2 T (Zq (Zrm Z (T.e 5 Z))) Z (fun _ T=>Zq (rn_add Z (T.e 0 Z) evc (by omega))) Z ?_;intro ac T
    refine l_q (v:=(Zi ((k:Int)+1))) (T.pick [0,1,2,3,4,5,6,8] Z) Z Z Z Z (Zra Z (T.e 0 Z)) ?_;intro ac T
    refine wpList_nil ?_
    replace T:=T.pick [0,3,4,5,6,7] rfl
    refine Znb ?_
    refine nm_then ?_
    obtain ⟨hg1,hg2⟩:=find_go h5 hno
    exact ⟨_,by omega,k+1,Z,(by omega),hg2,T.pick [1,2,3,4,5,0] Z,M.mask [] Z⟩
   intro h5
   (have h5':=h5;try simp only [Zb1,Zb2,Zb3,Zb4,Zb5,Zb6,Zb7] at h5')
   refine wp_exit ?_
   refine Zet ?_
   refine Zet ?_
   refine ex_hit ?_
   refine Zns ?_
   refine Zsr ?_
   refine Zg5 T (Zq (Zrm Z (T.e 5 Z))) Z (fun _ T=>Zq (rn_add Z (T.e 0 Z) evc (by omega))) Z (Zm 6 Z Z) Z (fun _ T=>Zq (rn_slen Z underlying9 (T.e 0 Z))) Z (fun _ T=>Zq (rn_geq Z (T.e 2 Z) (T.e 0 Z))) Z ?_;intro ac T
   replace T:=T.pick [0,5,6,7,8,9,10] rfl
   refine Zln ?_
   refine wp_if (T.e 0 Z) ?_ ?_
   ·intro h6
    refine Zsr ?_
    refine Zg2 T (Zq (Zra Z evc)) Z (Zc Z) Z ?_;intro ac T
    replace T:=T.pick [0,1] rfl
    refine Zln ?_
    refine wp_ret ?_
    refine Zrt ?_
    refine Zrt ?_
    refine Zrb ?_
    refine Zrt ?_
    refine Zrt ?_
    refine Zrb ?_
    refine Zrt ?_
    refine rt_2 T Z (T.e 1 Z) (T.e 0 Z) ?_
    have hwp:=wordQ_c0 (find_none hno (by omega))
    rw [fb_114 (by first | assumption | omega),hwp] at H
    exact NumsPost.none (H.trans Z) M
   intro h6
   have hcut:=find_some hno (by omega) h5
   refine Zsk ?_
   refine Zsr ?_
   refine Zg3 T (Zq (Zrm Z (T.e 5 Z))) Z (Zm 7 Z Z) Z (fun _ T=>Zq (rn_sslice (p:=0) (q:=k) Z underlying9 (T.e 1 Z) Z (T.e 0 Z) (by omega) (by omega))) Z ?_;intro ac T
   refine Zl2 ?_
   refine Zod T Z Z Z Z evf (.cons (T.e 0 Z) .nil) func119 Z Z ?_
   refine Calls.mono (rnumP_any (cutS p 0 k) _ (by first | omega | exact Nat.le_trans (cutS_le _ _ _) (by omega))) ?_
   clear T;rintro e wc ⟨nu1,rfl,hvu1,hb⟩ ac T
   replace M:=M.call hb;clear hb
   refine Zg5 T (Zq (Zrm Z (T.e 0 Z))) Z (Ze 0 Z Z Z) Z (Ze 1 Z Z Z) Z (Za 1 Z Z) Z (Za 1 Z Z) Z ?_;intro ac T
   replace T:=T.pick [0,1,10,11,12,13,14,15] rfl
   refine Zln ?_
   refine wp_seq ?_
   refine Zsr ?_
   refine Zg2 T (Zq (Zrm Z (T.e 0 Z))) Z (fun _ T=>Zq (rn_not Z (T.e 0 Z))) Z ?_;intro ac T
   replace T:=T.pick [0,3,4,5,6,7,8,9] rfl
   refine Zln ?_
   refine wp_cond_split (T.e 0 Z) ?_ ?_
   ·intro h7
    (have h7':=h7;try simp only [Zb1,Zb2,Zb3,Zb4,Zb5,Zb6,Zb7] at h7')
    refine Zsr ?_
    refine Zg2 T (Zq (Zra Z evc)) Z (Zc Z) Z ?_;intro ac T
    replace T:=T.pick [0,1] rfl
    refine Zln ?_
    refine wp_ret ?_
    refine Zrt ?_
    refine Zrt ?_
    refine Zrb ?_
    refine Zrt ?_
    refine Zrt ?_
    refine Zrb ?_
    refine Zrt ?_
    refine rt_2 T Z (T.e 1 Z) (T.e 0 Z) ?_
    have hwp:=wordQ_c1 hcut (by assumption)
    rw [fb_114 (by first | assumption | omega),hwp] at H
    exact NumsPost.none (H.trans Z) M
   intro h7
   (have h7':=h7;try simp only [Zb1,Zb2,Zb3,Zb4,Zb5,Zb6,Zb7] at h7')
   refine Zsk ?_
   refine Zgs M (M.perm [] Z Z) 10 (by kernel_rfl) Z (by kernel_rfl) ?_
   clear M;intro wc M
   refine Zgq T 0 1 Z (fun _=>(Zrm Z (T.e 4 Z))) ?_;intro ac T
   refine Zgq T 1 3 Z (fun _=>(Zrm Z (T.e 2 Z))) ?_;intro ac T
   refine Zgq T 4 19 Z (fun _=>(Zrm Z (T.e 8 Z))) ?_;intro ac T
   refine Zgq T 5 51 Z (fun _=>(Zrm Z (T.e 10 Z))) ?_;intro ac T
   refine Zgq T 6 115 Z (fun _=>(rn_add Z (T.e 0 Z) evc (by omega))) ?_;intro ac T
   refine Zgq T 7 243 Z (fun _=>(rn_sslice (p:=(k+2)) (q:=p.length) Z underlying9 (T.e 2 Z) ((T.e 0 Z).trans (congrArg (Value.int .i64) (by omega))) Z (by omega) (by omega))) ?_;intro ac T
   refine gw 2 247 ?_;intro K hK
   refine ow_bs (e:=3) [Zi nu1] M T Z Z Z Z (.cons (T.e 4 Z) .nil) (fun _=>by kernel_rfl) ?_;clear M T;intro g1 wc ac M T
   refine Zso hK _ _ (M.perm [] Z Z) ?_;clear hK K
   refine gw 3 255 ?_;intro K hK
   refine ow_app ([(g1,.cells [Zi nu1])]) Tryz.info3 hsl M (by first | rfl | simp) T Z Z Z Z underlying31 Z Z Z (by omega) (T.e 6 Z) (T.e 0 Z) (Zne (i:=0) Z) Z Z ?_;clear M T;intro ga1 cga1 wc ac M T
   refine Zso hK _ _ (M.mask [false,false] Z) ?_;clear hK K
   refine g_q (v:=(.slice (some ⟨ga1,0,none⟩) (xs.length+1) cga1)) (T:=T.pick [0,1,2,3,4,5,6,7,8,9,10,11,13,14,15] Z) (i:=8) Z (by kernel_rfl) (by kernel_rfl:(Zpb 10 255).setIfInBounds 8 true=Zpb 10 511) si_U (fun _ _ _ h=>h) Z Z Z Z (fun _ _ _ _ _=>(Zra Z (T.e 0 Z))) ?_;intro ac T
   refine g_q (v:=(sv (cutS p (k+2) p.length))) (T:=T.pick [0,1,2,3,4,5,6,7,8,9,10,11,12,13,15] Z) (i:=9) Z (by kernel_rfl) (by kernel_rfl:(Zpb 10 511).setIfInBounds 9 true=Zpb 10 1023) si_U (fun _ _ _ h=>h) Z Z Z Z (fun _ _ _ _ _=>(Zra Z (T.e 3 Z))) ?_;intro ac T
   refine Zgd (by kernel_rfl) ?_
   replace T:=T.pick [0,1,12,13,14] rfl
   replace M:=M.mask [true,false] rfl
   refine nm_then ?_
   refine Zsr ?_
   refine lq T (Zrm Z (T.e 0 Z)) ?_;intro ac T
   refine Zl2 ?_
   refine Zod T Z Z Z Z evf (.cons (T.e 0 Z) .nil) func119 Z Z ?_
   refine Calls.mono (rnumP_any (cutS p (k+2) p.length) _ (by first | omega | exact Nat.le_trans (cutS_le _ _ _) (by omega))) ?_
   clear T;rintro e wc ⟨nu2,rfl,hvu2,hb⟩ ac T
   replace M:=M.call hb;clear hb
   have e9:xs.length+1=(xs++[nu1]).length:=by simp
   have e8:((ic xs)++[Zi nu1])=ic (xs++[nu1]):=by first | rw [ic_snoc] | rw [← ic_snoc]
   rw [e9,e8] at M
   rw [e9] at T
   have hln9:=e9.symm
   clear e9 e8
   have hsly:Sl 3 1 (.slice (some ⟨ga1,0,none⟩) (xs++[nu1]).length cga1) (xs++[nu1]).length (ic (xs++[nu1])) [(ga1,.row 3 1 (xs++[nu1]).length (ic (xs++[nu1])) cga1)]:=Sl.row _ _ _ _ _ _
   replace M:Mem w noEx wc ([(ga1,.row 3 1 (xs++[nu1]).length (ic (xs++[nu1])) cga1)]):=M.permS (fun f=>by simp only [bxM,boxL,sumF_app,sumF_cons,sumF_nil,Zx6,Zx5,Zx4,Zx0,Zxa] <;> omega)
   obtain ⟨Iy,hIy⟩:∃ q:List (Nat×BA),q=[(ga1,.row 3 1 (xs++[nu1]).length (ic (xs++[nu1])) cga1)]:=⟨_,rfl⟩
   rw [← hIy] at M hsly
   refine Zg5 T (Zq (Zrm Z (T.e 0 Z))) Z (Ze 0 Z Z Z) Z (Ze 1 Z Z Z) Z (Za 1 Z Z) Z (Za 1 Z Z) Z ?_;intro ac T
   replace T:=T.pick [0,1,8,9,10,11] rfl
   refine Zln ?_
   refine wp_seq ?_
   refine Zsr ?_
   refine Zg2 T (Zq (Zrm Z (T.e 0 Z))) Z (fun _ T=>Zq (rn_not Z (T.e 0 Z))) Z ?_;intro ac T
   replace T:=T.pick [0,3,4,5,6,7] rfl
   refine Zln ?_
   refine wp_cond_split (T.e 0 Z) ?_ ?_
   ·intro h8
    (have h8':=h8;try simp only [Zb1,Zb2,Zb3,Zb4,Zb5,Zb6,Zb7] at h8')
    refine Zsr ?_
    refine Zg2 T (Zq (Zra Z evc)) Z (Zc Z) Z ?_;intro ac T
    replace T:=T.pick [0,1] rfl
    refine Zln ?_
    refine wp_ret ?_
    refine Zrt ?_
    refine Zrb ?_
    refine Zrt ?_
    refine Zrt ?_
    refine Zrb ?_
    refine Zrt ?_
    refine rt_2 T Z (T.e 1 Z) (T.e 0 Z) ?_
    have hwp:=wordQ_c2 hcut (by assumption)
    rw [fb_114 (by first | assumption | omega),hwp] at H
    exact NumsPost.none (H.trans Z) M
   intro h8
   (have h8':=h8;try simp only [Zb1,Zb2,Zb3,Zb4,Zb5,Zb6,Zb7] at h8')
   refine Zsk ?_
   refine wp_region_lit ?_
   refine Zg2 T (Zq (Zrm Z (T.e 2 Z))) Z (Zm 2 Z Z) Z ?_;intro ac T
   refine Zl2 ?_
   refine ow_bs (e:=3) [Zi nu2] M T Z Z Z Z (.cons (T.e 0 Z) .nil) (fun _=>by kernel_rfl) ?_;clear M T;intro g2 wc ac M T
   refine Zl2 ?_
   refine ow_app ([(g2,.cells [Zi nu2])]) Tryz.info3 hsly M (by first | rfl | simp) T Z Z Z Z underlying31 Z Z Z (by omega) (T.e 2 Z) (T.e 0 Z) (Zne (i:=0) Z) Z Z ?_;clear M T;intro ga2 cga2 wc ac M T
   refine l_q (v:=(.slice (some ⟨ga2,0,none⟩) ((xs++[nu1]).length+1) cga2)) (T.pick [0,1,2,3,4,5,7,8,9] Z) Z Z Z Z (Zra Z (T.e 0 Z)) ?_;intro ac T
   refine wpList_nil ?_
   replace T:=T.pick [0,7,8,9] rfl
   replace M:=M.mask [true,false] rfl
   refine Znb ?_
   refine nm_then ?_
   refine wp_region_lit ?_
   refine Zg2 T (Zq (Zrm Z (T.e 3 Z))) Z (fun _ T=>Zq (rn_add Z (T.e 0 Z) evc (by omega))) Z ?_;intro ac T
   refine l_q (v:=(Zi ((i:Int)+1))) (T.pick [0,1,2,3,4] Z) Z Z Z Z (Zra Z (T.e 0 Z)) ?_;intro ac T
   replace T:=T.pick [0,3,4,5] rfl
   refine Zln ?_
   have e9:(xs++[nu1]).length+1=((xs++[nu1])++[nu2]).length:=by simp
   have e8:((ic (xs++[nu1]))++[Zi nu2])=ic ((xs++[nu1])++[nu2]):=by first | rw [ic_snoc] | rw [← ic_snoc]
   rw [e9,e8] at M
   rw [e9] at T
   clear e9 e8
   have hwp:=wordQ_cut hcut hvu1 (by assumption) hvu2 (by assumption)
   rw [fb_114 (by first | assumption | omega),hwp,andQ_put] at H
   have e7:xs++[nu1,nu2]=((xs++[nu1])++[nu2]):=by simp
   rw [e7] at H
   exact ⟨_,by omega,i+1,((xs++[nu1])++[nu2]),(some ⟨ga2,0,none⟩),cga2,[(ga2,.row 3 1 ((xs++[nu1])++[nu2]).length (ic ((xs++[nu1])++[nu2])) cga2)],Z,(by omega),H,(Sl.row _ _ _ _ _ _),(by simp only [Zx3,Zx1,Zx2];omega),T.pick [2,3,1,0] Z,(Mem.subS ([]) M (fun f=>by simp only [bxM,boxL,sumF_app,sumF_cons,sumF_nil,Zx6,Zx5,Zx4,Zx0,Zxa] <;> omega))⟩
  intro h3
  refine Zsk ?_
  refine Zsr ?_
  refine lq T (Zrm Z (T.e 1 Z)) ?_;intro ac T
  refine Zl2 ?_
  refine Zod T Z Z Z Z evf (.cons (T.e 0 Z) .nil) func119 Z Z ?_
  refine Calls.mono (rnumP_any p _ (by first | omega | exact Nat.le_trans (cutS_le _ _ _) (by omega))) ?_
  clear T;rintro e wc ⟨nu3,rfl,hvu3,hb⟩ ac T
  replace M:=M.call hb;clear hb
  refine Zg5 T (Zq (Zrm Z (T.e 0 Z))) Z (Ze 0 Z Z Z) Z (Ze 1 Z Z Z) Z (Za 1 Z Z) Z (Za 1 Z Z) Z ?_;intro ac T
  replace T:=T.pick [0,1,9,10,11,12] rfl
  refine Zln ?_
  refine wp_seq ?_
  refine Zsr ?_
  refine Zg2 T (Zq (Zrm Z (T.e 0 Z))) Z (fun _ T=>Zq (rn_not Z (T.e 0 Z))) Z ?_;intro ac T
  replace T:=T.pick [0,3,4,5,6,7] rfl
  refine Zln ?_
  refine wp_cond_split (T.e 0 Z) ?_ ?_
  ·intro h9
   (have h9':=h9;try simp only [Zb1,Zb2,Zb3,Zb4,Zb5,Zb6,Zb7] at h9')
   refine Zsr ?_
   refine Zg2 T (Zq (Zra Z evc)) Z (Zc Z) Z ?_;intro ac T
   replace T:=T.pick [0,1] rfl
   refine Zln ?_
   refine wp_ret ?_
   refine Zrt ?_
   refine Zrb ?_
   refine Zrt ?_
   refine Zrt ?_
   refine Zrb ?_
   refine Zrt ?_
   refine rt_2 T Z (T.e 1 Z) (T.e 0 Z) ?_
   have hwp:=wordQ_nonum (p:=p) (by assumption)
   rw [fb_no hff (by first | assumption | omega),hwp] at H
   exact NumsPost.none (H.trans Z) M
  intro h9
  (have h9':=h9;try simp only [Zb1,Zb2,Zb3,Zb4,Zb5,Zb6,Zb7] at h9')
  refine Zsk ?_
  refine wp_region_lit ?_
  refine Zg2 T (Zq (Zrm Z (T.e 4 Z))) Z (Zm 2 Z Z) Z ?_;intro ac T
  refine Zl2 ?_
  refine ow_bs (e:=3) [Zi nu3] M T Z Z Z Z (.cons (T.e 0 Z) .nil) (fun _=>by kernel_rfl) ?_;clear M T;intro g3 wc ac M T
  refine Zl2 ?_
  refine ow_app ([(g3,.cells [Zi nu3])]) Tryz.info3 hsl M (by first | rfl | simp) T Z Z Z Z underlying31 Z Z Z (by omega) (T.e 2 Z) (T.e 0 Z) (Zne (i:=0) Z) Z Z ?_;clear M T;intro ga3 cga3 wc ac M T
  refine l_q (v:=(.slice (some ⟨ga3,0,none⟩) (xs.length+1) cga3)) (T.pick [0,1,2,3,4,5,6,7,9] Z) Z Z Z Z (Zra Z (T.e 0 Z)) ?_;intro ac T
  refine wpList_nil ?_
  replace T:=T.pick [0,7,8,9] rfl
  replace M:=M.mask [true,false] rfl
  refine Znb ?_
  refine nm_then ?_
  refine wp_region_lit ?_
  refine Zg2 T (Zq (Zrm Z (T.e 3 Z))) Z (fun _ T=>Zq (rn_add Z (T.e 0 Z) evc (by omega))) Z ?_;intro ac T
  refine l_q (v:=(Zi ((i:Int)+1))) (T.pick [0,1,2,3,4] Z) Z Z Z Z (Zra Z (T.e 0 Z)) ?_;intro ac T
  replace T:=T.pick [0,3,4,5] rfl
  refine Zln ?_
  have e9:xs.length+1=(xs++[nu3]).length:=by simp
  have e8:((ic xs)++[Zi nu3])=ic (xs++[nu3]):=by first | rw [ic_snoc] | rw [← ic_snoc]
  rw [e9,e8] at M
  rw [e9] at T
  clear e9 e8
  have hwp:=wordQ_num (p:=p) hvu3 (by assumption)
  rw [fb_no hff (by first | assumption | omega),hwp,andQ_put] at H
  exact ⟨_,by omega,i+1,(xs++[nu3]),(some ⟨ga3,0,none⟩),cga3,[(ga3,.row 3 1 (xs++[nu3]).length (ic (xs++[nu3])) cga3)],Z,(by omega),H,(Sl.row _ _ _ _ _ _),(by simp only [Zx3,Zx1,Zx2];omega),T.pick [2,3,1,0] Z,(Mem.subS ([]) M (fun f=>by simp only [bxM,boxL,sumF_app,sumF_cons,sumF_nil,Zx6,Zx5,Zx4,Zx0,Zxa] <;> omega))⟩
 intro h2
 refine wp_exit ?_
 refine Zet ?_
 refine Zet ?_
 refine ex_hit ?_
 refine nm_then ?_
 refine Zsr ?_
 refine Zg3 T (Zq (Zrm Z (T.e 3 Z))) Z (Za 0 Z Z) Z (Zc Z) Z ?_;intro ac T
 replace T:=T.pick [0,1] rfl
 refine Zln ?_
 refine wp_ret ?_
 refine rt_2 T Z (T.e 1 Z) (T.e 0 Z) ?_
 rw [List.drop_of_length_le (l:=fm.map fb) (by rw [List.length_map];omega),List.drop_of_length_le (l:=ws) (by omega)] at H
 replace H:(valsQ (fm.map fb) ws)=some xs:=H.trans (by show some (xs++[])=some xs;rw [Zx4])
 exact ⟨At,ct,xs,It,(by rw [H];rfl),(fun ys hy=>by rw [H] at hy;injection hy),hsl,(Mem.subS (L':=(It)) ([]) M (fun f=>by simp only [bxM,boxL,sumF_app,sumF_cons,sumF_nil,Zx6,Zx5,Zx4,Zx0,Zxa] <;> omega))⟩
set_option maxHeartbeats 4000000 in
theorem rtake0_any (kk:Int) (bb:Nat) (b:Bx) (A:Option Addr) (c:Nat) (B:Option Addr) (d:Nat) (Ia Ib:List (Nat×BA)) (exq:Nat→Prop) (Y:Option Addr) (cy bX oX:Nat) (n0 n1 n2 n3 n4:Int) (w:World) (hk9:kk=0) (hsA:Sl 77 4 (.slice A b.lows.length c) b.lows.length (sc b.lows) Ia) (hsB:Sl 77 4 (.slice B b.highs.length d) b.highs.length (sc b.highs) Ib) (SX:Sp w exq [] Y 5 1 bX oX (ic [n0,n1,n2,n3,n4])) (M0:Mem w exq w ((bb,.cells (bxM b (.slice A b.lows.length c) (.slice B b.highs.length d)))::(Ia++Ib))) :
   Calls prog 53 #[Zj bb,Zi kk,.slice Y 5 cy] w fun e w'=>e=.returned (.tuple #[])∧∃ L,Mem w exq w' L∧KeptB bb (putV 0 [n0,n1,n2,n3,n4] b) L:=by
 refine Zpx exq func53 Z 124 Z [Zj bb,Zi kk,.slice Y 5 cy] Z Z M0 ?_
 intro ac wc T M
 refine Zsr ?_
 refine lq T (Zrm Z (T.e 1 Z)) ?_;intro ac T
 replace T:=T.pick [0,1,3] rfl
 refine Zln ?_
 refine wp_block ?_
 refine Zsr ?_
 refine Zg2 T (Zq (rn_eql Z (T.e 0 Z) evc)) Z (Za 0 Z Z) Z ?_;intro ac T
 replace T:=T.pick [0,2,3,4] rfl
 refine Zln ?_
 refine wp_if (T.e 0 Z) ?_ ?_
 ·intro h1
  refine Zgs M (M.mask [false] Z) 39 (by kernel_rfl) Z (by kernel_rfl) ?_
  clear M;intro wc M
  refine g_addG 23 M ?_
  refine Zgq T 0 1 Z (fun _=>(Zrm Z (T.e 2 Z))) ?_;intro ac T
  refine Zgq T 1 3 Z (fun _=>(Zrm Z (T.e 3 Z))) ?_;intro ac T
  refine Zgq T 2 7 Z (fun _=>(Zrm Z (T.e 4 Z))) ?_;intro ac T
  refine Zgq T 3 15 Z (fun _=>(Zrm Z (T.e 5 Z))) ?_;intro ac T
  refine Zgq T 4 31 Z (fun _=>(Zrm Z (T.e 6 Z))) ?_;intro ac T
  refine Zgq T 5 63 Z (fun _=>(Zrm Z (T.e 8 Z))) ?_;intro ac T
  refine Zgq T 6 127 Z (fun _=>(Zri (size:=1) 0 Z (T.e 0 Z) evc ⟨_,underlying31,by kernel_rfl⟩ Z (by omega) (SX.at0 (by omega)))) ?_;intro ac T
  refine gq T 7 255 Z (fun B w' hD hl hS=>(rn_cell (Sp.ic0 SX (show Mem w exq w' _ from ((MA.lft hS) (hD.wait (i:=7) (m:=23) (by kernel_rfl) hl))) (Zz9 _) Z) Z (T.e 0 Z))) ?_;intro ac T
  refine Zgq T 8 511 Z (fun _=>(Zrm Z (T.e 11 Z))) ?_;intro ac T
  refine Zgq T 9 1023 Z (fun _=>(Zri (size:=1) 1 Z (T.e 0 Z) evc ⟨_,underlying31,by kernel_rfl⟩ Z (by omega) (SX.at0 (by omega)))) ?_;intro ac T
  refine gq T 10 2047 Z (fun B w' hD hl hS=>(rn_cell (Sp.ic0 SX (show Mem w exq w' _ from ((MA.lft hS) (hD.wait (i:=10) (m:=23) (by kernel_rfl) hl))) (Zz9 _) Z) Z (T.e 0 Z))) ?_;intro ac T
  refine Zgq T 11 4095 Z (fun _=>(Zrm Z (T.e 14 Z))) ?_;intro ac T
  refine Zgq T 12 8191 Z (fun _=>(Zri (size:=1) 2 Z (T.e 0 Z) evc ⟨_,underlying31,by kernel_rfl⟩ Z (by omega) (SX.at0 (by omega)))) ?_;intro ac T
  refine gq T 13 16383 Z (fun B w' hD hl hS=>(rn_cell (Sp.ic0 SX (show Mem w exq w' _ from ((MA.lft hS) (hD.wait (i:=13) (m:=23) (by kernel_rfl) hl))) (Zz9 _) Z) Z (T.e 0 Z))) ?_;intro ac T
  refine Zgq T 14 32767 Z (fun _=>(Zrm Z (T.e 17 Z))) ?_;intro ac T
  refine Zgq T 15 65535 Z (fun _=>(Zri (size:=1) 3 Z (T.e 0 Z) evc ⟨_,underlying31,by kernel_rfl⟩ Z (by omega) (SX.at0 (by omega)))) ?_;intro ac T
  refine gq T 16 131071 Z (fun B w' hD hl hS=>(rn_cell (Sp.ic0 SX (show Mem w exq w' _ from ((MA.lft hS) (hD.wait (i:=16) (m:=23) (by kernel_rfl) hl))) (Zz9 _) Z) Z (T.e 0 Z))) ?_;intro ac T
  refine Zgq T 17 262143 Z (fun _=>(Zrm Z (T.e 20 Z))) ?_;intro ac T
  refine Zgq T 18 524287 Z (fun _=>(Zri (size:=1) 4 Z (T.e 0 Z) evc ⟨_,underlying31,by kernel_rfl⟩ Z (by omega) (SX.at0 (by omega)))) ?_;intro ac T
  refine gq T 19 1048575 Z (fun B w' hD hl hS=>(rn_cell (Sp.ic0 SX (show Mem w exq w' _ from ((MA.lft hS) (hD.wait (i:=19) (m:=23) (by kernel_rfl) hl))) (Zz9 _) Z) Z (T.e 0 Z))) ?_;intro ac T
  refine Zgq T 20 2097151 Z (fun _=>(rn_nil Z (T.e 19 Z))) ?_;intro ac T
  refine Zgq (v:=(Zj bb)) T 21 4194303 Z (fun _=>(Zrg 0 Z (T.e 0 Z))) ?_;intro ac T
  refine Zgq (v:=(Zj bb)) T 22 8388607 Z (fun _=>(Zrg 0 Z (T.e 0 Z))) ?_;intro ac T
  refine gw 23 16777215 ?_;intro K hK
  refine Zot M T Z Z (T.e 0 Z) (T.e 15 Z) Z .head Z Z ?_;clear M T;intro wc ac M T
  refine Zso hK _ _ (MA.mk (fun h=>(no_of (by kernel_rfl) h).elim) (M.mask [false] Z)) ?_;clear hK K
  refine Zgq T 24 33554431 Z (fun _=>(rn_nil Z (T.e 21 Z))) ?_;intro ac T
  refine Zgq (v:=(Zj bb)) T 25 67108863 Z (fun _=>(Zrg 0 Z (T.e 0 Z))) ?_;intro ac T
  refine Zgq (v:=(.pointer (some ⟨bb,1,none⟩))) T 26 134217727 Z (fun _=>(Zrg 1 Z (T.e 0 Z))) ?_;intro ac T
  refine gw 27 268435455 ?_;intro K hK
  refine Zot M T Z Z (T.e 0 Z) (T.e 15 Z) Z .head Z Z ?_;clear M T;intro wc ac M T
  refine Zso hK _ _ (MA.mk (fun h=>(no_of (by kernel_rfl) h).elim) (M.mask [false] Z)) ?_;clear hK K
  refine Zgq T 28 536870911 Z (fun _=>(rn_nil Z (T.e 23 Z))) ?_;intro ac T
  refine Zgq (v:=(Zj bb)) T 29 1073741823 Z (fun _=>(Zrg 0 Z (T.e 0 Z))) ?_;intro ac T
  refine Zgq (v:=(.pointer (some ⟨bb,2,none⟩))) T 30 2147483647 Z (fun _=>(Zrg 2 Z (T.e 0 Z))) ?_;intro ac T
  refine gw 31 4294967295 ?_;intro K hK
  refine Zot M T Z Z (T.e 0 Z) (T.e 15 Z) Z .head Z Z ?_;clear M T;intro wc ac M T
  refine Zso hK _ _ (MA.mk (fun h=>(no_of (by kernel_rfl) h).elim) (M.mask [false] Z)) ?_;clear hK K
  refine Zgq T 32 8589934591 Z (fun _=>(rn_nil Z (T.e 25 Z))) ?_;intro ac T
  refine Zgq (v:=(Zj bb)) T 33 17179869183 Z (fun _=>(Zrg 0 Z (T.e 0 Z))) ?_;intro ac T
  refine Zgq (v:=(.pointer (some ⟨bb,3,none⟩))) T 34 34359738367 Z (fun _=>(Zrg 3 Z (T.e 0 Z))) ?_;intro ac T
  refine gw 35 68719476735 ?_;intro K hK
  refine Zot M T Z Z (T.e 0 Z) (T.e 15 Z) Z .head Z Z ?_;clear M T;intro wc ac M T
  refine Zso hK _ _ (MA.mk (fun h=>(no_of (by kernel_rfl) h).elim) (M.mask [false] Z)) ?_;clear hK K
  refine Zgq T 36 137438953471 Z (fun _=>(rn_nil Z (T.e 27 Z))) ?_;intro ac T
  refine Zgq (v:=(.pointer (some ⟨bb,4,none⟩))) T 37 274877906943 Z (fun _=>(Zrg 4 Z (T.e 0 Z))) ?_;intro ac T
  refine gw 38 549755813887 ?_;intro K hK
  refine Zot M T Z Z (T.e 0 Z) (T.e 14 Z) Z .head Z Z ?_;clear M T;intro wc ac M T
  refine Zso hK _ _ (MA.mk (fun h=>(no_of (by kernel_rfl) h).elim) (M.mask [false] Z)) ?_;clear hK K
  refine Zgd (by kernel_rfl) ?_
  replace T:=T.pick [] rfl
  refine Znb ?_
  refine nm_0 T Z ?_
  exact ⟨rfl,_,(Mem.subS (L':=((bb,.cells [Zi n0,Zi n1,Zi n2,Zi n3,Zi n4,.slice A b.lows.length c,.slice B b.highs.length d,Zi b.t0,Zi b.t1,Zi b.r0,Zi b.r1,Zi b.u0,Zi b.u1,Zi b.d0,Zi b.d1,Zi b.a0,Zi b.a1,Zi b.b0,Zi b.b1,Zi b.le,Zi b.me])::(Ia++Ib))) ([]) M (fun f=>by simp only [bxM,boxL,sumF_app,sumF_cons,sumF_nil,Zx6,Zx5,Zx4,Zx0,Zxa] <;> omega)),A,c,B,d,Ia,Ib,Z,hsA,hsB⟩
 intro h1
 exfalso
 omega
set_option maxHeartbeats 4000000 in
theorem rtake1_any (kk:Int) (bb:Nat) (b:Bx) (A:Option Addr) (c:Nat) (B:Option Addr) (d:Nat) (Ia Ib:List (Nat×BA)) (exq:Nat→Prop) (Y:Option Addr) (cy bX oX:Nat) (s0 s1 s2 s3:Int) (w:World) (hk9:kk=1) (hsA:Sl 77 4 (.slice A b.lows.length c) b.lows.length (sc b.lows) Ia) (hsB:Sl 77 4 (.slice B b.highs.length d) b.highs.length (sc b.highs) Ib) (SX:Sp w exq [] Y 4 1 bX oX (ic [s0,s1,s2,s3])) (M0:Mem w exq w ((bb,.cells (bxM b (.slice A b.lows.length c) (.slice B b.highs.length d)))::(Ib++Ia))) (hl:b.lows.length≤800000) :
   Calls prog 53 #[Zj bb,Zi kk,.slice Y 4 cy] w fun e w'=>e=.returned (.tuple #[])∧∃ L,Mem w exq w' L∧KeptB bb (putV 1 [s0,s1,s2,s3] b) L:=by
 refine Zpx exq func53 Z 124 Z [Zj bb,Zi kk,.slice Y 4 cy] Z Z M0 ?_
 intro ac wc T M
 refine Zsr ?_
 refine lq T (Zrm Z (T.e 1 Z)) ?_;intro ac T
 replace T:=T.pick [0,1,3] rfl
 refine Zln ?_
 refine wp_block ?_
 refine Zsr ?_
 refine Zg2 T (Zq (rn_eql Z (T.e 0 Z) evc)) Z (Za 0 Z Z) Z ?_;intro ac T
 replace T:=T.pick [0,2,3,4] rfl
 refine Zln ?_
 refine wp_if (T.e 0 Z) ?_ ?_
 ·intro h1
  exfalso
  omega
 intro h1
 refine Zsr ?_
 refine Zg2 T (Zq (rn_eql Z (T.e 1 Z) evc)) Z (Za 0 Z Z) Z ?_;intro ac T
 replace T:=T.pick [0,3,4,5] rfl
 refine Zln ?_
 refine wp_if (T.e 0 Z) ?_ ?_
 ·intro h2
  refine Zgs M (M.perm [] Z Z) 15 (by kernel_rfl) Z (by kernel_rfl) ?_
  clear M;intro wc M
  refine g_addG 14 ((M.mask [true] Z).sub (List.Sublist.cons_cons _ (Zsl _ _))) ?_
  refine Zgq T 0 1 Z (fun _=>(Zrm Z (T.e 2 Z))) ?_;intro ac T
  refine Zgq T 1 3 Z (fun _=>(Zrm Z (T.e 3 Z))) ?_;intro ac T
  refine Zgq T 2 7 Z (fun _=>(rn_nil Z (T.e 0 Z))) ?_;intro ac T
  refine Zgq (v:=(.pointer (some ⟨bb,5,none⟩))) T 3 15 Z (fun _=>(Zrg 5 Z (T.e 0 Z))) ?_;intro ac T
  refine gq T 4 31 Z (fun B w' hD hl hS=>(Zro (Mem.nth (show Mem w exq w' _ from ((MA.lft hS) (hD.wait (i:=4) (m:=14) (by kernel_rfl) hl))) 0 Z) Z (T.e 0 Z) Z)) ?_;intro ac T
  refine Zgq T 5 63 Z (fun _=>(Zrm Z (T.e 8 Z))) ?_;intro ac T
  refine Zgq T 7 191 Z (fun _=>(Zrm Z (T.e 9 Z))) ?_;intro ac T
  refine gw 6 255 ?_;intro K hK
  refine Zod T Z Z Z Z evf (.cons (T.e 1 Z) (.cons evc .nil)) func120 Z Z ?_
  refine Calls.mono (at5_any Y cy 0 [s0,s1,s2,s3] s0 s1 _ (SX.rd M (Zz9 _)) Z Z (by omega)) ?_
  clear T;rintro e wc ⟨rfl,hb⟩ ac T
  replace M:=M.call hb;clear hb
  refine Zso hK _ _ (MA.mk (fun _=>(M.mask [true] Z).sub (List.Sublist.cons_cons _ (Zsl _ _))) (M.perm [] Z Z)) ?_;clear hK K
  refine gw 8 511 ?_;intro K hK
  refine Zod T Z Z Z Z evf (.cons (T.e 1 Z) (.cons evc .nil)) func120 Z Z ?_
  refine Calls.mono (at5_any Y cy 2 [s0,s1,s2,s3] s2 s3 _ (SX.rd M (Zz9 _)) Z Z (by omega)) ?_
  clear T;rintro e wc ⟨rfl,hb⟩ ac T
  replace M:=M.call hb;clear hb
  refine Zso hK _ _ (MA.mk (fun _=>(M.mask [true] Z).sub (List.Sublist.cons_cons _ (Zsl _ _))) (M.perm [] Z Z)) ?_;clear hK K
  refine Zgq (v:=(.agg #[Zi s0,Zi s1,Zi s2,Zi s3])) T 9 1023 Z (fun _=>(rn_build Z (.cons (T.e 1 Z) (.cons (T.e 0 Z) .nil)) (fun _=>by kernel_rfl))) ?_;intro ac T
  refine gw 10 2047 ?_;intro K hK
  refine ow_bs (e:=77) [Zi s0,Zi s1,Zi s2,Zi s3] M T Z Z Z Z (.cons (T.e 0 Z) .nil) (fun _=>by kernel_rfl) ?_;clear M T;intro g1 wc ac M T
  refine Zso hK _ _ (MA.mk (fun _=>(M.mask [false,true] Z).sub (List.Sublist.cons_cons _ (Zsl _ _))) (M.perm [] Z Z)) ?_;clear hK K
  refine gw 11 4095 ?_;intro K hK
  refine ow_app (((g1,.cells [Zi s0,Zi s1,Zi s2,Zi s3])::(bb,.cells (bxM b (.slice A b.lows.length c) (.slice B b.highs.length d)))::Ib)) Tryz.info77 hsA M (by first | rfl | simp) T Z Z Z Z underlying24 Z Z Z (by omega) (T.e 6 Z) (T.e 0 Z) (Zne (i:=0) Z) Z Z ?_;clear M T;intro ga1 cga1 wc ac M T
  refine Zso hK _ _ (MA.mk (fun _=>M.mask [false,false,true] Z) (M.perm [] Z Z)) ?_;clear hK K
  refine Zgq T 12 8191 Z (fun _=>(rn_nil Z (T.e 11 Z))) ?_;intro ac T
  refine Zgq (v:=(.pointer (some ⟨bb,5,none⟩))) T 13 16383 Z (fun _=>(Zrg 5 Z (T.e 0 Z))) ?_;intro ac T
  refine gw 14 32767 ?_;intro K hK
  refine Zot M T Z Z (T.e 0 Z) (T.e 2 Z) Z (.tail (.tail .head)) Z Z ?_;clear M T;intro wc ac M T
  refine Zso hK _ _ (MA.mk (fun h=>(no_of (by kernel_rfl) h).elim) (M.perm [] Z Z)) ?_;clear hK K
  refine Zgd (by kernel_rfl) ?_
  replace T:=T.pick [] rfl
  replace M:=M.mask [true,false,true] rfl
  refine Znb ?_
  refine nm_0 T Z ?_
  have e9:b.lows.length+1=(b.lows++[(⟨s0,s1,s2,s3⟩:Snd)]).length:=by simp
  have e8:((sc b.lows)++[Zi s0,Zi s1,Zi s2,Zi s3])=sc (b.lows++[(⟨s0,s1,s2,s3⟩:Snd)]):=by simp [sc,sndC]
  rw [e9,e8] at M
  have M9:=(Mem.subS (L':=((bb,.cells (Zbm b (.slice (some ⟨ga1,0,none⟩) ((b.lows++[(⟨s0,s1,s2,s3⟩:Snd)]).length) cga1) (.slice B b.highs.length d)))::(ga1,.row 77 4 (b.lows++[(⟨s0,s1,s2,s3⟩:Snd)]).length (sc (b.lows++[(⟨s0,s1,s2,s3⟩:Snd)])) cga1)::Ib)) ([]) M (fun f=>by simp only [Zbm,bxM,boxL,sumF_app,sumF_cons,sumF_nil,Zx6,Zx5,Zx4,Zx0,Zxa] <;> omega))
  exact ⟨rfl,(bb,.cells (Zbm b (.slice (some ⟨ga1,0,none⟩) ((b.lows++[(⟨s0,s1,s2,s3⟩:Snd)]).length) cga1) (.slice B b.highs.length d)))::([(ga1,.row 77 4 (b.lows++[(⟨s0,s1,s2,s3⟩:Snd)]).length (sc (b.lows++[(⟨s0,s1,s2,s3⟩:Snd)])) cga1)]++Ib),M9.permS (fun f=>by simp only [Zbm,bxM,boxL,sumF_app,sumF_cons,sumF_nil,Zx6,Zx5,Zx4,Zx0,Zxa] <;> omega),(some ⟨ga1,0,none⟩),cga1,B,d,[(ga1,.row 77 4 (b.lows++[(⟨s0,s1,s2,s3⟩:Snd)]).length (sc (b.lows++[(⟨s0,s1,s2,s3⟩:Snd)])) cga1)],Ib,Z,(Sl.row _ _ _ _ _ _),hsB⟩
 intro h2
 exfalso
 omega
set_option maxHeartbeats 4000000 in
theorem rtake2_any (kk:Int) (bb:Nat) (b:Bx) (A:Option Addr) (c:Nat) (B:Option Addr) (d:Nat) (Ia Ib:List (Nat×BA)) (exq:Nat→Prop) (Y:Option Addr) (cy bX oX:Nat) (s0 s1 s2 s3:Int) (w:World) (hk9:kk=2) (hsA:Sl 77 4 (.slice A b.lows.length c) b.lows.length (sc b.lows) Ia) (hsB:Sl 77 4 (.slice B b.highs.length d) b.highs.length (sc b.highs) Ib) (SX:Sp w exq [] Y 4 1 bX oX (ic [s0,s1,s2,s3])) (M0:Mem w exq w ((bb,.cells (bxM b (.slice A b.lows.length c) (.slice B b.highs.length d)))::(Ia++Ib))) (hl:b.highs.length≤800000) :
   Calls prog 53 #[Zj bb,Zi kk,.slice Y 4 cy] w fun e w'=>e=.returned (.tuple #[])∧∃ L,Mem w exq w' L∧KeptB bb (putV 2 [s0,s1,s2,s3] b) L:=by
 refine Zpx exq func53 Z 124 Z [Zj bb,Zi kk,.slice Y 4 cy] Z Z M0 ?_
 intro ac wc T M
 refine Zsr ?_
 refine lq T (Zrm Z (T.e 1 Z)) ?_;intro ac T
 replace T:=T.pick [0,1,3] rfl
 refine Zln ?_
 refine wp_block ?_
 refine Zsr ?_
 refine Zg2 T (Zq (rn_eql Z (T.e 0 Z) evc)) Z (Za 0 Z Z) Z ?_;intro ac T
 replace T:=T.pick [0,2,3,4] rfl
 refine Zln ?_
 refine wp_if (T.e 0 Z) ?_ ?_
 ·intro h1
  exfalso
  omega
 intro h1
 refine Zsr ?_
 refine Zg2 T (Zq (rn_eql Z (T.e 1 Z) evc)) Z (Za 0 Z Z) Z ?_;intro ac T
 replace T:=T.pick [0,3,4,5] rfl
 refine Zln ?_
 refine wp_if (T.e 0 Z) ?_ ?_
 ·intro h2
  exfalso
  omega
 intro h2
 refine Zsr ?_
 refine Zg2 T (Zq (rn_eql Z (T.e 1 Z) evc)) Z (Za 0 Z Z) Z ?_;intro ac T
 replace T:=T.pick [0,3,4,5] rfl
 refine Zln ?_
 refine wp_if (T.e 0 Z) ?_ ?_
 ·intro h3
  refine Zgs M (M.perm [] Z Z) 15 (by kernel_rfl) Z (by kernel_rfl) ?_
  clear M;intro wc M
  refine g_addG 14 ((M.mask [true] Z).sub (List.Sublist.cons_cons _ (Zsl _ _))) ?_
  refine Zgq T 0 1 Z (fun _=>(Zrm Z (T.e 2 Z))) ?_;intro ac T
  refine Zgq T 1 3 Z (fun _=>(Zrm Z (T.e 3 Z))) ?_;intro ac T
  refine Zgq T 2 7 Z (fun _=>(rn_nil Z (T.e 0 Z))) ?_;intro ac T
  refine Zgq (v:=(.pointer (some ⟨bb,6,none⟩))) T 3 15 Z (fun _=>(Zrg 6 Z (T.e 0 Z))) ?_;intro ac T
  refine gq T 4 31 Z (fun B w' hD hl hS=>(Zro (Mem.nth (show Mem w exq w' _ from ((MA.lft hS) (hD.wait (i:=4) (m:=14) (by kernel_rfl) hl))) 0 Z) Z (T.e 0 Z) Z)) ?_;intro ac T
  refine Zgq T 5 63 Z (fun _=>(Zrm Z (T.e 8 Z))) ?_;intro ac T
  refine Zgq T 7 191 Z (fun _=>(Zrm Z (T.e 9 Z))) ?_;intro ac T
  refine gw 6 255 ?_;intro K hK
  refine Zod T Z Z Z Z evf (.cons (T.e 1 Z) (.cons evc .nil)) func120 Z Z ?_
  refine Calls.mono (at5_any Y cy 0 [s0,s1,s2,s3] s0 s1 _ (SX.rd M (Zz9 _)) Z Z (by omega)) ?_
  clear T;rintro e wc ⟨rfl,hb⟩ ac T
  replace M:=M.call hb;clear hb
  refine Zso hK _ _ (MA.mk (fun _=>(M.mask [true] Z).sub (List.Sublist.cons_cons _ (Zsl _ _))) (M.perm [] Z Z)) ?_;clear hK K
  refine gw 8 511 ?_;intro K hK
  refine Zod T Z Z Z Z evf (.cons (T.e 1 Z) (.cons evc .nil)) func120 Z Z ?_
  refine Calls.mono (at5_any Y cy 2 [s0,s1,s2,s3] s2 s3 _ (SX.rd M (Zz9 _)) Z Z (by omega)) ?_
  clear T;rintro e wc ⟨rfl,hb⟩ ac T
  replace M:=M.call hb;clear hb
  refine Zso hK _ _ (MA.mk (fun _=>(M.mask [true] Z).sub (List.Sublist.cons_cons _ (Zsl _ _))) (M.perm [] Z Z)) ?_;clear hK K
  refine Zgq (v:=(.agg #[Zi s0,Zi s1,Zi s2,Zi s3])) T 9 1023 Z (fun _=>(rn_build Z (.cons (T.e 1 Z) (.cons (T.e 0 Z) .nil)) (fun _=>by kernel_rfl))) ?_;intro ac T
  refine gw 10 2047 ?_;intro K hK
  refine ow_bs (e:=77) [Zi s0,Zi s1,Zi s2,Zi s3] M T Z Z Z Z (.cons (T.e 0 Z) .nil) (fun _=>by kernel_rfl) ?_;clear M T;intro g1 wc ac M T
  refine Zso hK _ _ (MA.mk (fun _=>(M.mask [false,true] Z).sub (List.Sublist.cons_cons _ (Zsl _ _))) (M.perm [] Z Z)) ?_;clear hK K
  refine gw 11 4095 ?_;intro K hK
  refine ow_app (((g1,.cells [Zi s0,Zi s1,Zi s2,Zi s3])::(bb,.cells (bxM b (.slice A b.lows.length c) (.slice B b.highs.length d)))::Ia)) Tryz.info77 hsB M (by first | rfl | simp) T Z Z Z Z underlying24 Z Z Z (by omega) (T.e 6 Z) (T.e 0 Z) (Zne (i:=0) Z) Z Z ?_;clear M T;intro ga1 cga1 wc ac M T
  refine Zso hK _ _ (MA.mk (fun _=>M.mask [false,false,true] Z) (M.perm [] Z Z)) ?_;clear hK K
  refine Zgq T 12 8191 Z (fun _=>(rn_nil Z (T.e 11 Z))) ?_;intro ac T
  refine Zgq (v:=(.pointer (some ⟨bb,6,none⟩))) T 13 16383 Z (fun _=>(Zrg 6 Z (T.e 0 Z))) ?_;intro ac T
  refine gw 14 32767 ?_;intro K hK
  refine Zot M T Z Z (T.e 0 Z) (T.e 2 Z) Z (.tail (.tail .head)) Z Z ?_;clear M T;intro wc ac M T
  refine Zso hK _ _ (MA.mk (fun h=>(no_of (by kernel_rfl) h).elim) (M.perm [] Z Z)) ?_;clear hK K
  refine Zgd (by kernel_rfl) ?_
  replace T:=T.pick [] rfl
  replace M:=M.mask [true,false,true] rfl
  refine Znb ?_
  refine nm_0 T Z ?_
  have e9:b.highs.length+1=(b.highs++[(⟨s0,s1,s2,s3⟩:Snd)]).length:=by simp
  have e8:((sc b.highs)++[Zi s0,Zi s1,Zi s2,Zi s3])=sc (b.highs++[(⟨s0,s1,s2,s3⟩:Snd)]):=by simp [sc,sndC]
  rw [e9,e8] at M
  have M9:=(Mem.subS (L':=((bb,.cells (Zbm b (.slice A b.lows.length c) (.slice (some ⟨ga1,0,none⟩) ((b.highs++[(⟨s0,s1,s2,s3⟩:Snd)]).length) cga1)))::(ga1,.row 77 4 (b.highs++[(⟨s0,s1,s2,s3⟩:Snd)]).length (sc (b.highs++[(⟨s0,s1,s2,s3⟩:Snd)])) cga1)::Ia)) ([]) M (fun f=>by simp only [Zbm,bxM,boxL,sumF_app,sumF_cons,sumF_nil,Zx6,Zx5,Zx4,Zx0,Zxa] <;> omega))
  exact ⟨rfl,(bb,.cells (Zbm b (.slice A b.lows.length c) (.slice (some ⟨ga1,0,none⟩) ((b.highs++[(⟨s0,s1,s2,s3⟩:Snd)]).length) cga1)))::(Ia++[(ga1,.row 77 4 (b.highs++[(⟨s0,s1,s2,s3⟩:Snd)]).length (sc (b.highs++[(⟨s0,s1,s2,s3⟩:Snd)])) cga1)]),M9.permS (fun f=>by simp only [Zbm,bxM,boxL,sumF_app,sumF_cons,sumF_nil,Zx6,Zx5,Zx4,Zx0,Zxa] <;> omega),A,c,(some ⟨ga1,0,none⟩),cga1,Ia,[(ga1,.row 77 4 (b.highs++[(⟨s0,s1,s2,s3⟩:Snd)]).length (sc (b.highs++[(⟨s0,s1,s2,s3⟩:Snd)])) cga1)],Z,hsA,(Sl.row _ _ _ _ _ _)⟩
 intro h3
 exfalso
 omega
set_option maxHeartbeats 4000000 in
theorem rtake3_any (kk:Int) (bb:Nat) (b:Bx) (A:Option Addr) (c:Nat) (B:Option Addr) (d:Nat) (Ia Ib:List (Nat×BA)) (exq:Nat→Prop) (Y:Option Addr) (cy bX oX:Nat) (u0 u1 d0 d1 a0 a1 b0 b1 le t0 t1 r0 r1 me:Int) (w:World) (hk9:kk=3) (hsA:Sl 77 4 (.slice A b.lows.length c) b.lows.length (sc b.lows) Ia) (hsB:Sl 77 4 (.slice B b.highs.length d) b.highs.length (sc b.highs) Ib) (SX:Sp w exq [] Y 14 1 bX oX (ic [u0,u1,d0,d1,a0,a1,b0,b1,le,t0,t1,r0,r1,me])) (M0:Mem w exq w ((bb,.cells (bxM b (.slice A b.lows.length c) (.slice B b.highs.length d)))::(Ia++Ib))) :
   Calls prog 53 #[Zj bb,Zi kk,.slice Y 14 cy] w fun e w'=>e=.returned (.tuple #[])∧∃ L,Mem w exq w' L∧KeptB bb (putV 3 [u0,u1,d0,d1,a0,a1,b0,b1,le,t0,t1,r0,r1,me] b) L:=by
 refine Zpx exq func53 Z 124 Z [Zj bb,Zi kk,.slice Y 14 cy] Z Z M0 ?_
 intro ac wc T M
 refine Zsr ?_
 refine lq T (Zrm Z (T.e 1 Z)) ?_;intro ac T
 replace T:=T.pick [0,1,3] rfl
 refine Zln ?_
 refine wp_block ?_
 refine Zsr ?_
 refine Zg2 T (Zq (rn_eql Z (T.e 0 Z) evc)) Z (Za 0 Z Z) Z ?_;intro ac T
 replace T:=T.pick [0,2,3,4] rfl
 refine Zln ?_
 refine wp_if (T.e 0 Z) ?_ ?_
 ·intro h1
  exfalso
  omega
 intro h1
 refine Zsr ?_
 refine Zg2 T (Zq (rn_eql Z (T.e 1 Z) evc)) Z (Za 0 Z Z) Z ?_;intro ac T
 replace T:=T.pick [0,3,4,5] rfl
 refine Zln ?_
 refine wp_if (T.e 0 Z) ?_ ?_
 ·intro h2
  exfalso
  omega
 intro h2
 refine Zsr ?_
 refine Zg2 T (Zq (rn_eql Z (T.e 1 Z) evc)) Z (Za 0 Z Z) Z ?_;intro ac T
 replace T:=T.pick [0,3,4,5] rfl
 refine Zln ?_
 refine wp_if (T.e 0 Z) ?_ ?_
 ·intro h3
  exfalso
  omega
 intro h3
 refine Zsr ?_
 refine Zg2 T (Zq (rn_eql Z (T.e 1 Z) evc)) Z (Za 0 Z Z) Z ?_;intro ac T
 replace T:=T.pick [0,4,5] rfl
 refine Zln ?_
 refine wp_if (T.e 0 Z) ?_ ?_
 ·intro h4
  refine wp_seq ?_
  refine Zgs M (M.mask [false] Z) 36 (by kernel_rfl) Z (by kernel_rfl) ?_
  clear M;intro wc M
  refine g_addG 19 M ?_
  refine Zgq T 0 1 Z (fun _=>(Zrm Z (T.e 1 Z))) ?_;intro ac T
  refine Zgq T 1 3 Z (fun _=>(Zrm Z (T.e 2 Z))) ?_;intro ac T
  refine Zgq T 2 7 Z (fun _=>(Zrm Z (T.e 3 Z))) ?_;intro ac T
  refine Zgq T 3 15 Z (fun _=>(Zrm Z (T.e 4 Z))) ?_;intro ac T
  refine Zgq T 4 31 Z (fun _=>(Zrm Z (T.e 5 Z))) ?_;intro ac T
  refine Zgq T 5 63 Z (fun _=>(Zrm Z (T.e 7 Z))) ?_;intro ac T
  refine Zgq T 7 191 Z (fun _=>(Zrm Z (T.e 8 Z))) ?_;intro ac T
  refine Zgq T 9 703 Z (fun _=>(Zrm Z (T.e 9 Z))) ?_;intro ac T
  refine Zgq T 11 2751 Z (fun _=>(Zrm Z (T.e 10 Z))) ?_;intro ac T
  refine Zgq T 13 10943 Z (fun _=>(Zrm Z (T.e 11 Z))) ?_;intro ac T
  refine Zgq T 14 27327 Z (fun _=>(Zri (size:=1) 8 Z (T.e 0 Z) evc ⟨_,underlying31,by kernel_rfl⟩ Z (by omega) (SX.at0 (by omega)))) ?_;intro ac T
  refine gq T 15 60095 Z (fun B w' hD hl hS=>(rn_cell (Sp.ic0 SX (show Mem w exq w' _ from ((MA.lft hS) (hD.wait (i:=15) (m:=19) (by kernel_rfl) hl))) (Zz9 _) Z) Z (T.e 0 Z))) ?_;intro ac T
  refine gw 6 60159 ?_;intro K hK
  refine Zod T Z Z Z Z evf (.cons (T.e 6 Z) (.cons evc .nil)) func120 Z Z ?_
  refine Calls.mono (at5_any Y cy 0 [u0,u1,d0,d1,a0,a1,b0,b1,le,t0,t1,r0,r1,me] u0 u1 _ (SX.rd M (Zz9 _)) Z Z (by omega)) ?_
  clear T;rintro e wc ⟨rfl,hb⟩ ac T
  replace M:=M.call hb;clear hb
  refine Zso hK _ _ (MA.mk (fun _=>M.mask [true] Z) (M.mask [false] Z)) ?_;clear hK K
  refine gw 8 60415 ?_;intro K hK
  refine Zod T Z Z Z Z evf (.cons (T.e 6 Z) (.cons evc .nil)) func120 Z Z ?_
  refine Calls.mono (at5_any Y cy 2 [u0,u1,d0,d1,a0,a1,b0,b1,le,t0,t1,r0,r1,me] d0 d1 _ (SX.rd M (Zz9 _)) Z Z (by omega)) ?_
  clear T;rintro e wc ⟨rfl,hb⟩ ac T
  replace M:=M.call hb;clear hb
  refine Zso hK _ _ (MA.mk (fun _=>M.mask [true] Z) (M.mask [false] Z)) ?_;clear hK K
  refine gw 10 61439 ?_;intro K hK
  refine Zod T Z Z Z Z evf (.cons (T.e 6 Z) (.cons evc .nil)) func120 Z Z ?_
  refine Calls.mono (at5_any Y cy 4 [u0,u1,d0,d1,a0,a1,b0,b1,le,t0,t1,r0,r1,me] a0 a1 _ (SX.rd M (Zz9 _)) Z Z (by omega)) ?_
  clear T;rintro e wc ⟨rfl,hb⟩ ac T
  replace M:=M.call hb;clear hb
  refine Zso hK _ _ (MA.mk (fun _=>M.mask [true] Z) (M.mask [false] Z)) ?_;clear hK K
  refine gw 12 65535 ?_;intro K hK
  refine Zod T Z Z Z Z evf (.cons (T.e 6 Z) (.cons evc .nil)) func120 Z Z ?_
  refine Calls.mono (at5_any Y cy 6 [u0,u1,d0,d1,a0,a1,b0,b1,le,t0,t1,r0,r1,me] b0 b1 _ (SX.rd M (Zz9 _)) Z Z (by omega)) ?_
  clear T;rintro e wc ⟨rfl,hb⟩ ac T
  replace M:=M.call hb;clear hb
  refine Zso hK _ _ (MA.mk (fun _=>M.mask [true] Z) (M.mask [false] Z)) ?_;clear hK K
  refine Zgq T 16 131071 Z (fun _=>(rn_nil Z (T.e 15 Z))) ?_;intro ac T
  refine Zgq (v:=(.pointer (some ⟨bb,11,none⟩))) T 17 262143 Z (fun _=>(Zrg 11 Z (T.e 0 Z))) ?_;intro ac T
  refine Zgq (v:=(.pointer (some ⟨bb,11,none⟩))) T 18 524287 Z (fun _=>(Zrg 0 Z (T.e 0 Z))) ?_;intro ac T
  refine gw 19 1048575 ?_;intro K hK
  refine Zot M T Z Z (T.e 0 Z) (T.e 6 Z) Z .head Z Z ?_;clear M T;intro wc ac M T
  refine Zso hK _ _ (MA.mk (fun h=>(no_of (by kernel_rfl) h).elim) (M.mask [false] Z)) ?_;clear hK K
  refine Zgq T 20 2097151 Z (fun _=>(rn_nil Z (T.e 17 Z))) ?_;intro ac T
  refine Zgq (v:=(.pointer (some ⟨bb,11,none⟩))) T 21 4194303 Z (fun _=>(Zrg 11 Z (T.e 0 Z))) ?_;intro ac T
  refine Zgq (v:=(.pointer (some ⟨bb,13,none⟩))) T 22 8388607 Z (fun _=>(Zrg 2 Z (T.e 0 Z))) ?_;intro ac T
  refine gw 23 16777215 ?_;intro K hK
  refine Zot M T Z Z (T.e 0 Z) (T.e 8 Z) Z .head Z Z ?_;clear M T;intro wc ac M T
  refine Zso hK _ _ (MA.mk (fun h=>(no_of (by kernel_rfl) h).elim) (M.mask [false] Z)) ?_;clear hK K
  refine Zgq T 24 33554431 Z (fun _=>(rn_nil Z (T.e 19 Z))) ?_;intro ac T
  refine Zgq (v:=(.pointer (some ⟨bb,11,none⟩))) T 25 67108863 Z (fun _=>(Zrg 11 Z (T.e 0 Z))) ?_;intro ac T
  refine Zgq (v:=(.pointer (some ⟨bb,15,none⟩))) T 26 134217727 Z (fun _=>(Zrg 4 Z (T.e 0 Z))) ?_;intro ac T
  refine gw 27 268435455 ?_;intro K hK
  refine Zot M T Z Z (T.e 0 Z) (T.e 10 Z) Z .head Z Z ?_;clear M T;intro wc ac M T
  refine Zso hK _ _ (MA.mk (fun h=>(no_of (by kernel_rfl) h).elim) (M.mask [false] Z)) ?_;clear hK K
  refine Zgq T 28 536870911 Z (fun _=>(rn_nil Z (T.e 21 Z))) ?_;intro ac T
  refine Zgq (v:=(.pointer (some ⟨bb,11,none⟩))) T 29 1073741823 Z (fun _=>(Zrg 11 Z (T.e 0 Z))) ?_;intro ac T
  refine Zgq (v:=(.pointer (some ⟨bb,17,none⟩))) T 30 2147483647 Z (fun _=>(Zrg 6 Z (T.e 0 Z))) ?_;intro ac T
  refine gw 31 4294967295 ?_;intro K hK
  refine Zot M T Z Z (T.e 0 Z) (T.e 12 Z) Z .head Z Z ?_;clear M T;intro wc ac M T
  refine Zso hK _ _ (MA.mk (fun h=>(no_of (by kernel_rfl) h).elim) (M.mask [false] Z)) ?_;clear hK K
  refine Zgq T 32 8589934591 Z (fun _=>(rn_nil Z (T.e 23 Z))) ?_;intro ac T
  refine Zgq (v:=(.pointer (some ⟨bb,11,none⟩))) T 33 17179869183 Z (fun _=>(Zrg 11 Z (T.e 0 Z))) ?_;intro ac T
  refine Zgq (v:=(.pointer (some ⟨bb,19,none⟩))) T 34 34359738367 Z (fun _=>(Zrg 8 Z (T.e 0 Z))) ?_;intro ac T
  refine gw 35 68719476735 ?_;intro K hK
  refine Zot M T Z Z (T.e 0 Z) (T.e 19 Z) Z .head Z Z ?_;clear M T;intro wc ac M T
  refine Zso hK _ _ (MA.mk (fun h=>(no_of (by kernel_rfl) h).elim) (M.mask [false] Z)) ?_;clear hK K
  refine Zgd (by kernel_rfl) ?_
  replace T:=T.pick [32,33] rfl
  refine nm_then ?_
  refine Zgs M (M.mask [false] Z) 19 (by kernel_rfl) Z (by kernel_rfl) ?_
  clear M;intro wc M
  refine g_addG 12 M ?_
  refine Zgq T 0 1 Z (fun _=>(Zrm Z (T.e 0 Z))) ?_;intro ac T
  refine Zgq T 1 3 Z (fun _=>(Zrm Z (T.e 1 Z))) ?_;intro ac T
  refine Zgq T 2 7 Z (fun _=>(Zrm Z (T.e 2 Z))) ?_;intro ac T
  refine Zgq T 3 15 Z (fun _=>(Zrm Z (T.e 4 Z))) ?_;intro ac T
  refine Zgq T 5 47 Z (fun _=>(Zrm Z (T.e 5 Z))) ?_;intro ac T
  refine Zgq T 7 175 Z (fun _=>(Zrm Z (T.e 6 Z))) ?_;intro ac T
  refine Zgq T 8 431 Z (fun _=>(Zri (size:=1) 13 Z (T.e 0 Z) evc ⟨_,underlying31,by kernel_rfl⟩ Z (by omega) (SX.at0 (by omega)))) ?_;intro ac T
  refine gq T 9 943 Z (fun B w' hD hl hS=>(rn_cell (Sp.ic0 SX (show Mem w exq w' _ from ((MA.lft hS) (hD.wait (i:=9) (m:=12) (by kernel_rfl) hl))) (Zz9 _) Z) Z (T.e 0 Z))) ?_;intro ac T
  refine gw 4 959 ?_;intro K hK
  refine Zod T Z Z Z Z evf (.cons (T.e 4 Z) (.cons evc .nil)) func120 Z Z ?_
  refine Calls.mono (at5_any Y cy 9 [u0,u1,d0,d1,a0,a1,b0,b1,le,t0,t1,r0,r1,me] t0 t1 _ (SX.rd M (Zz9 _)) Z Z (by omega)) ?_
  clear T;rintro e wc ⟨rfl,hb⟩ ac T
  replace M:=M.call hb;clear hb
  refine Zso hK _ _ (MA.mk (fun _=>M.mask [true] Z) (M.mask [false] Z)) ?_;clear hK K
  refine gw 6 1023 ?_;intro K hK
  refine Zod T Z Z Z Z evf (.cons (T.e 4 Z) (.cons evc .nil)) func120 Z Z ?_
  refine Calls.mono (at5_any Y cy 11 [u0,u1,d0,d1,a0,a1,b0,b1,le,t0,t1,r0,r1,me] r0 r1 _ (SX.rd M (Zz9 _)) Z Z (by omega)) ?_
  clear T;rintro e wc ⟨rfl,hb⟩ ac T
  replace M:=M.call hb;clear hb
  refine Zso hK _ _ (MA.mk (fun _=>M.mask [true] Z) (M.mask [false] Z)) ?_;clear hK K
  refine Zgq T 10 2047 Z (fun _=>(rn_nil Z (T.e 9 Z))) ?_;intro ac T
  refine Zgq (v:=(.pointer (some ⟨bb,7,none⟩))) T 11 4095 Z (fun _=>(Zrg 7 Z (T.e 0 Z))) ?_;intro ac T
  refine gw 12 8191 ?_;intro K hK
  refine Zot M T Z Z (T.e 0 Z) (T.e 3 Z) Z .head Z Z ?_;clear M T;intro wc ac M T
  refine Zso hK _ _ (MA.mk (fun h=>(no_of (by kernel_rfl) h).elim) (M.mask [false] Z)) ?_;clear hK K
  refine Zgq T 13 16383 Z (fun _=>(rn_nil Z (T.e 10 Z))) ?_;intro ac T
  refine Zgq (v:=(.pointer (some ⟨bb,9,none⟩))) T 14 32767 Z (fun _=>(Zrg 9 Z (T.e 0 Z))) ?_;intro ac T
  refine gw 15 65535 ?_;intro K hK
  refine Zot M T Z Z (T.e 0 Z) (T.e 4 Z) Z .head Z Z ?_;clear M T;intro wc ac M T
  refine Zso hK _ _ (MA.mk (fun h=>(no_of (by kernel_rfl) h).elim) (M.mask [false] Z)) ?_;clear hK K
  refine Zgq T 16 131071 Z (fun _=>(rn_nil Z (T.e 11 Z))) ?_;intro ac T
  refine Zgq (v:=(.pointer (some ⟨bb,20,none⟩))) T 17 262143 Z (fun _=>(Zrg 20 Z (T.e 0 Z))) ?_;intro ac T
  refine gw 18 524287 ?_;intro K hK
  refine Zot M T Z Z (T.e 0 Z) (T.e 8 Z) Z .head Z Z ?_;clear M T;intro wc ac M T
  refine Zso hK _ _ (MA.mk (fun h=>(no_of (by kernel_rfl) h).elim) (M.mask [false] Z)) ?_;clear hK K
  refine Zgd (by kernel_rfl) ?_
  replace T:=T.pick [] rfl
  refine Znb ?_
  refine nm_0 T Z ?_
  exact ⟨rfl,_,(Mem.subS (L':=((bb,.cells [Zi b.first,Zi b.step,Zi b.span,Zi b.press,Zi b.note,.slice A b.lows.length c,.slice B b.highs.length d,Zi t0,Zi t1,Zi r0,Zi r1,Zi u0,Zi u1,Zi d0,Zi d1,Zi a0,Zi a1,Zi b0,Zi b1,Zi le,Zi me])::(Ia++Ib))) ([]) M (fun f=>by simp only [bxM,boxL,sumF_app,sumF_cons,sumF_nil,Zx6,Zx5,Zx4,Zx0,Zxa] <;> omega)),A,c,B,d,Ia,Ib,Z,hsA,hsB⟩
 intro h4
 exfalso
 omega
theorem len4 {N:List Int} (h:N.length=4):∃ a b c d,N=[a,b,c,d]:=by
 match N,h with
 | [a,b,c,d],_=>exact ⟨a,b,c,d,rfl⟩
theorem len14 {N:List Int} (h:N.length=14):∃ a b c d e f g i j k l m n o,N=[a,b,c,d,e,f,g,i,j,k,l,m,n,o]:=by
 match N,h with
 | [a,b,c,d,e,f,g,i,j,k,l,m,n,o],_=>exact ⟨a,b,c,d,e,f,g,i,j,k,l,m,n,o,rfl⟩
theorem rtakeQ_any (k:Nat) (hk:k≤3) (kk:Int) (hkk:kk=(k:Int)) (xs:List Int) (hx:xs.length=lenF (kvAt KL KA KB KF k).form) (bb:Nat) (b:Bx) (A:Option Addr) (c:Nat) (B:Option Addr) (d:Nat) (Ia Ib:List (Nat×BA)) (exq:Nat→Prop) (Y:Option Addr) (cy bX oX:Nat) (w:World)
  (hsA:Sl 77 4 (.slice A b.lows.length c) b.lows.length (sc b.lows) Ia) (hsB:Sl 77 4 (.slice B b.highs.length d) b.highs.length (sc b.highs) Ib) (SX:Sp w exq [] Y xs.length 1 bX oX (ic xs)) (M0:Mem w exq w ((bb,.cells (boxL b A c B d))::(Ia++Ib))) (hl:b.lows.length≤800000) (hh:b.highs.length≤800000) :
  Calls prog 53 #[Zj bb,Zi kk,.slice Y xs.length cy] w fun e w'=>e=.returned (.tuple #[])∧∃ L,Mem w exq w' L∧KeptB bb (putV k xs b) L:=by
 match k,hk with
 | 0,_ =>
  obtain ⟨n0,n1,n2,n3,n4,rfl⟩:=len5 (show xs.length=5 from hx)
  exact rtake0_any kk bb b A c B d Ia Ib exq Y cy bX oX n0 n1 n2 n3 n4 w hkk hsA hsB SX M0
 | 1,_ =>
  obtain ⟨s0,s1,s2,s3,rfl⟩:=len4 (show xs.length=4 from hx)
  exact rtake1_any kk bb b A c B d Ia Ib exq Y cy bX oX s0 s1 s2 s3 w hkk hsA hsB SX (Mem.permS (L':=(bb,.cells (boxL b A c B d))::(Ib++Ia)) M0 (fun f=>by simp only [bxM,boxL,sumF_app,sumF_cons,sumF_nil,Zx6,Zx5,Zx4,Zx0,Zxa] <;> omega)) hl
 | 2,_ =>
  obtain ⟨s0,s1,s2,s3,rfl⟩:=len4 (show xs.length=4 from hx)
  exact rtake2_any kk bb b A c B d Ia Ib exq Y cy bX oX s0 s1 s2 s3 w hkk hsA hsB SX M0 hh
 | 3,_ =>
  obtain ⟨u0,u1,d0,d1,a0,a1,b0,b1,le,t0,t1,r0,r1,me,rfl⟩:=len14 (show xs.length=14 from hx)
  exact rtake3_any kk bb b A c B d Ia Ib exq Y cy bX oX u0 u1 d0 d1 a0 a1 b0 b1 le t0 t1 r0 r1 me w hkk hsA hsB SX M0
theorem kd_cases (w:List UInt8):(w=lawW∧kdR w=(0,fmL))∨(w=lowW∧kdR w=(1,fmA))∨(w=highW∧kdR w=(2,fmA))∨(w=fileV∧kdR w=(3,fmF))∨((w≠lawW∧w≠lowW∧w≠highW∧w≠fileV)∧kdR w=(-1,[])):=by
 unfold kdR
 by_cases h0:w=lawW
 ·exact .inl ⟨h0,if_pos h0⟩
 ·by_cases h1:w=lowW
  ·exact .inr (.inl ⟨h1,by rw [if_neg h0,if_pos h1]⟩)
  ·by_cases h2:w=highW
   ·exact .inr (.inr (.inl ⟨h2,by rw [if_neg h0,if_neg h1,if_pos h2]⟩))
   ·by_cases h3:w=fileV
    ·exact .inr (.inr (.inr (.inl ⟨h3,by rw [if_neg h0,if_neg h1,if_neg h2,if_pos h3]⟩)))
    ·exact .inr (.inr (.inr (.inr ⟨⟨h0,h1,h2,h3⟩,by rw [if_neg h0,if_neg h1,if_neg h2,if_neg h3]⟩)))
theorem kd_le (w:List UInt8) : -1≤(kdR w).1∧(kdR w).1≤3:=by
 rcases kd_cases w with ⟨-,e⟩ | ⟨-,e⟩ | ⟨-,e⟩ | ⟨-,e⟩ | ⟨-,e⟩ <;> rw [e] <;> decide
theorem kd_let (w:List UInt8):∀ f∈(kdR w).2,f=110∨f=114:=by
 rcases kd_cases w with ⟨-,e⟩ | ⟨-,e⟩ | ⟨-,e⟩ | ⟨-,e⟩ | ⟨-,e⟩ <;> rw [e] <;> decide
theorem kd_form {w:List UInt8} (h:(kdR w).1≠-1):(kdR w).2.map fb=(kvAt KL KA KB KF (kdR w).1.toNat).form:=by
 rcases kd_cases w with ⟨-,e⟩ | ⟨-,e⟩ | ⟨-,e⟩ | ⟨-,e⟩ | ⟨-,e⟩
 · rw [e];rfl
 · rw [e];rfl
 · rw [e];rfl
 · rw [e];rfl
 · rw [e] at h;exact absurd rfl h
theorem lineR_kd {s w0:List UInt8} {ws:List (List UInt8)} (h:spl 44 s=w0::ws):lineR KL KA KB KF s=if (kdR w0).1 = -1 then none else (valsQ ((kdR w0).2.map fb) ws).map ((kdR w0).1.toNat,·):=by
 unfold lineR
 rw [h]
 dsimp only
 rcases kd_cases w0 with ⟨e,e2⟩ | ⟨e,e2⟩ | ⟨e,e2⟩ | ⟨e,e2⟩ | ⟨⟨n0,n1,n2,n3⟩,e2⟩
 · rw [if_pos e,e2];rfl
 · subst e;rw [if_neg (by decide),if_pos rfl,e2];rfl
 · subst e;rw [if_neg (by decide),if_neg (by decide),if_pos rfl,e2];rfl
 · subst e;rw [if_neg (by decide),if_neg (by decide),if_neg (by decide),if_pos rfl,e2];rfl
 · rw [if_neg n0,if_neg n1,if_neg n2,if_neg n3,e2];rfl
theorem refV_at {bf:Int} {i:Nat} {ls:List (List UInt8)} {s:List UInt8} (h:ls[i]? = some s):refV KL KA KB KF bf i (ls.drop i)=match lineR KL KA KB KF s with
  | none=>.bad (i+1)
  | some x=>if (x.1:Int) < bf∨bf=3∨(decide (x.1=0)≠decide (i=0)) then .bad (i+1) else (refV KL KA KB KF x.1 (i+1) (ls.drop (i+1))).cons x:=by
 rw [List.drop_eq_getElem_cons (List.getElem?_eq_some_iff.1 h).1,(List.getElem?_eq_some_iff.1 h).2]
 rfl
theorem drop_get {l:List (List UInt8)} {i:Nat} {s:List UInt8} (h:l[i]? = some s) (hi:i+1 < l.length):l.dropLast[i]? = some s:=by
 rw [List.dropLast_eq_take,List.getElem?_take_of_lt (by omega),h]
section
variable {bf:Int} {i:Nat} {ls:List (List UInt8)} {s w0:List UInt8} {ws:List (List UInt8)} {l:List (Nat×List Int)} {r:RdE} {x:List Int}
theorem rv_bad (h:ls[i]? = some s) (H:r=RdE.app l (refV KL KA KB KF bf i (ls.drop i))) (hw:spl 44 s=w0::ws) (hc : ¬ ((valsQ ((kdR w0).2.map fb) ws).isSome=true∧¬ (kdR w0).1 < bf∧¬ bf=3∧((kdR w0).1=0↔i=0))):r=.bad (i+1):=by
 rw [refV_at h,lineR_kd hw] at H
 by_cases h1:(kdR w0).1 = -1
 ·rw [if_pos h1,app_bad] at H;exact H
 ·rw [if_neg h1] at H
  cases e:valsQ ((kdR w0).2.map fb) ws with
  | none=>rw [e] at H;simp only [Option.map_none] at H;rw [app_bad] at H;exact H
  | some y =>
   rw [e] at H hc
   simp only [Option.map_some] at H
   have hk:=kd_le w0
   rw [if_pos,app_bad] at H
   ·exact H
   ·have e1:(((kdR w0).1.toNat:Nat):Int)=(kdR w0).1:=Int.toNat_of_nonneg (by omega)
    by_cases h2:(kdR w0).1 < bf
    ·exact .inl (by rw [e1];exact h2)
    ·by_cases h3:bf=3
     ·exact .inr (.inl h3)
     ·refine .inr (.inr fun h4=>hc ⟨rfl,h2,h3,?_⟩)
      have h5:=decide_eq_decide.1 h4
      exact ⟨fun h6=>h5.1 (by omega),fun h6=>by have:=h5.2 h6;omega⟩
theorem rv_go (h:ls[i]? = some s) (H:r=RdE.app l (refV KL KA KB KF bf i (ls.drop i))) (hw:spl 44 s=w0::ws) (hbf:bf = -1↔i=0) (hb1 : -1≤bf) (hx:valsQ ((kdR w0).2.map fb) ws=some x) (hc : ¬ (kdR w0).1 < bf∧¬ bf=3∧((kdR w0).1=0↔i=0)) :
  0≤(kdR w0).1∧r=RdE.app (l++[((kdR w0).1.toNat,x)]) (refV KL KA KB KF (kdR w0).1 (i+1) (ls.drop (i+1))):=by
 have hk:=kd_le w0
 obtain ⟨h2,h3,h4⟩:=hc
 have h1:(kdR w0).1≠-1:=fun e=>by
  have h5:bf = -1:=by omega
  have:=h4.2 (hbf.1 h5)
  omega
 have e1:(((kdR w0).1.toNat:Nat):Int)=(kdR w0).1:=Int.toNat_of_nonneg (by omega)
 refine ⟨by omega,?_⟩
 rw [refV_at h,lineR_kd hw,if_neg h1,hx] at H
 simp only [Option.map_some] at H
 rw [if_neg,e1] at H
 ·rw [H,← app_cons]
 ·rintro (h5 | h5 | h5)
  ·omega
  ·exact h3 h5
  ·exact h5 (decide_eq_decide.2 ⟨fun h6=>h4.1 (by omega),fun h6=>by have:=h4.2 h6;omega⟩)
end
theorem rv_test {o:Option (List Int)} {kd bf:Int} {i:Nat} (h:((!o.isSome) || ((decide (kd < bf)) || ((decide (bf=3)) || (!((decide (kd=0)) == (decide ((i:Int)=0)))))))=false):o.isSome=true∧¬ kd < bf∧¬ bf=3∧(kd=0↔i=0):=by
 simp only [Bool.or_eq_false_iff,Bool.not_eq_false',decide_eq_false_iff_not,beq_iff_eq,decide_eq_decide] at h
 obtain ⟨h1,h2,h3,h4⟩:=h
 exact ⟨h1,h2,h3,by rw [h4];omega⟩
theorem rv_testN {o:Option (List Int)} {kd bf:Int} {i:Nat} (h:((!o.isSome) || ((decide (kd < bf)) || ((decide (bf=3)) || (!((decide (kd=0)) == (decide ((i:Int)=0)))))))=true) : ¬ (o.isSome=true∧¬ kd < bf∧¬ bf=3∧(kd=0↔i=0)):=by
 rintro ⟨h1,h2,h3,h4⟩
 rw [h1,Zdf h2,Zdf h3,show (decide (kd=0) == decide ((i:Int)=0))=true from by rw [beq_iff_eq,decide_eq_decide,h4];omega] at h
 simp at h
theorem Sl.cap {w0 w:World} {ex:Nat→Prop} {e size n c:Nat} {A:Option Addr} {xs:List Value} {I:List (Nat×BA)} (h:Sl e size (.slice A n c) n xs I) (M:Mem w0 ex w I):n≤c:=by
 rcases h with ⟨h1,h2,-,-⟩ | ⟨g,cap,h1,rfl⟩
 ·omega
 ·obtain ⟨hb,hn⟩:=(M.blk _ Zz2).2
  obtain ⟨g',cap',e1,hc,-⟩:=own_form hb hn
  injection e1 with _ _ e1
  injection h1 with _ _ h1
  omega
theorem or_bad3 {bf:Int} {zl:List UInt8} (h:((!decide (bf=3)) || (!decide (zl=[])))=true):decide (bf=3)=false∨zl≠[]:=by
 simp only [Bool.or_eq_true,Bool.not_eq_true',decide_eq_false_iff_not] at h
 rcases h with h | h
 · exact .inl (Zdf h)
 · exact .inr h
theorem or_go3 {bf:Int} {zl:List UInt8} (h:((!decide (bf=3)) || (!decide (zl=[])))=false):decide (bf=3)=true∧zl=[]:=by
 simp only [Bool.or_eq_false_iff,Bool.not_eq_false',decide_eq_true_eq] at h
 exact ⟨Zdt h.1,h.2⟩
theorem readR_short {t:List UInt8} (h : ¬ 500 < t.length):readV t=endV (spl 10 t) (refV KL KA KB KF (-1) 0 (spl 10 t).dropLast):=by rw [readV_eq];unfold readVR;rw [if_neg h]
theorem rread_any (text:List UInt8) (w:World)  :
   Calls prog 14 #[sv text] w (ReadB (readV text) w):=by
 refine Zpx noEx func14 Z 93 Z [sv text] Z Z (Mem.init w _) ?_
 intro ac wc T M
 refine Zsr ?_
 refine Zl2 ?_
 refine Zoa M T Z Z Z Z ?_;clear M T;intro g1 wc ac M T
 refine Zg2 T (Zq (Zra Z evc)) Z (Zc Z) Z ?_;intro ac T
 replace T:=T.pick [2,3] rfl
 refine Zln ?_
 refine wp_seq ?_
 refine Zsr ?_
 refine Zg3 T (Zq (Zrm Z (T.e 1 Z))) Z (fun _ T=>Zq (rn_slen Z underlying9 (T.e 0 Z))) Z (fun _ T=>Zq (rn_gtr Z (T.e 0 Z) evc)) Z ?_;intro ac T
 replace T:=T.pick [0,3,4] rfl
 refine Zln ?_
 refine wp_if (T.e 0 Z) ?_ ?_
 ·intro h1
  refine Zsr ?_
  refine lq (v:=(.agg #[Zi 0,Zi 0,Zi 0,Zi 0,Zi 0,.slice none 0 0,.slice none 0 0,Zi 0,Zi 0,Zi 0,Zi 0,Zi 0,Zi 0,Zi 0,Zi 0,Zi 0,Zi 0,Zi 0,Zi 0,Zi 0,Zi 0])) T (rn_build Z .nil (fun _=>by kernel_rfl)) ?_;intro ac T
  refine Zl2 ?_
  refine Zot M T Z Z (T.e 2 Z) (T.e 0 Z) Z .head Z Z ?_;clear M T;intro wc ac M T
  refine Zg2 T (Zq (Zra Z evc)) Z (Zc Z) Z ?_;intro ac T
  replace T:=T.pick [0,1,4] rfl
  refine Zln ?_
  refine wp_ret ?_
  refine Zrt ?_
  refine rt_ctt M T Z (T.e 2 Z) (T.e 1 Z) (T.e 0 Z) (Zne (i:=0) Z) Z ?_
  exact ReadB.zero (readV_long (by omega)) M
 intro h1
 refine Zsk ?_
 refine Zsr ?_
 refine lq T (Zrm Z (T.e 2 Z)) ?_;intro ac T
 refine Zl2 ?_
 refine Zod T Z Z Z Z evf (.cons (T.e 0 Z) (.cons evc .nil)) func50 Z Z ?_
 refine Calls.mono (rsplit_any text 10 _ (by omega)) ?_
 clear T;rintro e wc ⟨Au1,cu1,Iu1,rfl,hslu1,N⟩ ac T
 obtain ⟨lsu1,hlsu1⟩:∃ q,q=spl 10 text:=⟨_,rfl⟩
 rw [← hlsu1] at hslu1 T
 have hcpu1:=Sl.cap hslu1 N
 obtain ⟨bu1,ou1,SVu1⟩:=Sl.spW hslu1 (by rw [st_length2,Nat.mul_one])
 have Su1:=SVu1 w noEx
 replace M:=(M.join N).swapI
 clear N
 replace M:Mem w noEx wc ((g1,.cells Zb0)::Iu1):=(Mem.permS (L':=((g1,.cells Zb0)::Iu1)) M (fun f=>by simp only [bxM,boxL,sumF_app,sumF_cons,sumF_nil,Zx6,Zx5,Zx4,Zx0,Zxa] <;> omega))
 have hlenu1:lsu1.length≤text.length+1:=by rw [hlsu1];exact spl_len _ _
 have hposu1:0 < lsu1.length:=by rw [hlsu1];exact spl_pos _ _
 refine lq T (Zra Z (T.e 0 Z)) ?_;intro ac T
 replace T:=T.pick [0,4] rfl
 refine Zln ?_
 refine Zsr ?_
 refine Zl2 ?_
 refine Zoa M T Z Z Z Z ?_;clear M T;intro g2 wc ac M T
 refine Zln ?_
 refine Zsr ?_
 refine lq T (Zra Z evc) ?_;intro ac T
 refine Zln ?_
 refine wp_seq ?_
 refine Zsr ?_
 refine lq T (Zra Z evc) ?_;intro ac T
 refine Zln ?_
 refine wp_block ?_
 refine wp_loop_n (fun mz ac wc=>∃ (i:Nat) (bf:Int) (b:Bx) (A:Option Addr) (c:Nat) (B:Option Addr) (d:Nat) (Ia Ib:List (Nat×BA)) (l:List (Nat×List Int)),mz=lsu1.length - i∧(i+1≤lsu1.length)∧(refV KL KA KB KF (-1) 0 lsu1.dropLast=RdE.app l (refV KL KA KB KF bf i (lsu1.dropLast.drop i)))∧(bf = -1↔i=0)∧(-1≤bf∧bf≤3)∧(b=foldV l zeroB)∧(Sl 77 4 (.slice A b.lows.length c) b.lows.length (sc b.lows) Ia)∧(Sl 77 4 (.slice B b.highs.length d) b.highs.length (sc b.highs) Ib)∧(b.lows.length+b.highs.length≤i)∧Tm ac 93 [(2,Zj g1),(5,.slice Au1 lsu1.length cu1),(6,Zj g2),(7,Zi bf),(8,Zi (i:Int))]∧Mem w noEx wc ((g2,.cells (bxM b (.slice A b.lows.length c) (.slice B b.highs.length d)))::(g1,.cells Zb0)::(Iu1++Ia++Ib))) ?_ ?_
 ·exact ⟨_,0,(-1),zeroB,none,0,none,0,[],[],[],Z,(by omega),Z,⟨fun _=>Z,fun _=>Z⟩,(by omega),Z,(Sl.nil _ _),(Sl.nil _ _),(Nat.zero_le _),T.pick [4,3,2,1,0] Z,(by simp only [Zx4];exact M)⟩
 clear T M
 rintro mz ac wc ⟨i,bf,b,A,c,B,d,Ia,Ib,l,hmm1,hi,H,hbf,hb3,hj,hsA,hsB,hjl,T,M⟩
 refine wp_seq ?_
 refine Zsr ?_
 refine Zg5 T (Zq (Zrm Z (T.e 4 Z))) Z (Zm 2 Z Z) Z (Zl underlying37 0 Z Z) Z (fun _ T=>Zq (rn_sub Z (T.e 0 Z) evc (by omega))) Z (fun _ T=>Zq (rn_lss Z (T.e 3 Z) (T.e 0 Z))) Z ?_;intro ac T
 replace T:=T.pick [0,5,6,7,8,9] rfl
 refine Zln ?_
 refine wp_if (T.e 0 Z) ?_ ?_
 ·intro h2
  obtain ⟨s,hks⟩:∃ q,lsu1[i]? = some q:=⟨_,List.getElem?_eq_getElem (by omega)⟩
  have hkd:=drop_get hks (by omega)
  have hsl8:s.length≤text.length:=spl_mem_len (c:=10) (by rw [← hlsu1];exact List.mem_of_getElem? hks)
  refine Zsk ?_
  refine wp_seq ?_
  refine wp_block ?_
  refine Zsr ?_
  refine Zg4 T (Zq (Zrm Z (T.e 2 Z))) Z (Zm 6 Z Z) Z (fun _ T=>Zq (Zri (size:=1) i Z (T.e 1 Z) (T.e 0 Z) ⟨_,underlying37,by kernel_rfl⟩ Z (by omega) (Su1.at0 (by omega)))) Z (fun _ T=>Zq (rn_cell (Sp.stC0 Su1 M (.cons _ (.cons _ (subL (subL (List.Sublist.refl _))))) hks) Z (T.e 0 Z))) Z ?_;intro ac T
  refine Zl2 ?_
  refine Zod T Z Z Z Z evf (.cons (T.e 0 Z) (.cons evc .nil)) func50 Z Z ?_
  refine Calls.mono (rsplit_any s 44 _ (by omega)) ?_
  clear T;rintro e wc ⟨Au2,cu2,Iu2,rfl,hslu2,N⟩ ac T
  obtain ⟨lsu2,hlsu2⟩:∃ q,q=spl 44 s:=⟨_,rfl⟩
  rw [← hlsu2] at hslu2 T
  have hcpu2:=Sl.cap hslu2 N
  obtain ⟨bu2,ou2,SVu2⟩:=Sl.spW hslu2 (by rw [st_length2,Nat.mul_one])
  have Su2:=SVu2 w noEx
  replace M:=(M.join N).swapI
  clear N
  replace M:Mem w noEx wc ((g2,.cells (bxM b (.slice A b.lows.length c) (.slice B b.highs.length d)))::(g1,.cells Zb0)::(Iu1++Ia++Ib++Iu2)):=(Mem.permS (L':=((g2,.cells (bxM b (.slice A b.lows.length c) (.slice B b.highs.length d)))::(g1,.cells Zb0)::(Iu1++Ia++Ib++Iu2))) M (fun f=>by simp only [bxM,boxL,sumF_app,sumF_cons,sumF_nil,Zx6,Zx5,Zx4,Zx0,Zxa] <;> omega))
  have hlenu2:lsu2.length≤s.length+1:=by rw [hlsu2];exact spl_len _ _
  have hposu2:0 < lsu2.length:=by rw [hlsu2];exact spl_pos _ _
  obtain ⟨w0u2,hzu2⟩:∃ q,lsu2[0]? = some q:=⟨_,List.getElem?_eq_getElem hposu2⟩
  have hw9:spl 44 s=w0u2::lsu2.drop 1:=by rw [← hlsu2];exact drop_at (l:=lsu2) (i:=0) hzu2
  have hkl:=kd_le w0u2
  refine lq T (Zra Z (T.e 0 Z)) ?_;intro ac T
  replace T:=T.pick [0,7,8,9,10,11] rfl
  refine Zln ?_
  refine Zsr ?_
  refine Zg3 T (Zq (Zrm Z (T.e 0 Z))) Z (fun _ T=>Zq (Zri (size:=1) 0 Z (T.e 0 Z) evc ⟨_,underlying37,by kernel_rfl⟩ Z (by omega) (Su2.at0 (by omega)))) Z (fun _ T=>Zq (rn_cell (Sp.stC0 Su2 M (.cons _ (.cons _ (Zsq _ _))) hzu2) Z (T.e 0 Z))) Z ?_;intro ac T
  refine Zl2 ?_
  refine Zod T Z Z Z Z evf (.cons (T.e 0 Z) .nil) func51 Z Z ?_
  refine Calls.mono (rkind_any w0u2 _) ?_
  clear T;rintro e wc ⟨rfl,hb⟩ ac T
  replace M:=M.call hb;clear hb
  refine Zg5 T (Zq (Zrm Z (T.e 0 Z))) Z (Ze 0 Z Z Z) Z (Ze 1 Z Z Z) Z (Za 1 Z Z) Z (Za 1 Z Z) Z ?_;intro ac T
  replace T:=T.pick [0,1,9,10,11,12,13,14] rfl
  refine Zln ?_
  refine Zsr ?_
  refine Zg2 T (Zq (Zrm Z (T.e 2 Z))) Z (fun _ T=>Zq (rn_slice (size:=1) (l:=1) (h:=lsu2.length) Z underlying37 (by kernel_rfl) (T.e 0 Z) evc Z (by omega) (by omega))) Z ?_;intro ac T
  obtain ⟨Aq1,hAq1⟩:∃ q:Option Addr,q=(if cu2=1 then Au2 else Option.map (fun x:Addr=>x.add (1 * 1)) Au2):=⟨_,rfl⟩
  rw [← hAq1] at T
  obtain ⟨lq1,hlq1⟩:∃ q,q=(lsu2.drop 1).take (lsu2.length - 1):=⟨_,rfl⟩
  have nlq1:lq1.length=lsu2.length - 1:=by rw [hlq1,List.length_take,List.length_drop];(try simp only [Zx1,Zx3,Zx2]);omega
  rw [← nlq1] at T
  have SAq1:Sp w noEx Iu2 Aq1 lq1.length 1 bu2 (ou2+1 * 1) (st lq1):=by rw [nlq1,hAq1,hlq1,← st_part];exact Su2.sub (by omega) (by omega) (by omega)
  refine lq T (Zrm Z (T.e 2 Z)) ?_;intro ac T
  refine Zl2 ?_
  have hq9:lq1=lsu2.drop 1:=by rw [hlq1];exact List.take_of_length_le (by rw [List.length_drop];exact Nat.le_refl _)
  have hql9:lq1.length≤1000:=by rw [hq9,List.length_drop];omega
  refine Zod T Z Z Z Z evf (.cons (T.e 1 Z) (.cons (T.e 0 Z) .nil)) func52 Z Z ?_
  refine Calls.mono (rvalues_any Aq1 (cu2 - 1) lq1 (kdR w0u2).2 _ (SAq1.rd M (.cons _ (.cons _ (Zsq _ _)))) (by omega) (fun p hp=>by rw [hq9,hlsu2] at hp;have:=spl_mem_len (c:=44) (s:=s) (List.mem_of_mem_drop hp);omega) (kd_let _)) ?_
  clear T;rintro e wc ⟨Au4,cu4,xsu4,Iu4,rfl,hvu4,hslu4,N⟩ ac T
  obtain ⟨bu4,ou4,SVu4⟩:=Sl.spW hslu4 (by rw [ic_length,Nat.mul_one])
  have Su4:=SVu4 w noEx
  replace M:=(M.join N).swapI
  clear N
  replace M:Mem w noEx wc ((g2,.cells (bxM b (.slice A b.lows.length c) (.slice B b.highs.length d)))::(g1,.cells Zb0)::(Iu1++Ia++Ib++Iu2++Iu4)):=(Mem.permS (L':=((g2,.cells (bxM b (.slice A b.lows.length c) (.slice B b.highs.length d)))::(g1,.cells Zb0)::(Iu1++Ia++Ib++Iu2++Iu4))) M (fun f=>by simp only [bxM,boxL,sumF_app,sumF_cons,sumF_nil,Zx6,Zx5,Zx4,Zx0,Zxa] <;> omega))
  refine Zg5 T (Zq (Zrm Z (T.e 0 Z))) Z (Ze 0 Z Z Z) Z (Ze 1 Z Z Z) Z (Za 1 Z Z) Z (Za 1 Z Z) Z ?_;intro ac T
  replace T:=T.pick [0,1,10,12,13,14,15,16] rfl
  refine Zln ?_
  refine wp_seq ?_
  refine cut_seq (fun ac wc=>Tm ac 93 [(2,Zj g1),(5,.slice Au1 lsu1.length cu1),(6,Zj g2),(8,Zi (i:Int)),(10,Zi ((kdR w0u2).1)),(12,.slice Au4 xsu4.length cu4),(64,.bool ((!((valsQ ((kdR w0u2).2.map fb) lq1).isSome)) || ((decide (((kdR w0u2).1) < bf)) || ((decide (bf=3)) || (!((decide (((kdR w0u2).1)=0)) == (decide ((i:Int)=0))))))))]∧Mem w noEx wc ((g2,.cells (bxM b (.slice A b.lows.length c) (.slice B b.highs.length d)))::(g1,.cells Zb0)::(Iu1++Ia++Ib++Iu2++Iu4))) ?_ ?_
  ·refine wp_region_lit ?_
   refine Zg3 T (Zq (Zrm Z (T.e 0 Z))) Z (fun _ T=>Zq (rn_not Z (T.e 0 Z))) Z (Zm 0 Z Z) Z ?_;intro ac T
   rcases Zx9 (!((valsQ ((kdR w0u2).2.map fb) lq1).isSome)) with h3 | h3
   ·refine Zg8 T (Zp (Zwn Z Z (T.e 0 Z) h3)) Z (fun _ T=>Zp (Zwn Z Z (T.e 1 Z) h3)) Z (fun _ T=>Zp (Zwn Z Z (T.e 2 Z) h3)) Z (fun _ T=>Zq (Zr1 Z (T.e 3 Z) h3 evc)) Z (Zm 0 Z Z) Z (fun _ T=>Zp (Zwn Z Z (T.e 0 Z) Z)) Z (fun _ T=>Zp (Zwn Z Z (T.e 1 Z) Z)) Z (fun _ T=>Zq (Zr1 Z (T.e 2 Z) Z evc)) Z ?_;intro ac T
    refine Zg7 T (Zq (Zrm Z (T.e 0 Z))) Z (fun _ T=>Zp (Zwn Z Z (T.e 0 Z) Z)) Z (fun _ T=>Zp (Zwn Z Z (T.e 1 Z) Z)) Z (fun _ T=>Zp (Zwn Z Z (T.e 2 Z) Z)) Z (fun _ T=>Zp (Zwn Z Z (T.e 3 Z) Z)) Z (fun _ T=>Zp (Zwn Z Z (T.e 4 Z) Z)) Z (fun _ T=>Zq (Zr1 Z (T.e 5 Z) Z evc)) Z ?_;intro ac T
    refine wpList_nil ?_
    replace T:=T.pick [0,1,2,3,4,5,8,9,12,13,14,19,20,21,22,23,25] rfl
    exact ⟨(T.pick (E':=[(2,Zj g1),(5,.slice Au1 lsu1.length cu1),(6,Zj g2),(8,Zi (i:Int)),(10,Zi ((kdR w0u2).1)),(12,.slice Au4 xsu4.length cu4),(64,.bool true)]) [13,14,15,16,12,11,0] Z).as (by (try rw [show (!((valsQ ((kdR w0u2).2.map fb) lq1).isSome))=true from h3]);(try rfl)),M.mask [true,true] Z⟩
   refine Zg5 T (Zw (Zwy Z Z (T.e 0 Z) h3) (Zrm Z (T.e 5 Z))) Z (fun _ T=>Zw (Zwy Z Z (T.e 1 Z) h3) (Zrm Z (T.e 10 Z))) Z (fun _ T=>Zw (Zwy Z Z (T.e 2 Z) h3) (rn_lss Z (T.e 1 Z) (T.e 0 Z))) Z (fun _ T=>Zq (Zr0 Z (T.e 3 Z) h3 (T.e 0 Z))) Z (Zm 0 Z Z) Z ?_;intro ac T
   rcases Zx9 (decide (((kdR w0u2).1) < bf)) with h4 | h4
   ·replace h4:=of_decide_eq_true h4
    refine Zg8 T (Zp (Zwn Z Z (T.e 0 Z) (Zdt h4))) Z (fun _ T=>Zp (Zwn Z Z (T.e 1 Z) (Zdt h4))) Z (fun _ T=>Zq (Zr1 Z (T.e 2 Z) (Zdt h4) evc)) Z (Zm 0 Z Z) Z (fun _ T=>Zp (Zwn Z Z (T.e 0 Z) Z)) Z (fun _ T=>Zp (Zwn Z Z (T.e 1 Z) Z)) Z (fun _ T=>Zp (Zwn Z Z (T.e 2 Z) Z)) Z (fun _ T=>Zp (Zwn Z Z (T.e 3 Z) Z)) Z ?_;intro ac T
    refine Zg2 T (Zp (Zwn Z Z (T.e 4 Z) Z)) Z (fun _ T=>Zq (Zr1 Z (T.e 5 Z) Z evc)) Z ?_;intro ac T
    refine wpList_nil ?_
    replace T:=T.pick [0,1,2,3,4,5,8,9,12,13,14,19,20,21,22,23,25] rfl
    exact ⟨(T.pick (E':=[(2,Zj g1),(5,.slice Au1 lsu1.length cu1),(6,Zj g2),(8,Zi (i:Int)),(10,Zi ((kdR w0u2).1)),(12,.slice Au4 xsu4.length cu4),(64,.bool true)]) [13,14,15,16,12,11,0] Z).as (by (try rw [show (!((valsQ ((kdR w0u2).2.map fb) lq1).isSome))=false from h3]);(try rw [show (decide (((kdR w0u2).1) < bf))=true from (Zdt h4)]);(try rfl)),M.mask [true,true] Z⟩
   replace h4:=of_decide_eq_false h4
   refine Zg4 T (Zw (Zwy Z Z (T.e 0 Z) (Zdf h4)) (Zrm Z (T.e 14 Z))) Z (fun _ T=>Zw (Zwy Z Z (T.e 1 Z) (Zdf h4)) (rn_eql Z (T.e 0 Z) evc)) Z (fun _ T=>Zq (Zr0 Z (T.e 2 Z) (Zdf h4) (T.e 0 Z))) Z (Zm 0 Z Z) Z ?_;intro ac T
   rcases Zx9 (decide (bf=3)) with h5 | h5
   ·replace h5:=of_decide_eq_true h5
    refine Zg6 T (Zp (Zwn Z Z (T.e 0 Z) (Zdt h5))) Z (fun _ T=>Zp (Zwn Z Z (T.e 1 Z) (Zdt h5))) Z (fun _ T=>Zp (Zwn Z Z (T.e 2 Z) (Zdt h5))) Z (fun _ T=>Zp (Zwn Z Z (T.e 3 Z) (Zdt h5))) Z (fun _ T=>Zp (Zwn Z Z (T.e 4 Z) (Zdt h5))) Z (fun _ T=>Zq (Zr1 Z (T.e 5 Z) (Zdt h5) evc)) Z ?_;intro ac T
    refine wpList_nil ?_
    replace T:=T.pick [0,1,2,3,4,5,8,9,12,13,14,19,20,21,22,23,25] rfl
    exact ⟨(T.pick (E':=[(2,Zj g1),(5,.slice Au1 lsu1.length cu1),(6,Zj g2),(8,Zi (i:Int)),(10,Zi ((kdR w0u2).1)),(12,.slice Au4 xsu4.length cu4),(64,.bool true)]) [13,14,15,16,12,11,0] Z).as (by (try rw [show (!((valsQ ((kdR w0u2).2.map fb) lq1).isSome))=false from h3]);(try rw [show (decide (((kdR w0u2).1) < bf))=false from (Zdf h4)]);(try rw [show (decide (bf=3))=true from (Zdt h5)]);(try rfl)),M.mask [true,true] Z⟩
   replace h5:=of_decide_eq_false h5
   refine Zg6 (v5:=(.bool (!((decide (((kdR w0u2).1)=0)) == (decide ((i:Int)=0)))))) T (Zw (Zwy Z Z (T.e 0 Z) (Zdf h5)) (Zrm Z (T.e 14 Z))) Z (fun _ T=>Zw (Zwy Z Z (T.e 1 Z) (Zdf h5)) (rn_eql Z (T.e 0 Z) evc)) Z (fun _ T=>Zw (Zwy Z Z (T.e 2 Z) (Zdf h5)) (Zrm Z (T.e 21 Z))) Z (fun _ T=>Zw (Zwy Z Z (T.e 3 Z) (Zdf h5)) (rn_eql Z (T.e 0 Z) evc)) Z (fun _ T=>Zw (Zwy Z Z (T.e 4 Z) (Zdf h5)) (rn_bin Z (T.e 2 Z) (T.e 0 Z) (by kernel_rfl))) Z (fun _ T=>Zq (Zr0 Z (T.e 5 Z) (Zdf h5) (T.e 0 Z))) Z ?_;intro ac T
   refine wpList_nil ?_
   replace T:=T.pick [0,1,2,3,4,5,8,9,12,13,14,19,20,21,22,23,25] rfl
   exact ⟨(T.pick (E':=[(2,Zj g1),(5,.slice Au1 lsu1.length cu1),(6,Zj g2),(8,Zi (i:Int)),(10,Zi ((kdR w0u2).1)),(12,.slice Au4 xsu4.length cu4),(64,.bool (!((decide (((kdR w0u2).1)=0)) == (decide ((i:Int)=0)))))]) [13,14,15,16,12,11,0] Z).as (by (try rw [show (!((valsQ ((kdR w0u2).2.map fb) lq1).isSome))=false from h3]);(try rw [show (decide (((kdR w0u2).1) < bf))=false from (Zdf h4)]);(try rw [show (decide (bf=3))=false from (Zdf h5)]);(try rfl)),M.mask [true,true] Z⟩
  clear T M
  rintro ac wc ⟨T,M⟩
  refine wp_cond_split (T.e 6 Z) ?_ ?_
  ·intro h6
   (have h6':=h6;try simp only [Zb1,Zb2,Zb3,Zb4,Zb5,Zb6,Zb7] at h6')
   refine Zsr ?_
   refine Zg3 (v1:=(.agg #[Zi 0,Zi 0,Zi 0,Zi 0,Zi 0,.slice none 0 0,.slice none 0 0,Zi 0,Zi 0,Zi 0,Zi 0,Zi 0,Zi 0,Zi 0,Zi 0,Zi 0,Zi 0,Zi 0,Zi 0,Zi 0,Zi 0])) T (Zq (rn_build Z .nil (fun _=>by kernel_rfl))) Z (Zm 4 Z Z) Z (fun _ T=>Zq (rn_add Z (T.e 0 Z) evc (by omega))) Z ?_;intro ac T
   refine Zl2 ?_
   refine Zot M T Z Z (T.e 3 Z) (T.e 2 Z) Z (.tail .head) Z Z ?_;clear M T;intro wc ac M T
   refine Zg2 T (Zq (Zra Z (T.e 0 Z))) Z (Zc Z) Z ?_;intro ac T
   refine wpList_nil ?_
   replace T:=T.pick [0,1,5] rfl
   replace M:=M.mask [false,true] rfl
   replace M:Mem w noEx wc ((g1,.cells Zb0)::(Iu1++Ia++Ib++Iu2++Iu4)):=M
   refine Znr ?_
   refine Zrt ?_
   refine Zrb ?_
   refine Zrt ?_
   refine Zrt ?_
   refine Zrb ?_
   refine Zrt ?_
   refine rt_ctt M T Z (T.e 2 Z) (T.e 1 Z) (T.e 0 Z) (Zne (i:=0) Z) Z ?_
   have hb9:=rv_bad hkd H hw9 (by rw [← hq9];exact rv_testN h6)
   exact ReadB.zero (by rw [readR_short (by omega),← hlsu1,hb9];rfl) M
  intro h6
  (have h6':=h6;try simp only [Zb1,Zb2,Zb3,Zb4,Zb5,Zb6,Zb7] at h6')
  refine Zsk ?_
  refine Zsr ?_
  refine Zg2 T (Zq (Zrm Z (T.e 4 Z))) Z (Zm 6 Z Z) Z ?_;intro ac T
  refine Zl2 ?_
  obtain ⟨hc1,hc2,hc3,hc4⟩:=rv_test h6
  obtain ⟨y9,hy9⟩:=Option.isSome_iff_exists.1 hc1
  have hxo:(valsQ ((kdR w0u2).2.map fb) lq1)=some xsu4:=by rw [hvu4 y9 hy9];exact hy9
  rw [hq9] at hxo
  obtain ⟨hk0,hH⟩:=rv_go hkd H hw9 hbf (by omega) hxo ⟨hc2,hc3,hc4⟩
  have hfl:xsu4.length=lenF (kvAt KL KA KB KF (kdR w0u2).1.toNat).form:=by rw [← kd_form (w:=w0u2) (by omega)];exact (valsQ_iff.1 hxo).1
  have Mq:Mem w noEx wc (((g2,.cells (bxM b (.slice A b.lows.length c) (.slice B b.highs.length d)))::(Ia++Ib))++((g1,.cells Zb0)::(Iu1++Iu2++Iu4))):=M.permS (fun f=>by simp only [bxM,boxL,sumF_app,sumF_cons,sumF_nil,Zx6,Zx5,Zx4,Zx0,Zxa] <;> omega)
  have My:Mem w noEx wc ((g2,.cells (bxM b (.slice A b.lows.length c) (.slice B b.highs.length d)))::(Ia++Ib)):=Mq.sub (Zsl _ _)
  have Sx:=Sp.of (ex':=inL ((g2,.cells (bxM b (.slice A b.lows.length c) (.slice B b.highs.length d)))::(Ia++Ib))) Mq (fun _ h=>h) (SVu4 w noEx) (.cons _ (Zsq _ _))
  refine Zod T Z Z Z Z evf (.cons (T.e 4 Z) (.cons (T.e 1 Z) (.cons (T.e 0 Z) .nil))) func53 Z Z ?_
  refine Calls.mono (rtakeQ_any (kdR w0u2).1.toNat (by omega) (kdR w0u2).1 (by omega) xsu4 hfl g2 b A c B d Ia Ib (inL ((g2,.cells (bxM b (.slice A b.lows.length c) (.slice B b.highs.length d)))::(Ia++Ib))) Au4 cu4 bu4 ou4 _ hsA hsB Sx My.rebase (by omega) (by omega)) ?_
  clear T;rintro e wc ⟨rfl,Lqu5,N9,Acu5,ccu5,Bcu5,ddu5,Iaqu5,Ibqu5,rfl,hsau5,hsbu5⟩ ac T
  obtain ⟨bqu5,hbqu5⟩:∃ x,x=(putV (kdR w0u2).1.toNat xsu4 b):=⟨_,rfl⟩
  rw [← hbqu5] at N9 hsau5 hsbu5
  replace M:=Mem.joinX (X:=((g2,.cells (bxM b (.slice A b.lows.length c) (.slice B b.highs.length d)))::(Ia++Ib))) (X':=((g2,.cells (bxM bqu5 (.slice Acu5 bqu5.lows.length ccu5) (.slice Bcu5 bqu5.highs.length ddu5)))::(Iaqu5++Ibqu5))) (F:=((g1,.cells Zb0)::(Iu1++Iu2++Iu4))) Mq N9 (fun b h=>h)
  clear N9 Mq My Sx
  replace M:Mem w noEx wc ((g2,.cells (bxM bqu5 (.slice Acu5 bqu5.lows.length ccu5) (.slice Bcu5 bqu5.highs.length ddu5)))::(g1,.cells Zb0)::(Iaqu5++Ibqu5++Iu1++Iu2++Iu4)):=(Mem.permS (L':=((g2,.cells (bxM bqu5 (.slice Acu5 bqu5.lows.length ccu5) (.slice Bcu5 bqu5.highs.length ddu5)))::(g1,.cells Zb0)::(Iaqu5++Ibqu5++Iu1++Iu2++Iu4))) M (fun f=>by simp only [bxM,boxL,sumF_app,sumF_cons,sumF_nil,Zx6,Zx5,Zx4,Zx0,Zxa] <;> omega))
  replace T:=T.pick [3,4,5,6,7] rfl
  refine Zln ?_
  refine wp_region_lit ?_
  refine Zg2 T (Zq (Zrm Z (T.e 4 Z))) Z (Za 0 Z Z) Z ?_;intro ac T
  refine wpList_nil ?_
  replace T:=T.pick [0,2,3,4,5] rfl
  refine Znb ?_
  refine nm_then ?_
  refine wp_region_lit ?_
  refine Zg2 T (Zq (Zrm Z (T.e 4 Z))) Z (fun _ T=>Zq (rn_add Z (T.e 0 Z) evc (by omega))) Z ?_;intro ac T
  refine l_q (v:=(Zi ((i:Int)+1))) (T.pick [0,1,2,3,4,5] Z) Z Z Z Z (Zra Z (T.e 0 Z)) ?_;intro ac T
  replace T:=T.pick [0,3,4,5,6] rfl
  refine Zln ?_
  have hjn:bqu5=foldV (l++[((kdR w0u2).1.toNat,xsu4)]) zeroB:=by rw [hbqu5,foldV_snoc,← hj]
  have hjm:bqu5.lows.length+bqu5.highs.length≤b.lows.length+b.highs.length+1:=by rw [hbqu5];exact putV_len _ _ _
  exact ⟨_,by omega,i+1,(kdR w0u2).1,bqu5,Acu5,ccu5,Bcu5,ddu5,Iaqu5,Ibqu5,(l++[((kdR w0u2).1.toNat,xsu4)]),Z,(by omega),hH,⟨fun h=>by omega,fun h=>by omega⟩,(by omega),hjn,hsau5,hsbu5,(by omega),T.pick [2,3,4,1,0] Z,(Mem.subS ((Iu2++Iu4)) M (fun f=>by simp only [bxM,boxL,sumF_app,sumF_cons,sumF_nil,Zx6,Zx5,Zx4,Zx0,Zxa] <;> omega))⟩
 intro h2
 obtain ⟨zl,hzl⟩:∃ q,lsu1[lsu1.length - 1]? = some q:=⟨_,List.getElem?_eq_getElem (by omega)⟩
 obtain ⟨bA,oA,SA0⟩:=Sl.spW hsA (sc_length _)
 have SA9:=SA0 w noEx
 obtain ⟨bB,oB,SB0⟩:=Sl.spW hsB (sc_length _)
 have SB9:=SB0 w noEx
 rw [List.drop_of_length_le (by rw [List.length_dropLast];omega)] at H
 replace H:refV KL KA KB KF (-1) 0 lsu1.dropLast=.ok (decide (bf=3)) l:=by rw [H];exact (app_ok l [] _).trans (by rw [Zx4])
 refine wp_exit ?_
 refine Zet ?_
 refine Zet ?_
 refine ex_hit ?_
 refine Zns ?_
 refine cut_seq (fun ac wc=>Tm ac 93 [(2,Zj g1),(5,.slice Au1 lsu1.length cu1),(6,Zj g2),(82,.bool ((!(decide (bf=3))) || (!(decide (zl=([]))))))]∧Mem w noEx wc ((g2,.cells (bxM b (.slice A b.lows.length c) (.slice B b.highs.length d)))::(g1,.cells Zb0)::(Iu1++Ia++Ib))) ?_ ?_
 ·refine wp_region_lit ?_
  refine Zg3 T (Zq (Zrm Z (T.e 4 Z))) Z (fun _ T=>Zq (rn_neq Z (T.e 0 Z) evc)) Z (Zm 0 Z Z) Z ?_;intro ac T
  rcases Zx9 (!(decide (bf=3))) with h7 | h7
  ·replace h7 : ¬ (bf=3):=by first | (rw [Bool.not_eq_true'] at h7;exact of_decide_eq_false h7) | simpa using h7
   refine Zg8 T (Zp (Zwn Z Z (T.e 0 Z) (by simp [h7]))) Z (fun _ T=>Zp (Zwn Z Z (T.e 1 Z) (by simp [h7]))) Z (fun _ T=>Zp (Zwn Z Z (T.e 2 Z) (by simp [h7]))) Z (fun _ T=>Zp (Zwn Z Z (T.e 3 Z) (by simp [h7]))) Z (fun _ T=>Zp (Zwn Z Z (T.e 4 Z) (by simp [h7]))) Z (fun _ T=>Zp (Zwn Z Z (T.e 5 Z) (by simp [h7]))) Z (fun _ T=>Zp (Zwn Z Z (T.e 6 Z) (by simp [h7]))) Z (fun _ T=>Zq (Zr1 Z (T.e 7 Z) (by simp [h7]) evc)) Z ?_;intro ac T
   refine wpList_nil ?_
   replace T:=T.pick [0,12,13,14] rfl
   exact ⟨(T.pick (E':=[(2,Zj g1),(5,.slice Au1 lsu1.length cu1),(6,Zj g2),(82,.bool true)]) [1,2,3,0] Z).as (by (try rw [show (!(decide (bf=3)))=true from (by simp [h7])]);(try rfl)),M.mask [true,true] Z⟩
  replace h7:bf=3:=by first | (rw [Bool.not_eq_false'] at h7;exact of_decide_eq_true h7) | simpa using h7
  refine Zg8 T (Zw (Zwy Z Z (T.e 0 Z) (by simp [h7])) (Zrm Z (T.e 5 Z))) Z (fun _ T=>Zw (Zwy Z Z (T.e 1 Z) (by simp [h7])) (Zrm Z (T.e 6 Z))) Z (fun _ T=>Zw (Zwy Z Z (T.e 2 Z) (by simp [h7])) (Zrl Z underlying37 (T.e 0 Z))) Z (fun _ T=>Zw (Zwy Z Z (T.e 3 Z) (by simp [h7])) (rn_sub Z (T.e 0 Z) evc (by omega))) Z (fun _ T=>Zw (Zwy Z Z (T.e 4 Z) (by simp [h7])) (Zri (size:=1) (lsu1.length - 1) Z (T.e 3 Z) (T.e 0 Z) ⟨_,underlying37,by kernel_rfl⟩ (by omega) (by omega) (Su1.at0 (by omega)))) Z (fun _ T=>Zw (Zwy Z Z (T.e 5 Z) (by simp [h7])) (rn_cell (Sp.stC0 Su1 M (.cons _ (.cons _ (subL (subL (List.Sublist.refl _))))) hzl) Z (T.e 0 Z))) Z (fun _ T=>Zw (Zwy Z Z (T.e 6 Z) (by simp [h7])) (rn_sneq Z (T.e 0 Z) evc)) Z (fun _ T=>Zq (Zr0 Z (T.e 7 Z) (by simp [h7]) (T.e 0 Z))) Z ?_;intro ac T
  refine wpList_nil ?_
  replace T:=T.pick [0,12,13,14] rfl
  exact ⟨(T.pick (E':=[(2,Zj g1),(5,.slice Au1 lsu1.length cu1),(6,Zj g2),(82,.bool (!(decide (zl=([])))))]) [1,2,3,0] Z).as (by (try rw [show (!(decide (bf=3)))=false from (by simp [h7])]);(try rfl)),M.mask [true,true] Z⟩
 clear T M
 rintro ac wc ⟨T,M⟩
 refine wp_cond_split (T.e 3 Z) ?_ ?_
 ·intro h8
  (have h8':=h8;try simp only [Zb1,Zb2,Zb3,Zb4,Zb5,Zb6,Zb7] at h8')
  refine Zsr ?_
  refine Zg3 (v1:=(.agg #[Zi 0,Zi 0,Zi 0,Zi 0,Zi 0,.slice none 0 0,.slice none 0 0,Zi 0,Zi 0,Zi 0,Zi 0,Zi 0,Zi 0,Zi 0,Zi 0,Zi 0,Zi 0,Zi 0,Zi 0,Zi 0,Zi 0])) T (Zq (rn_build Z .nil (fun _=>by kernel_rfl))) Z (Zm 2 Z Z) Z (Zl underlying37 0 Z Z) Z ?_;intro ac T
  refine Zl2 ?_
  refine Zot M T Z Z (T.e 3 Z) (T.e 2 Z) Z (.tail .head) Z Z ?_;clear M T;intro wc ac M T
  refine Zg2 T (Zq (Zra Z (T.e 0 Z))) Z (Zc Z) Z ?_;intro ac T
  refine wpList_nil ?_
  replace T:=T.pick [0,1,5] rfl
  replace M:=M.mask [false,true] rfl
  replace M:Mem w noEx wc ((g1,.cells Zb0)::(Iu1++Ia++Ib)):=M
  refine Znr ?_
  refine Zrt ?_
  refine rt_ctt M T Z (T.e 2 Z) (T.e 1 Z) (T.e 0 Z) (Zne (i:=0) Z) Z ?_
  have hb9:=endV_bad (l:=l) hzl (or_bad3 (bf:=bf) (by assumption))
  exact ReadB.zero (by rw [readR_short (by omega),← hlsu1,H,hb9]) M
 intro h8
 (have h8':=h8;try simp only [Zb1,Zb2,Zb3,Zb4,Zb5,Zb6,Zb7] at h8')
 refine Zsk ?_
 refine wp_seq ?_
 refine Zsr ?_
 refine lq T (Zrr (Mem.nth M 0 Z) Z (T.e 2 Z) Z) ?_;intro ac T
 refine Zl2 ?_
 refine Zod T Z Z Z Z evf (.cons (T.e 0 Z) .nil) func42 Z Z ?_
 refine Calls.mono (Check5_any b _ _ _ _ _ (SA9.rd M (.cons _ (.cons _ (subL (Zsq _ _))))) (SB9.rd M (.cons _ (.cons _ (Zsq _ _)))) (by omega) (by omega)) ?_
 clear T;rintro e wc ⟨rfl,hb⟩ ac T
 replace M:=M.call hb;clear hb
 refine lq T (Zra Z (T.e 0 Z)) ?_;intro ac T
 replace T:=T.pick [0,3,5] rfl
 refine Zln ?_
 refine Zsr ?_
 refine Zg2 T (Zq (Zrm Z (T.e 0 Z))) Z (fun _ T=>Zq (rn_neq Z (T.e 0 Z) evc)) Z ?_;intro ac T
 replace T:=T.pick [0,2,3,4] rfl
 refine Zln ?_
 refine wp_ifn (T.e 0 Z) ?_ ?_
 ·intro h9
  refine Zsr ?_
  refine Zg2 (v1:=(.agg #[Zi 0,Zi 0,Zi 0,Zi 0,Zi 0,.slice none 0 0,.slice none 0 0,Zi 0,Zi 0,Zi 0,Zi 0,Zi 0,Zi 0,Zi 0,Zi 0,Zi 0,Zi 0,Zi 0,Zi 0,Zi 0,Zi 0])) T (Zq (rn_build Z .nil (fun _=>by kernel_rfl))) Z (Zm 2 Z Z) Z ?_;intro ac T
  refine Zl2 ?_
  refine Zot M T Z Z (T.e 4 Z) (T.e 1 Z) Z (.tail .head) Z Z ?_;clear M T;intro wc ac M T
  refine Zg2 T (Zq (Zra Z evc)) Z (Za 1 Z Z) Z ?_;intro ac T
  refine wpList_nil ?_
  replace T:=T.pick [0,1,6] rfl
  replace M:=M.mask [false,true] rfl
  replace M:Mem w noEx wc ((g1,.cells Zb0)::(Iu1++Ia++Ib)):=M
  refine Znr ?_
  refine Zrt ?_
  refine rt_ctt M T Z (T.e 2 Z) (T.e 1 Z) (T.e 0 Z) (Zne (i:=0) Z) Z ?_
  have hb9:=endV_go (l:=l) hzl (or_go3 (bf:=bf) (by assumption))
  rw [← hj] at hb9
  have hr9:readV text=if checkB b≠0 then (zeroB,0,checkB b) else (b,0,0):=by rw [readR_short (by omega),← hlsu1,H];exact hb9
  rw [if_pos (by assumption)] at hr9
  exact ReadB.zero hr9 M
 intro h9
 refine Zsk ?_
 refine Zsr ?_
 refine lq T (Zrr (Mem.nth M 0 Z) Z (T.e 3 Z) Z) ?_;intro ac T
 refine Zl2 ?_
 refine Zot M T Z Z (T.e 3 Z) (T.e 0 Z) Z (.tail .head) Z Z ?_;clear M T;intro wc ac M T
 refine Zg2 T (Zq (Zra Z evc)) Z (Zc Z) Z ?_;intro ac T
 refine wpList_nil ?_
 replace T:=T.pick [0,1,5] rfl
 replace M:=M.mask [false,true] rfl
 replace M:Mem w noEx wc ((g1,.cells (bxM b (.slice A b.lows.length c) (.slice B b.highs.length d)))::(Iu1++Ia++Ib)):=M
 refine Znr ?_
 refine rt_ctt M T Z (T.e 2 Z) (T.e 1 Z) (T.e 0 Z) (Zne (i:=0) Z) Z ?_
 have hb9:=endV_go (l:=l) hzl (or_go3 (bf:=bf) (by assumption))
 rw [← hj] at hb9
 have hr9:readV text=if checkB b≠0 then (zeroB,0,checkB b) else (b,0,0):=by rw [readR_short (by omega),← hlsu1,H];exact hb9
 rw [if_neg (fun h=>h (by assumption))] at hr9
 rw [hr9]
 exact ⟨A,c,B,d,Ia,Ib,Z,hsA,hsB,(Mem.subS (L':=((Ia++Ib))) ((g1,.cells (bxM b (.slice A b.lows.length c) (.slice B b.highs.length d)))::Iu1) M (fun f=>by simp only [bxM,boxL,sumF_app,sumF_cons,sumF_nil,Zx6,Zx5,Zx4,Zx0,Zxa] <;> omega))⟩
theorem eqT77 {x y:Operand} {a0 a1 a2 a3 b0 b1 b2 b3:Int} {w:World}:(do eqGuard .eql 77 x y (.agg #[Zi a0,Zi a1,Zi a2,Zi a3]) (.agg #[Zi b0,Zi b1,Zi b2,Zi b3]);binOp .eql 77 (.agg #[Zi a0,Zi a1,Zi a2,Zi a3]) (.agg #[Zi b0,Zi b1,Zi b2,Zi b3]):Sem Value).run prog w=.ok (.bool ((decide (a0=b0) && (decide (a1=b1) && (decide (a2=b2) && decide (a3=b3)))))) w:=by
 go_simp
 (repeat' split) <;> simp_all
theorem eqT23 {x y:Operand} {a0 a1 a2 a3 b0 b1 b2 b3:Int} {w:World}:(do eqGuard .eql 23 x y (.agg #[Zi a0,Zi a1,Zi a2,Zi a3]) (.agg #[Zi b0,Zi b1,Zi b2,Zi b3]);binOp .eql 23 (.agg #[Zi a0,Zi a1,Zi a2,Zi a3]) (.agg #[Zi b0,Zi b1,Zi b2,Zi b3]):Sem Value).run prog w=.ok (.bool ((decide (a0=b0) && (decide (a1=b1) && (decide (a2=b2) && decide (a3=b3)))))) w:=by
 go_simp
 (repeat' split) <;> simp_all
theorem sameSounds_same (A D:Option Addr) (n c d:Nat) (l:List Snd) (w:World) (hr:Rd w w.heap.size 4 A n (sc l)) (hs:Rd w w.heap.size 4 D n (sc l)) (hn:n≤1000000) :
   Calls prog 54 #[.slice A n c,.slice D n d] w fun e w'=>e=.returned (.bool true)∧Below w.heap.size w w':=by
 have hl:=hr.len4
 obtain ⟨bJ,oJ,SJ⟩:=Sp.old hr
 obtain ⟨bI,oI,SI⟩:=Sp.old hs
 refine Zpx noEx func54 Z 31 Z [.slice A n c,.slice D n d] Z Z (Mem.init w _) ?_
 intro ac wc T M
 refine Zsr ?_
 refine lq T (Zra Z evc) ?_;intro ac T
 replace T:=T.pick [1,2] rfl
 refine Zln ?_
 refine Zsr ?_
 refine Zg6 (v5:=(.bool true)) T (Zq (Zrm Z (T.e 0 Z))) Z (Zl underlying24 0 Z Z) Z (Zm 3 Z Z) Z (Zl underlying24 0 Z Z) Z (fun _ T=>Zq (Zrq (rn_eql Z (T.e 2 Z) (T.e 0 Z)) (by simp))) Z (Za 0 Z Z) Z ?_;intro ac T
 replace T:=T.pick [0,6,7] rfl
 refine Zln ?_
 refine wp_seq ?_
 refine Zsr ?_
 refine lq T (Zra Z evc) ?_;intro ac T
 refine Zln ?_
 refine wp_block ?_
 refine wp_loop_n (fun mz ac wc=>∃ (k:Nat),mz=n - k∧(k≤n)∧Tm ac 31 [(0,.slice A n c),(1,.slice D n d),(5,.bool true),(6,Zi (k:Int))]∧Mem w noEx wc []) ?_ ?_
 ·exact ⟨_,0,Z,(Nat.zero_le _),T.pick [2,3,1,0] Z,M.mask [] Z⟩
 clear T M
 rintro mz ac wc ⟨k,hmm1,hk,T,M⟩
 refine wp_seq ?_
 refine Zsr ?_
 refine Zg7 T (Zq (Zrm Z (T.e 2 Z))) Z (Zm 0 Z Z) Z (fun _ T=>Zw (Zwy Z Z (T.e 0 Z) Z) (Zrm Z (T.e 5 Z))) Z (fun _ T=>Zw (Zwy Z Z (T.e 1 Z) Z) (Zrm Z (T.e 3 Z))) Z (fun _ T=>Zw (Zwy Z Z (T.e 2 Z) Z) (Zrl Z underlying24 (T.e 0 Z))) Z (fun _ T=>Zw (Zwy Z Z (T.e 3 Z) Z) (rn_lss Z (T.e 2 Z) (T.e 0 Z))) Z (fun _ T=>Zq (Zr1 Z (T.e 4 Z) Z (T.e 0 Z))) Z ?_;intro ac T
 replace T:=T.pick [0,1,2,3,4,7,8,9,10] rfl
 refine Zln ?_
 refine wp_if (T.e 0 Z) ?_ ?_
 ·intro h1
  obtain ⟨x,hkx,-⟩:=sc_next (l:=l) (k:=k) (by omega)
  refine Zsk ?_
  refine wp_seq ?_
  refine wp_block ?_
  refine Zgs M (M.mask [] Z) 10 (by kernel_rfl) Z (by kernel_rfl) ?_
  clear M;intro wc M
  refine Zgq T 0 1 Z (fun _=>(Zrm Z (T.e 5 Z))) ?_;intro ac T
  refine Zgq T 1 3 Z (fun _=>(Zrm Z (T.e 9 Z))) ?_;intro ac T
  refine Zgq T 2 7 Z (fun _=>(Zri (size:=4) k Z (T.e 1 Z) (T.e 0 Z) ⟨_,underlying24,by kernel_rfl⟩ Z (by omega) (SJ.at0 (by omega)))) ?_;intro ac T
  refine gq (v:=(.agg #[Zi x.t0,Zi x.t1,Zi x.s0,Zi x.s1])) T 3 15 Z (fun B w' hD hl hS=>(rn_rowat (Sp.scR4 SJ (show Mem w noEx w' _ from hS) (Zz9 _) hkx) Z (T.e 0 Z) Z)) ?_;intro ac T
  refine Zgq T 4 31 Z (fun _=>(Zrm Z (T.e 10 Z))) ?_;intro ac T
  refine Zgq T 5 63 Z (fun _=>(Zrm Z (T.e 13 Z))) ?_;intro ac T
  refine Zgq T 6 127 Z (fun _=>(Zri (size:=4) k Z (T.e 1 Z) (T.e 0 Z) ⟨_,underlying24,by kernel_rfl⟩ Z (by omega) (SI.at0 (by omega)))) ?_;intro ac T
  refine gq (v:=(.agg #[Zi x.t0,Zi x.t1,Zi x.s0,Zi x.s1])) T 7 255 Z (fun B w' hD hl hS=>(rn_rowat (Sp.scR4 SI (show Mem w noEx w' _ from hS) (Zz9 _) hkx) Z (T.e 0 Z) Z)) ?_;intro ac T
  refine Zgq (v:=(.bool true)) T 8 511 Z (fun _=>(Zrq (rn_bin Z (T.e 4 Z) (T.e 0 Z) eqT77) (by simp))) ?_;intro ac T
  refine g_q (v:=(.bool true)) (T:=T.pick [0,1,2,3,4,5,6,7,8,9,10,11,12,13,14,15,17] Z) (i:=9) Z (by kernel_rfl) (by kernel_rfl:(Zpb 10 511).setIfInBounds 9 true=Zpb 10 1023) si_U (fun _ _ _ h=>h) Z Z Z Z (fun _ _ _ _ _=>(Zra Z (T.e 0 Z))) ?_;intro ac T
  refine Zgd (by kernel_rfl) ?_
  replace T:=T.pick [0,11,12,13,14,15,16,17] rfl
  refine Znb ?_
  refine nm_then ?_
  refine wp_region_lit ?_
  refine Zg2 T (Zq (Zrm Z (T.e 7 Z))) Z (fun _ T=>Zq (rn_add Z (T.e 0 Z) evc (by omega))) Z ?_;intro ac T
  refine l_q (v:=(Zi ((k:Int)+1))) (T.pick [0,1,2,3,4,5,6,7,8] Z) Z Z Z Z (Zra Z (T.e 0 Z)) ?_;intro ac T
  replace T:=T.pick [0,3,4,5,6,7,8,9] rfl
  refine Zln ?_
  exact ⟨_,by omega,k+1,Z,(by omega),T.pick [6,7,1,0] Z,M.mask [] Z⟩
 intro h1
 refine wp_exit ?_
 refine Zet ?_
 refine Zet ?_
 refine ex_hit ?_
 refine nm_then ?_
 refine Zsr ?_
 refine Zg2 T (Zq (Zrm Z (T.e 7 Z))) Z (Za 0 Z Z) Z ?_;intro ac T
 replace T:=T.pick [0] rfl
 refine Zln ?_
 refine wp_ret ?_
 refine rt_1 T Z (T.e 0 Z) ?_
 exact ⟨rfl,M.below⟩
theorem sameBoxes_same (b:Bx) (A:Option Addr) (c:Nat) (B:Option Addr) (d:Nat) (A2:Option Addr) (c2:Nat) (B2:Option Addr) (d2:Nat) (w:World) (hA:Rd w w.heap.size 4 A b.lows.length (sc b.lows)) (hB:Rd w w.heap.size 4 B b.highs.length (sc b.highs)) (hA2:Rd w w.heap.size 4 A2 b.lows.length (sc b.lows)) (hB2:Rd w w.heap.size 4 B2 b.highs.length (sc b.highs)) (nA:b.lows.length≤1000000) (nB:b.highs.length≤1000000)  :
  Calls prog 15 #[bxV b A c B d,bxV b A2 c2 B2 d2] w fun e w'=>e=.returned (.bool true)∧Below w.heap.size w w':=by
 have hlA:=hA.len4
 have hlB:=hB.len4
 obtain ⟨bA,oA,SA⟩:=Sp.old hA
 obtain ⟨bB,oB,SB⟩:=Sp.old hB
 obtain ⟨bA2,oA2,SA2⟩:=Sp.old hA2
 obtain ⟨bB2,oB2,SB2⟩:=Sp.old hB2
 refine Zpx noEx func15 Z 59 Z [(bxV b A c B d),.agg #[Zi b.first,Zi b.step,Zi b.span,Zi b.press,Zi b.note,.slice A2 b.lows.length c2,.slice B2 b.highs.length d2,Zi b.t0,Zi b.t1,Zi b.r0,Zi b.r1,Zi b.u0,Zi b.u1,Zi b.d0,Zi b.d1,Zi b.a0,Zi b.a1,Zi b.b0,Zi b.b1,Zi b.le,Zi b.me]] Z Z (Mem.init w _) ?_
 intro ac wc T M
 refine Zsr ?_
 refine Zl2 ?_
 refine Zob M T Z Z Z Z (T.e 0 Z) Z ?_;clear M T;intro g1 wc ac M T
 refine Zl2 ?_
 refine Zob M T Z Z Z Z (T.e 2 Z) Z ?_;clear M T;intro g2 wc ac M T
 refine lq T (Zra Z evc) ?_;intro ac T
 replace T:=T.pick [1,2] rfl
 refine Zln ?_
 refine Zsr ?_
 refine Zg8 (v1:=(Zj g1)) (v3:=(Zj g2)) (v5:=(.bool true)) (v7:=(.pointer (some ⟨g1,4,none⟩))) T (Zq (Zrg 0 Z (T.e 1 Z))) Z (Zr M 1 0 Z Z Z Z) Z (Zf 0 2 Z Z) Z (Zr M 0 0 Z Z Z Z) Z (fun _ T=>Zq (Zrq (rn_bin Z (T.e 2 Z) (T.e 0 Z) eqT23) (by simp))) Z (Zm 0 Z Z) Z (fun _ T=>Zw (Zwy Z Z (T.e 0 Z) Z) (Zrg 4 Z (T.e 7 Z))) Z (fun _ T=>Zw (Zwy Z Z (T.e 1 Z) Z) (Zro (Mem.nth M 1 Z) Z (T.e 0 Z) Z)) Z ?_;intro ac T
 refine Zg8 (v1:=(.pointer (some ⟨g2,4,none⟩))) (v3:=(.bool true)) (v6:=(.pointer (some ⟨g1,7,none⟩))) (v8:=(.pointer (some ⟨g2,7,none⟩))) T (Zw (Zwy Z Z (T.e 2 Z) Z) (Zrg 4 Z (T.e 8 Z))) Z (fun _ T=>Zw (Zwy Z Z (T.e 3 Z) Z) (Zro (Mem.nth M 0 Z) Z (T.e 0 Z) Z)) Z (fun _ T=>Zw (Zwy Z Z (T.e 4 Z) Z) (Zrq (rn_eql Z (T.e 2 Z) (T.e 0 Z)) (by simp))) Z (fun _ T=>Zq (Zr1 Z (T.e 5 Z) Z (T.e 0 Z))) Z (Zm 0 Z Z) Z (fun _ T=>Zw (Zwy Z Z (T.e 0 Z) Z) (Zrg 7 Z (T.e 14 Z))) Z (fun _ T=>Zw (Zwy Z Z (T.e 1 Z) Z) (Zrr (Mem.nth M 1 Z) Z (T.e 0 Z) Z)) Z (fun _ T=>Zw (Zwy Z Z (T.e 2 Z) Z) (Zrg 7 Z (T.e 15 Z))) Z ?_;intro ac T
 refine Zg8 (v2:=(.bool true)) (v5:=(.pointer (some ⟨g1,9,none⟩))) (v7:=(.pointer (some ⟨g2,9,none⟩))) T (Zw (Zwy Z Z (T.e 3 Z) Z) (Zrr (Mem.nth M 0 Z) Z (T.e 0 Z) Z)) Z (fun _ T=>Zw (Zwy Z Z (T.e 4 Z) Z) (Zrq (rn_bin Z (T.e 2 Z) (T.e 0 Z) eqT26) (by simp))) Z (fun _ T=>Zq (Zr1 Z (T.e 5 Z) Z (T.e 0 Z))) Z (Zm 0 Z Z) Z (fun _ T=>Zw (Zwy Z Z (T.e 0 Z) Z) (Zrg 9 Z (T.e 21 Z))) Z (fun _ T=>Zw (Zwy Z Z (T.e 1 Z) Z) (Zrr (Mem.nth M 1 Z) Z (T.e 0 Z) Z)) Z (fun _ T=>Zw (Zwy Z Z (T.e 2 Z) Z) (Zrg 9 Z (T.e 22 Z))) Z (fun _ T=>Zw (Zwy Z Z (T.e 3 Z) Z) (Zrr (Mem.nth M 0 Z) Z (T.e 0 Z) Z)) Z ?_;intro ac T
 refine Zg8 (v1:=(.bool true)) (v4:=(.pointer (some ⟨g1,11,none⟩))) (v6:=(.pointer (some ⟨g2,11,none⟩))) (v8:=(.bool true)) T (Zw (Zwy Z Z (T.e 4 Z) Z) (Zrq (rn_bin Z (T.e 2 Z) (T.e 0 Z) eqT26) (by simp))) Z (fun _ T=>Zq (Zr1 Z (T.e 5 Z) Z (T.e 0 Z))) Z (Zm 0 Z Z) Z (fun _ T=>Zw (Zwy Z Z (T.e 0 Z) Z) (Zrg 11 Z (T.e 28 Z))) Z (fun _ T=>Zw (Zwy Z Z (T.e 1 Z) Z) (Zrr (Mem.nth M 1 Z) Z (T.e 0 Z) Z)) Z (fun _ T=>Zw (Zwy Z Z (T.e 2 Z) Z) (Zrg 11 Z (T.e 29 Z))) Z (fun _ T=>Zw (Zwy Z Z (T.e 3 Z) Z) (Zrr (Mem.nth M 0 Z) Z (T.e 0 Z) Z)) Z (fun _ T=>Zw (Zwy Z Z (T.e 4 Z) Z) (Zrq (rn_bin Z (T.e 2 Z) (T.e 0 Z) eqT28) (by simp))) Z ?_;intro ac T
 refine Zg8 (v3:=(.pointer (some ⟨g1,20,none⟩))) (v5:=(.pointer (some ⟨g2,20,none⟩))) (v7:=(.bool true)) T (Zq (Zr1 Z (T.e 5 Z) Z (T.e 0 Z))) Z (Zm 0 Z Z) Z (fun _ T=>Zw (Zwy Z Z (T.e 0 Z) Z) (Zrg 20 Z (T.e 35 Z))) Z (fun _ T=>Zw (Zwy Z Z (T.e 1 Z) Z) (Zro (Mem.nth M 1 Z) Z (T.e 0 Z) Z)) Z (fun _ T=>Zw (Zwy Z Z (T.e 2 Z) Z) (Zrg 20 Z (T.e 36 Z))) Z (fun _ T=>Zw (Zwy Z Z (T.e 3 Z) Z) (Zro (Mem.nth M 0 Z) Z (T.e 0 Z) Z)) Z (fun _ T=>Zw (Zwy Z Z (T.e 4 Z) Z) (Zrq (rn_eql Z (T.e 2 Z) (T.e 0 Z)) (by simp))) Z (fun _ T=>Zq (Zr1 Z (T.e 5 Z) Z (T.e 0 Z))) Z ?_;intro ac T
 refine Zg5 (v2:=(.pointer (some ⟨g1,5,none⟩))) (v4:=(.pointer (some ⟨g2,5,none⟩))) T (Zq (Zrm Z (T.e 0 Z))) Z (fun _ T=>Zw (Zwy Z Z (T.e 0 Z) Z) (Zrg 5 Z (T.e 42 Z))) Z (fun _ T=>Zw (Zwy Z Z (T.e 1 Z) Z) (Zro (Mem.nth M 1 Z) Z (T.e 0 Z) Z)) Z (fun _ T=>Zw (Zwy Z Z (T.e 2 Z) Z) (Zrg 5 Z (T.e 43 Z))) Z (fun _ T=>Zw (Zwy Z Z (T.e 3 Z) Z) (Zro (Mem.nth M 0 Z) Z (T.e 0 Z) Z)) Z ?_;intro ac T
 refine l_w (Zwy Z Z (T.e 4 Z) Z) ?_;intro K hK
 refine Zod T Z Z Z Z evf (.cons (T.e 2 Z) (.cons (T.e 0 Z) .nil)) func54 Z Z ?_
 refine Calls.mono (sameSounds_same _ _ _ _ _ b.lows _ (SA.rd M (Zz9 _)) (SA2.rd M (Zz9 _)) (by omega)) ?_
 clear T;rintro e wc ⟨rfl,hb⟩ ac T
 replace M:=M.call hb;clear hb
 refine Zso hK _ _ ?_;clear hK K
 refine Zg6 (v3:=(.pointer (some ⟨g1,6,none⟩))) (v5:=(.pointer (some ⟨g2,6,none⟩))) T (Zq (Zr1 Z (T.e 5 Z) Z (T.e 0 Z))) Z (Zm 0 Z Z) Z (fun _ T=>Zw (Zwy Z Z (T.e 0 Z) Z) (Zrg 6 Z (T.e 49 Z))) Z (fun _ T=>Zw (Zwy Z Z (T.e 1 Z) Z) (Zro (Mem.nth M 1 Z) Z (T.e 0 Z) Z)) Z (fun _ T=>Zw (Zwy Z Z (T.e 2 Z) Z) (Zrg 6 Z (T.e 50 Z))) Z (fun _ T=>Zw (Zwy Z Z (T.e 3 Z) Z) (Zro (Mem.nth M 0 Z) Z (T.e 0 Z) Z)) Z ?_;intro ac T
 refine l_w (Zwy Z Z (T.e 4 Z) Z) ?_;intro K hK
 refine Zod T Z Z Z Z evf (.cons (T.e 2 Z) (.cons (T.e 0 Z) .nil)) func54 Z Z ?_
 refine Calls.mono (sameSounds_same _ _ _ _ _ b.highs _ (SB.rd M (Zz9 _)) (SB2.rd M (Zz9 _)) (by omega)) ?_
 clear T;rintro e wc ⟨rfl,hb⟩ ac T
 replace M:=M.call hb;clear hb
 refine Zso hK _ _ ?_;clear hK K
 refine Zg2 T (Zq (Zr1 Z (T.e 5 Z) Z (T.e 0 Z))) Z (Za 0 Z Z) Z ?_;intro ac T
 refine wpList_nil ?_
 replace T:=T.pick [0] rfl
 replace M:=M.mask [false,false] rfl
 refine Znr ?_
 refine rt_1 T Z (T.e 0 Z) ?_
 exact ⟨rfl,M.below⟩
section
variable {P:Program} {op:Oper} {a:Act} {w w0:World} {ex:Nat→Prop} {L:List (Nat×BA)} {df:List Deferred} {nn:Nat} {E:List (Nat×Value)} {t:Tmp} {K:Act→World→Prop} {Q:Exit→Act→World→Prop}
theorem ow_b2s {src dst e:TypeId} {x:Operand} {g c:Nat} {b:UInt8} (M:Mem w0 ex w L) (T:TmD df a nn E) (hm:(g,BA.cells [.int .u8 ((b.toNat:Nat):Int)])∈L) (ho:op.op=.convert src dst x) (hd:op.dst=some t) (hf:freshE E t=true) (hn:Nat.blt t nn=true) (hx:a.eval x=.slice (some ⟨g,0,none⟩) 1 c)
  (hs:P.underlying src=some (.slice e)) (he:P.underlying e=some (.int .u8)) (ht:P.underlying dst=some .string) (h:∀ a',TmD df a' nn ((t,sv [b])::E)→K a' w):op.wp P a w K Q:=by
 have hr:=(M.get hm).range
 have hcv:=run_convert_bytes_arg (P:=P) w src e hs he g 0 1 c [((b.toNat:Nat):Int)] rfl (fun i hi=>by
  obtain rfl:i=0:=by omega
  exact hr 0 _ Z) dst ht
 have hv:Value.string (strOfNums [((b.toNat:Nat):Int)])=sv [b]:=by
  show Value.string ⟨([((b.toNat:Nat):Int)].map fun n=>UInt8.ofNat n.toNat).toArray⟩=Value.string ⟨[b].toArray⟩
  simp
 unfold Oper.wp execOp
 simp only [ho,hx,hcv,Sem.run_bind,Result.andThen_ok,Sem.run_pure]
 rw [Oper.upon_value,hd,hv]
 exact h _ (T.put hn hf _)
end
theorem cutS_len {l:List UInt8} {p q:Nat} (h:p≤q) (h2:q≤l.length):(cutS l p q).length=q - p:=by
 unfold cutS
 rw [List.length_take,List.length_drop]
 omega
def HarmP (s:List UInt8) (w:World) (e:Ending) (w':World):Prop:=∃ h:List UInt8,h.length≤s.length+1∧e=.returned (sv h)∧Below w.heap.size w w'
def ReadX (b:Bx) (l err:Int) (w:World) (e:Ending) (w':World):Prop:=∃ (A:Option Addr) (c:Nat) (B:Option Addr) (d:Nat) (Ia Ib:List (Nat×BA)),e=.returned (.tuple #[bxV b A c B d,Zi l,Zi err])∧Sl 77 4 (.slice A b.lows.length c) b.lows.length (sc b.lows) Ia∧Sl 77 4 (.slice B b.highs.length d) b.highs.length (sc b.highs) Ib∧Mem w noEx w' (Ia++Ib)
theorem readX_any {s:List UInt8} {b:Bx} {l err:Int} (h:readV s=(b,l,err)) (w:World) (hT:StrW w):Calls prog 13 #[sv s] w (ReadX b l err w):=by
 have h2:=vread_any s w hT
 rw [h] at h2
 exact h2
theorem rreadX_any {s:List UInt8} {b:Bx} {l err:Int} (h:readV s=(b,l,err)) (w:World):Calls prog 14 #[sv s] w (ReadX b l err w):=by
 have h2:=rread_any s w
 rw [h] at h2
 exact h2
theorem wrV_len (b:Bx):(wrV b).length≤500:=by
 unfold wrV
 split
 ·rename_i h
  have g:=checkB_good.1 h
  exact writeV_len g.sm g.lows.1 g.highs.1
 ·exact Nat.zero_le _
theorem readV_sh (s:List UInt8):(readV s).1.lows.length≤4∧(readV s).1.highs.length≤5:=by
 have key:∀ rows r,(endV rows r).1.lows.length≤4∧(endV rows r).1.highs.length≤5:=by
  intro rows r
  unfold endV
  split
  ·exact ⟨Nat.zero_le _,Nat.zero_le _⟩
  ·split
   ·exact ⟨Nat.zero_le _,Nat.zero_le _⟩
   ·split
    ·exact ⟨Nat.zero_le _,Nat.zero_le _⟩
    ·rename_i h
     have g:=checkB_good.1 (by simpa using h)
     exact ⟨g.lows.1,g.highs.1⟩
 unfold readV
 split
 ·exact ⟨Nat.zero_le _,Nat.zero_le _⟩
 ·exact key _ _
theorem harmed_any (s:List UInt8) (x y:Int) (b:UInt8) (w:World) (hs:s.length≤1000) :
   Calls prog 12 #[sv s,Zi x,Zi y,.int .u8 ((b.toNat:Nat):Int)] w (HarmP s w):=by
 refine Zpx noEx func12 Z 53 Z [sv s,Zi x,Zi y,.int .u8 ((b.toNat:Nat):Int)] Z Z (Mem.init w _) ?_
 intro ac wc T M
 refine Zsr ?_
 refine lq T (Zra Z evc) ?_;intro ac T
 replace T:=T.pick [1,2,3,4] rfl
 refine Zln ?_
 refine wp_seq ?_
 refine Zsr ?_
 refine Zg2 T (Zq (Zrm Z (T.e 0 Z))) Z (fun _ T=>Zq (rn_seql Z (T.e 0 Z) evc)) Z ?_;intro ac T
 replace T:=T.pick [0,2,3,4,5] rfl
 refine Zln ?_
 refine wp_if (T.e 0 Z) ?_ ?_
 ·intro h1
  refine Zsr ?_
  refine Zg2 T (Zq (Zrm Z (T.e 1 Z))) Z (Za 0 Z Z) Z ?_;intro ac T
  replace T:=T.pick [0] rfl
  refine Zln ?_
  refine wp_ret ?_
  refine Zrt ?_
  refine rt_1 T Z (T.e 0 Z) ?_
  exact ⟨s,(by omega),Z,M.below⟩
 intro h1
 have hpos:0 < s.length:=List.length_pos_iff.2 (by assumption)
 refine Zsk ?_
 refine Zsr ?_
 refine Zg3 T (Zq (Zrm Z (T.e 2 Z))) Z (Zm 2 Z Z) Z (fun _ T=>Zq (rn_slen Z underlying9 (T.e 0 Z))) Z ?_;intro ac T
 refine Zl2 ?_
 refine Zod T Z Z Z Z evf (.cons (T.e 2 Z) (.cons (T.e 0 Z) .nil)) func45 Z Z ?_
 refine Calls.mono (turn_any x s.length _ (by omega) (by omega)) ?_
 clear T;rintro e wc ⟨ku1,rfl,hku1,hb⟩ ac T
 replace M:=M.call hb;clear hb
 have hc1:=cutS_len (l:=s) (p:=0) (q:=ku1) (by omega) (by omega)
 have hc2:=cutS_len (l:=s) (p:=ku1+1) (q:=s.length) (by omega) (by omega)
 have hc3:=cutS_len (l:=s) (p:=ku1) (q:=s.length) (by omega) (by omega)
 refine lq T (Zra Z (T.e 0 Z)) ?_;intro ac T
 replace T:=T.pick [0,6,8,9] rfl
 refine Zln ?_
 refine wp_seq ?_
 refine Zsr ?_
 refine lq T (Zrm Z (T.e 2 Z)) ?_;intro ac T
 replace T:=T.pick [0,1,2,4] rfl
 refine Zln ?_
 refine wp_block ?_
 refine Zsr ?_
 refine Zg2 T (Zq (rn_eql Z (T.e 0 Z) evc)) Z (Za 0 Z Z) Z ?_;intro ac T
 replace T:=T.pick [0,2,3,4,5] rfl
 refine Zln ?_
 refine wp_if (T.e 0 Z) ?_ ?_
 ·intro h2
  refine wp_seq ?_
  refine Zgs M (M.mask [] Z) 13 (by kernel_rfl) Z (by kernel_rfl) ?_
  clear M;intro wc M
  refine Zgq T 0 1 Z (fun _=>(Zrm Z (T.e 3 Z))) ?_;intro ac T
  refine Zgq T 1 3 Z (fun _=>(Zrm Z (T.e 3 Z))) ?_;intro ac T
  refine Zgq T 2 7 Z (fun _=>(rn_sslice (p:=0) (q:=ku1) Z underlying9 (T.e 1 Z) Z (T.e 0 Z) (by omega) (by omega))) ?_;intro ac T
  refine Zgq T 3 15 Z (fun _=>(Zrm Z (T.e 7 Z))) ?_;intro ac T
  refine Zgq T 7 143 Z (fun _=>(Zrm Z (T.e 7 Z))) ?_;intro ac T
  refine Zgq T 8 399 Z (fun _=>(Zrm Z (T.e 7 Z))) ?_;intro ac T
  refine Zgq T 9 911 Z (fun _=>(rn_add Z (T.e 0 Z) evc (by omega))) ?_;intro ac T
  refine Zgq T 10 1935 Z (fun _=>(rn_sslice (p:=(ku1+1)) (q:=s.length) Z underlying9 (T.e 2 Z) ((T.e 0 Z).trans (congrArg (Value.int .i64) (by omega))) Z (by omega) (by omega))) ?_;intro ac T
  refine gw 4 1951 ?_;intro K hK
  refine ow_bs (e:=5) [.int .u8 ((b.toNat:Nat):Int)] M T Z Z Z Z (.cons (T.e 4 Z) .nil) (fun _=>by kernel_rfl) ?_;clear M T;intro g1 wc ac M T
  refine Zso hK _ _ (M.mask [false] Z) ?_;clear hK K
  refine gw 5 1983 ?_;intro K hK
  refine ow_b2s (b:=b) (c:=1) M T (Zne (i:=0) Z) Z Z Z Z (T.e 0 Z) underlying93 underlying5 underlying9 ?_;clear T;intro ac T
  refine Zso hK _ _ (M.mask [false] Z) ?_;clear hK K
  refine Zgq T 6 2047 Z (fun _=>(rn_sadd Z (T.e 7 Z) (T.e 0 Z) (by (try simp only [Zx3,Zx1,Zx2]);omega))) ?_;intro ac T
  refine Zgq T 11 4095 Z (fun _=>(rn_sadd Z (T.e 0 Z) (T.e 3 Z) (by (try simp only [Zx3,Zx1,Zx2]);omega))) ?_;intro ac T
  refine Zgq T 12 8191 Z (fun _=>(Zra Z (T.e 0 Z))) ?_;intro ac T
  refine Zgd (by kernel_rfl) ?_
  replace T:=T.pick [0] rfl
  replace M:=M.mask [false] rfl
  refine Znr ?_
  refine Zrb ?_
  refine Zrt ?_
  refine rt_1 T Z (T.e 0 Z) ?_
  exact ⟨(((cutS s 0 ku1)++([b]))++(cutS s (ku1+1) s.length)),(by simp only [Zx3,Zx1,Zx2];omega),Z,M.below⟩
 intro h2
 refine Zsr ?_
 refine Zg2 T (Zq (rn_eql Z (T.e 1 Z) evc)) Z (Za 0 Z Z) Z ?_;intro ac T
 replace T:=T.pick [0,4,5,6] rfl
 refine Zln ?_
 refine wp_if (T.e 0 Z) ?_ ?_
 ·intro h3
  refine wp_seq ?_
  refine Zgs M (M.mask [] Z) 9 (by kernel_rfl) Z (by kernel_rfl) ?_
  clear M;intro wc M
  refine Zgq T 0 1 Z (fun _=>(Zrm Z (T.e 2 Z))) ?_;intro ac T
  refine Zgq T 1 3 Z (fun _=>(Zrm Z (T.e 2 Z))) ?_;intro ac T
  refine Zgq T 2 7 Z (fun _=>(rn_sslice (p:=0) (q:=ku1) Z underlying9 (T.e 1 Z) Z (T.e 0 Z) (by omega) (by omega))) ?_;intro ac T
  refine Zgq T 3 15 Z (fun _=>(Zrm Z (T.e 5 Z))) ?_;intro ac T
  refine Zgq T 4 31 Z (fun _=>(Zrm Z (T.e 5 Z))) ?_;intro ac T
  refine Zgq T 5 63 Z (fun _=>(rn_add Z (T.e 0 Z) evc (by omega))) ?_;intro ac T
  refine Zgq T 6 127 Z (fun _=>(rn_sslice (p:=(ku1+1)) (q:=s.length) Z underlying9 (T.e 2 Z) ((T.e 0 Z).trans (congrArg (Value.int .i64) (by omega))) Z (by omega) (by omega))) ?_;intro ac T
  refine Zgq T 7 255 Z (fun _=>(rn_sadd Z (T.e 4 Z) (T.e 0 Z) (by (try simp only [Zx3,Zx1,Zx2]);omega))) ?_;intro ac T
  refine Zgq T 8 511 Z (fun _=>(Zra Z (T.e 0 Z))) ?_;intro ac T
  refine Zgd (by kernel_rfl) ?_
  replace T:=T.pick [0] rfl
  refine Znr ?_
  refine Zrb ?_
  refine Zrt ?_
  refine rt_1 T Z (T.e 0 Z) ?_
  exact ⟨((cutS s 0 ku1)++(cutS s (ku1+1) s.length)),(by simp only [Zx3,Zx1,Zx2];omega),Z,M.below⟩
 intro h3
 refine wp_skip ?_
 refine Znb ?_
 refine Zns ?_
 refine Zgs M (M.mask [] Z) 12 (by kernel_rfl) Z (by kernel_rfl) ?_
 clear M;intro wc M
 refine Zgq T 0 1 Z (fun _=>(Zrm Z (T.e 2 Z))) ?_;intro ac T
 refine Zgq T 1 3 Z (fun _=>(Zrm Z (T.e 2 Z))) ?_;intro ac T
 refine Zgq T 2 7 Z (fun _=>(rn_sslice (p:=0) (q:=ku1) Z underlying9 (T.e 1 Z) Z (T.e 0 Z) (by omega) (by omega))) ?_;intro ac T
 refine Zgq T 3 15 Z (fun _=>(Zrm Z (T.e 6 Z))) ?_;intro ac T
 refine Zgq T 7 143 Z (fun _=>(Zrm Z (T.e 6 Z))) ?_;intro ac T
 refine Zgq T 8 399 Z (fun _=>(Zrm Z (T.e 6 Z))) ?_;intro ac T
 refine Zgq T 9 911 Z (fun _=>(rn_sslice (p:=ku1) (q:=s.length) Z underlying9 (T.e 1 Z) (T.e 0 Z) Z (by omega) (by omega))) ?_;intro ac T
 refine gw 4 927 ?_;intro K hK
 refine ow_bs (e:=5) [.int .u8 ((b.toNat:Nat):Int)] M T Z Z Z Z (.cons (T.e 3 Z) .nil) (fun _=>by kernel_rfl) ?_;clear M T;intro g2 wc ac M T
 refine Zso hK _ _ (M.mask [false] Z) ?_;clear hK K
 refine gw 5 959 ?_;intro K hK
 refine ow_b2s (b:=b) (c:=1) M T (Zne (i:=0) Z) Z Z Z Z (T.e 0 Z) underlying93 underlying5 underlying9 ?_;clear T;intro ac T
 refine Zso hK _ _ (M.mask [false] Z) ?_;clear hK K
 refine Zgq T 6 1023 Z (fun _=>(rn_sadd Z (T.e 6 Z) (T.e 0 Z) (by (try simp only [Zx3,Zx1,Zx2]);omega))) ?_;intro ac T
 refine Zgq T 10 2047 Z (fun _=>(rn_sadd Z (T.e 0 Z) (T.e 3 Z) (by (try simp only [Zx3,Zx1,Zx2]);omega))) ?_;intro ac T
 refine Zgq T 11 4095 Z (fun _=>(Zra Z (T.e 0 Z))) ?_;intro ac T
 refine Zgd (by kernel_rfl) ?_
 replace T:=T.pick [0] rfl
 replace M:=M.mask [false] rfl
 refine Znr ?_
 refine rt_1 T Z (T.e 0 Z) ?_
 exact ⟨(((cutS s 0 ku1)++([b]))++(cutS s ku1 s.length)),(by simp only [Zx3,Zx1,Zx2];omega),Z,M.below⟩
open Go.RowKit
end Go.Proofs.YtaikhendogcflaaGreatDoor


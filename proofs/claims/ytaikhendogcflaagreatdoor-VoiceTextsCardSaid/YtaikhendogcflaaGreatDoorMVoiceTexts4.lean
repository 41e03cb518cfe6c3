/-
  Walks of functions,and plain laws (texts put together). No condition.
-/
import Derived.Scope
import Derived.WalkMore
import Derived.Test.YtaikhendogcflaaGreatDoorMVoiceTexts1
import Derived.Test.YtaikhendogcflaaGreatDoorMVoiceTexts2
import Derived.Test.YtaikhendogcflaaGreatDoorMVoiceTexts3
set_option maxRecDepth 100000
set_option maxHeartbeats 1000000
set_option linter.unusedSimpArgs false
set_option linter.unusedVariables false
namespace Go.Proofs.YtaikhendogcflaaGreatDoor
open Go.Proofs.Tryz
open Go.RowKit
def thinJ (j:Jb) (p0 p1 t r:Int):St:=⟨p0,p1,j.t0 - t * j.a1,j.t1 - t * j.a0,j.r0 - r * j.b1,j.r1 - r * j.b0,j.u0,j.u1,j.d0,j.d1,j.a0,j.a1,j.b0,j.b1,j.le⟩
def okT (j:Jb) (t r:Int):Bool:=(thinJ j 0 0 t r).spoiled == 2
abbrev kn5 (p0 p1 t r lf:Int):Value:=.agg #[.int .i64 p0,.int .i64 p1,.int .i64 t,.int .i64 r,.int .i64 lf]
theorem mul_bd {i a:Int} (h0:0≤i) (h1:i≤2000) (h2:0≤a) (h3:a≤12):0≤i * a∧i * a≤24000:=by
 refine ⟨Int.mul_nonneg h0 h2,?_⟩
 have:=Int.mul_le_mul h1 h3 h2 (by omega:(0:Int)≤2000)
 omega
theorem mul_suc (i a:Int):(i+1) * a=i * a+a:=by rw [Int.add_mul];omega
theorem filed_tip_x (p0 p1 t0 t1 r0 r1 u0 u1 d0 d1 a0 a1 b0 b1 le:Int) (w:World) (h:St.ok ⟨p0,p1,t0,t1,r0,r1,u0,u1,d0,d1,a0,a1,b0,b1,le⟩) :
  Calls prog 256 #[.agg #[.int .i64 p0,.int .i64 p1,.int .i64 t0,.int .i64 t1,.int .i64 r0,.int .i64 r1,.int .i64 u0,.int .i64 u1,.int .i64 d0,.int .i64 d1,.int .i64 a0,.int .i64 a1,.int .i64 b0,.int .i64 b1,.int .i64 le],.int .i64 1] w fun e w'=>e=.returned (.agg #[.int .i64 (p0+u0),.int .i64 (p1+u1),.int .i64 (t0 - a1),.int .i64 (t1 - a0),.int .i64 r0,.int .i64 r1,.int .i64 u0,.int .i64 u1,.int .i64 d0,.int .i64 d1,.int .i64 a0,.int .i64 a1,.int .i64 b0,.int .i64 b1,.int .i64 le])∧Below w.heap.size w w':=filed_tip ⟨p0,p1,t0,t1,r0,r1,u0,u1,d0,d1,a0,a1,b0,b1,le⟩ w h
theorem filed_root_x (p0 p1 t0 t1 r0 r1 u0 u1 d0 d1 a0 a1 b0 b1 le:Int) (w:World) (h:St.ok ⟨p0,p1,t0,t1,r0,r1,u0,u1,d0,d1,a0,a1,b0,b1,le⟩) :
  Calls prog 256 #[.agg #[.int .i64 p0,.int .i64 p1,.int .i64 t0,.int .i64 t1,.int .i64 r0,.int .i64 r1,.int .i64 u0,.int .i64 u1,.int .i64 d0,.int .i64 d1,.int .i64 a0,.int .i64 a1,.int .i64 b0,.int .i64 b1,.int .i64 le],.int .i64 2] w fun e w'=>e=.returned (.agg #[.int .i64 (p0 - d1),.int .i64 (p1 - d0),.int .i64 t0,.int .i64 t1,.int .i64 (r0 - b1),.int .i64 (r1 - b0),.int .i64 u0,.int .i64 u1,.int .i64 d0,.int .i64 d1,.int .i64 a0,.int .i64 a1,.int .i64 b0,.int .i64 b1,.int .i64 le])∧Below w.heap.size w w':=filed_root ⟨p0,p1,t0,t1,r0,r1,u0,u1,d0,d1,a0,a1,b0,b1,le⟩ w h
set_option maxHeartbeats 2000000 in
theorem moved_tip (j:Jb) (A:Option Addr) (c:Nat) (s0 s1:Int) (bg bx:Nat) (p0 p1 t r lf:Int) (w:World) (hg:j.good) (hp0 : -100000≤p0∧p0≤100000) (hp1 : -100000≤p1∧p1≤100000) (ht:0≤t∧t≤1000) (hr:0≤r∧r≤1000) (hl:1≤lf∧lf≤1000) :
   Calls prog 235 #[.agg (gmA j A c s0 s1 bg bx).toArray,kn5 p0 p1 t r lf,.int .i64 1] w fun e w'=>e=.returned (.tuple #[kn5 (p0+j.u0) (p1+j.u1) (t+1) r (lf - 1),.bool (okT j (t+1) (r))])∧Below w.heap.size w w':=by
 obtain ⟨g1,g2,g3,g4,g5,g6,g7,g8,-,-,-,-⟩:=hg
 go_enter func235,Tryz.ntmps235
 refine start noEx ?_
 intro wc M
 go_wp2_with (first | (refine Zm1 M rfl rfl rfl ?_) | (refine Zm2 M rfl rfl rfl ?_) | (refine Zm3 M rfl rfl rfl ?_;clear M;(try clear wc);intro wc M) | (refine m_al M rfl rfl ?_;clear M;(try clear wc);intro g wc M) | (refine Zm4 M rfl rfl ?_;clear M;(try clear wc);intro g wc M) | (go_at_call 256;((with_reducible refine (filed_tip_x p0 p1 j.t0 j.t1 j.r0 j.r1 j.u0 j.u1 j.d0 j.d1 j.a0 j.a1 j.b0 j.b1 j.le _ ?_).mono ?_);(constructor <;> dsimp only <;> omega);rintro e wc ⟨rfl,hb⟩;replace M:=M.call hb;clear hb)))
 rename_i gG gK gR gS wq K0 hK0
 go_loopw [44] (fun v wr=>∃ i:Int,0≤i∧i≤t+1∧v=.int .i64 i∧Mem w noEx wr [(gS,.cells [.int .i64 p0,.int .i64 p1,.int .i64 (j.t0 - i * j.a1),.int .i64 (j.t1 - i * j.a0),.int .i64 (j.r0 - 0 * j.b1),.int .i64 (j.r1 - 0 * j.b0),.int .i64 j.u0,.int .i64 j.u1,.int .i64 j.d0,.int .i64 j.d1,.int .i64 j.a0,.int .i64 j.a1,.int .i64 j.b0,.int .i64 j.b1,.int .i64 j.le]),(gR,.cells [.int .i64 0,.int .i64 0,.int .i64 0,.int .i64 0,.int .i64 0]),(gK,.cells [.int .i64 (p0+j.u0),.int .i64 (p1+j.u1),.int .i64 (t+1),.int .i64 (r),.int .i64 (lf - 1)])]) (fun v _=>(t+1 - intOf v).toNat)
 case atStart=>exact ⟨0,by omega,by omega,rfl,by simp only [Int.zero_mul,Int.sub_zero];exact M.sub (by (repeat (first | exact List.Sublist.slnil | apply List.Sublist.cons_cons | apply List.Sublist.cons)))⟩
 case round =>
   clear M wc
   obtain ⟨i,hi0,hi1,rfl,M⟩:=hrel
   obtain ⟨wc,rfl⟩:∃ x:World,x=wr:=⟨_,rfl⟩
   have m1:=mul_bd hi0 (by omega) (by omega:0≤j.a1) (by omega)
   have m2:=mul_bd hi0 (by omega) (by omega:0≤j.a0) (by omega)
   by_cases hlt:i < t+1
   · have e1:=mul_suc i j.a1
     have e2:=mul_suc i j.a0
     have E:Hid (Value.int .i64 (j.t0 - i * j.a1 - j.a1)=.int .i64 (j.t0 - (i+1) * j.a1)∧Value.int .i64 (j.t1 - i * j.a0 - j.a0)=.int .i64 (j.t1 - (i+1) * j.a0)):=⟨by rw [e1];congr 1;omega,by rw [e2];congr 1;omega⟩
     clear e1 e2
     go_wp2_with (first | (refine Zm1 M rfl rfl rfl ?_) | (refine Zm2 M rfl rfl rfl ?_) | (refine Zm3 M rfl rfl rfl ?_;clear M;(try clear wc);intro wc M) | (refine m_al M rfl rfl ?_;clear M;(try clear wc);intro g wc M) | (refine Zm4 M rfl rfl ?_;clear M;(try clear wc);intro g wc M) | (go_at_call 257;((with_reducible refine (less_any _ _ _ _ _ (by omega) (by omega) (by omega) (by omega)).mono ?_);skip;rintro e wc ⟨rfl,hb⟩;replace M:=M.call hb;clear hb)))
     go_roundw
     case rel=>exact ⟨i+1,by omega,by omega,rfl,by rw [E.out.1,E.out.2] at M;exact M⟩
     case measure=>simp [intOf];omega
   · have ei:t+1=i:=(by omega);subst ei
     go_wp2_with (first | (refine Zm1 M rfl rfl rfl ?_) | (refine Zm2 M rfl rfl rfl ?_) | (refine Zm3 M rfl rfl rfl ?_;clear M;(try clear wc);intro wc M) | (refine m_al M rfl rfl ?_;clear M;(try clear wc);intro g wc M) | (refine Zm4 M rfl rfl ?_;clear M;(try clear wc);intro g wc M))
     go_loopw [58] (fun v wr=>∃ i:Int,0≤i∧i≤r∧v=.int .i64 i∧Mem w noEx wr [(gS,.cells [.int .i64 p0,.int .i64 p1,.int .i64 (j.t0 - (t+1) * j.a1),.int .i64 (j.t1 - (t+1) * j.a0),.int .i64 (j.r0 - i * j.b1),.int .i64 (j.r1 - i * j.b0),.int .i64 j.u0,.int .i64 j.u1,.int .i64 j.d0,.int .i64 j.d1,.int .i64 j.a0,.int .i64 j.a1,.int .i64 j.b0,.int .i64 j.b1,.int .i64 j.le]),(gR,.cells [.int .i64 0,.int .i64 0,.int .i64 0,.int .i64 0,.int .i64 0]),(gK,.cells [.int .i64 (p0+j.u0),.int .i64 (p1+j.u1),.int .i64 (t+1),.int .i64 (r),.int .i64 (lf - 1)])]) (fun v _=>(r - intOf v).toNat)
     case atStart=>exact ⟨0,by omega,by omega,rfl,by simp only [Int.zero_mul,Int.sub_zero] at M ⊢;exact M⟩
     case round =>
       clear M wc
       obtain ⟨i,hi0,hi1,rfl,M⟩:=hrel
       obtain ⟨wc,rfl⟩:∃ x:World,x=wr:=⟨_,rfl⟩
       have m3:=mul_bd hi0 (by omega) (by omega:0≤j.b1) (by omega)
       have m4:=mul_bd hi0 (by omega) (by omega:0≤j.b0) (by omega)
       by_cases hlt:i < r
       · have e1:=mul_suc i j.b1
         have e2:=mul_suc i j.b0
         have E:Hid (Value.int .i64 (j.r0 - i * j.b1 - j.b1)=.int .i64 (j.r0 - (i+1) * j.b1)∧Value.int .i64 (j.r1 - i * j.b0 - j.b0)=.int .i64 (j.r1 - (i+1) * j.b0)):=⟨by rw [e1];congr 1;omega,by rw [e2];congr 1;omega⟩
         clear e1 e2
         go_wp2_with (first | (refine Zm1 M rfl rfl rfl ?_) | (refine Zm2 M rfl rfl rfl ?_) | (refine Zm3 M rfl rfl rfl ?_;clear M;(try clear wc);intro wc M) | (refine m_al M rfl rfl ?_;clear M;(try clear wc);intro g wc M) | (refine Zm4 M rfl rfl ?_;clear M;(try clear wc);intro g wc M) | (go_at_call 257;((with_reducible refine (less_any _ _ _ _ _ (by omega) (by omega) (by omega) (by omega)).mono ?_);skip;rintro e wc ⟨rfl,hb⟩;replace M:=M.call hb;clear hb)))
         go_roundw
         case rel=>exact ⟨i+1,by omega,by omega,rfl,by rw [E.out.1,E.out.2] at M;exact M⟩
         case measure=>simp [intOf];omega
       · have ei:r=i:=(by omega);subst ei
         go_wp2_with (first | (refine Zm1 M rfl rfl rfl ?_) | (refine Zm2 M rfl rfl rfl ?_) | (refine Zm3 M rfl rfl rfl ?_;clear M;(try clear wc);intro wc M) | (refine m_al M rfl rfl ?_;clear M;(try clear wc);intro g wc M) | (refine Zm4 M rfl rfl ?_;clear M;(try clear wc);intro g wc M))
         refine wp_region_G (fun L W=>(L.getD 4 true=false→Mem w noEx W [(gS,.cells [.int .i64 p0,.int .i64 p1,.int .i64 (j.t0 - (t+1) * j.a1),.int .i64 (j.t1 - (t+1) * j.a0),.int .i64 (j.r0 - r * j.b1),.int .i64 (j.r1 - r * j.b0),.int .i64 j.u0,.int .i64 j.u1,.int .i64 j.d0,.int .i64 j.d1,.int .i64 j.a0,.int .i64 j.a1,.int .i64 j.b0,.int .i64 j.b1,.int .i64 j.le]),(gR,.cells [.int .i64 0,.int .i64 0,.int .i64 0,.int .i64 0,.int .i64 0]),(gK,.cells [.int .i64 (p0+j.u0),.int .i64 (p1+j.u1),.int .i64 (t+1),.int .i64 (r),.int .i64 (lf - 1)])])∧(L.getD 4 true=true→Mem w noEx W [(gS,.cells [.int .i64 p0,.int .i64 p1,.int .i64 (j.t0 - (t+1) * j.a1),.int .i64 (j.t1 - (t+1) * j.a0),.int .i64 (j.r0 - r * j.b1),.int .i64 (j.r1 - r * j.b0),.int .i64 j.u0,.int .i64 j.u1,.int .i64 j.d0,.int .i64 j.d1,.int .i64 j.a0,.int .i64 j.a1,.int .i64 j.b0,.int .i64 j.b1,.int .i64 j.le]),(gR,.cells [.int .i64 (p0+j.u0),.int .i64 (p1+j.u1),.int .i64 (t+1),.int .i64 (r),.int .i64 (lf - 1)]),(gK,.cells [.int .i64 (p0+j.u0),.int .i64 (p1+j.u1),.int .i64 (t+1),.int .i64 (r),.int .i64 (lf - 1)])])) 6 (by kernel_rfl) (by kernel_rfl) ?s0 ?r0
         case s0=>(exact ⟨fun _=>M.drew,fun h=>(no_of h (by kernel_rfl)).elim⟩)
         intro W0
         refine wpG_take (i:=0) (v:=?v1) Z (by kernel_rfl) (by intro L w;simp only [getD_set_ne true (show (0:Nat)≠4 from by decide)]) (fun _ _ _ h=>h) (Or.inl ⟨by rfl,?y1⟩) ?r1
         case y1=>(intro w' hy;obtain ⟨L,hD,hl,hS⟩:=hy;have M0:=hS.1 (hD.wait (i:=0) (by kernel_rfl) hl);clear hS;first | (refine Eq.trans (Zro (Mem.get M0 (by (repeat' (first | exact Zz2 | refine Zz1 ?_)))) rfl rfl (by rfl)) ?_;with_reducible rfl) | (refine Eq.trans (rn_row (Mem.get M0 (by (repeat' (first | exact Zz2 | refine Zz1 ?_)))) rfl rfl (by (try simp only [Zy2,List.take_zero,List.take_nil,Zy1,List.drop_zero,List.drop_nil,Zx6,Zx5,Zx4,Zx1,Zx2,Nat.reduceAdd,Zxa,Zx0]);rfl) (by rfl)) ?_;with_reducible rfl);(try with_reducible rfl))
         (try simp only [Act.put,Zz3,Zz4,Zz5,Zz6,Zz7,Zz8])
         refine wpG_take (i:=1) (v:=?v2) Z (by kernel_rfl) (by intro L w;simp only [getD_set_ne true (show (1:Nat)≠4 from by decide)]) (fun _ _ _ h=>h) (Or.inl ⟨by rfl,?y2⟩) ?r2
         case y2=>(intro w' hy;obtain ⟨L,hD,hl,hS⟩:=hy;have M0:=hS.1 (hD.wait (i:=2) (by kernel_rfl) (hD.wait (m:=2) (i:=1) (by kernel_rfl) hl));clear hS;first | (refine Eq.trans (Zro (Mem.get M0 (by (repeat' (first | exact Zz2 | refine Zz1 ?_)))) rfl rfl (by rfl)) ?_;with_reducible rfl) | (refine Eq.trans (rn_row (Mem.get M0 (by (repeat' (first | exact Zz2 | refine Zz1 ?_)))) rfl rfl (by (try simp only [Zy2,List.take_zero,List.take_nil,Zy1,List.drop_zero,List.drop_nil,Zx6,Zx5,Zx4,Zx1,Zx2,Nat.reduceAdd,Zxa,Zx0]);rfl) (by rfl)) ?_;with_reducible rfl);(try with_reducible rfl))
         (try simp only [Act.put,Zz3,Zz4,Zz5,Zz6,Zz7,Zz8])
         refine wpG_step (i:=2) (by kernel_rfl) Z (by rfl) ?r3
         intro hS K hK
         (have M0:=hS.1 (by kernel_rfl);clear hS;go_simp;refine (spoiled_any (thinJ j p0 p1 (t+1) (r)) _).mono ?_;rintro e V1 ⟨rfl,hb1⟩;refine hK.out _ _ ⟨fun _=>M0.call hb1,fun h=>(no_of h (by kernel_rfl)).elim⟩ ?_;clear M0 hb1)
         clear hK K;intro W3
         (try simp only [Act.put,Zz3,Zz4,Zz5,Zz6,Zz7,Zz8])
         refine ZT 3 Z ?r4
         (try simp only [Act.put,Zz3,Zz4,Zz5,Zz6,Zz7,Zz8])
         refine wpG_step (i:=4) (by kernel_rfl) Z (by rfl) ?r5
         intro hS K hK
         (have M0:=hS.1 (by kernel_rfl);clear hS;refine m_stw M0 rfl rfl (by first | exact (rfl:_=Value.agg _) | exact (rfl:_=Value.int _ _) | exact (rfl:_=Value.bool _) | exact (rfl:_=Value.slice _ _ _) | exact (rfl:_=Value.pointer _) | exact (rfl:_=Value.map _) | exact (rfl:_=Value.func _ _ _) | exact (rfl:_=Value.string _)) (by rfl) (by (repeat (first | exact Upd.head | apply Upd.tail))) (by (try simp only [Zy2,List.take_zero,List.take_nil,Zy1,List.drop_zero,List.drop_nil,Zx6,Zx5,Zx4,Zx1,Zx2,Nat.reduceAdd,Zxa,Zx0]);rfl) (by simp) (by simp [Value.oneCell']) (by kernel_rfl) ?_;intro V2 M2;refine hK.out _ _ ⟨fun h=>(no_of (by kernel_rfl) h).elim,fun _=>M2⟩ ?_;clear M0 M2)
         clear hK K;intro W5
         (try simp only [Act.put,Zz3,Zz4,Zz5,Zz6,Zz7,Zz8])
         refine ZT 5 Z ?r6
         (try simp only [Act.put,Zz3,Zz4,Zz5,Zz6,Zz7,Zz8])
         refine wpG_end (by kernel_rfl) ?_
         intro W
          hS
         have M1:=hS.2 (by kernel_rfl)
         clear hS
         go_wp2
         refine ret_M1 (t:=6) (t':=7) (ty:=247) M1 (by rfl) (by rfl) (by rfl) (by rfl) (by (repeat' (first | exact Zz2 | refine Zz1 ?_))) (by rfl) ?_
         exact ⟨rfl,M1.below⟩
set_option maxHeartbeats 2000000 in
theorem moved_root (j:Jb) (A:Option Addr) (c:Nat) (s0 s1:Int) (bg bx:Nat) (p0 p1 t r lf:Int) (w:World) (hg:j.good) (hp0 : -100000≤p0∧p0≤100000) (hp1 : -100000≤p1∧p1≤100000) (ht:0≤t∧t≤1000) (hr:0≤r∧r≤1000) (hl:1≤lf∧lf≤1000) :
   Calls prog 235 #[.agg (gmA j A c s0 s1 bg bx).toArray,kn5 p0 p1 t r lf,.int .i64 2] w fun e w'=>e=.returned (.tuple #[kn5 (p0 - j.d1) (p1 - j.d0) t (r+1) (lf - 1),.bool (okT j (t) (r+1))])∧Below w.heap.size w w':=by
 obtain ⟨g1,g2,g3,g4,g5,g6,g7,g8,-,-,-,-⟩:=hg
 go_enter func235,Tryz.ntmps235
 refine start noEx ?_
 intro wc M
 go_wp2_with (first | (refine Zm1 M rfl rfl rfl ?_) | (refine Zm2 M rfl rfl rfl ?_) | (refine Zm3 M rfl rfl rfl ?_;clear M;(try clear wc);intro wc M) | (refine m_al M rfl rfl ?_;clear M;(try clear wc);intro g wc M) | (refine Zm4 M rfl rfl ?_;clear M;(try clear wc);intro g wc M) | (go_at_call 256;((with_reducible refine (filed_root_x p0 p1 j.t0 j.t1 j.r0 j.r1 j.u0 j.u1 j.d0 j.d1 j.a0 j.a1 j.b0 j.b1 j.le _ ?_).mono ?_);(constructor <;> dsimp only <;> omega);rintro e wc ⟨rfl,hb⟩;replace M:=M.call hb;clear hb)))
 rename_i gG gK gR gS wq K0 hK0
 go_loopw [44] (fun v wr=>∃ i:Int,0≤i∧i≤t∧v=.int .i64 i∧Mem w noEx wr [(gS,.cells [.int .i64 p0,.int .i64 p1,.int .i64 (j.t0 - i * j.a1),.int .i64 (j.t1 - i * j.a0),.int .i64 (j.r0 - 0 * j.b1),.int .i64 (j.r1 - 0 * j.b0),.int .i64 j.u0,.int .i64 j.u1,.int .i64 j.d0,.int .i64 j.d1,.int .i64 j.a0,.int .i64 j.a1,.int .i64 j.b0,.int .i64 j.b1,.int .i64 j.le]),(gR,.cells [.int .i64 0,.int .i64 0,.int .i64 0,.int .i64 0,.int .i64 0]),(gK,.cells [.int .i64 (p0 - j.d1),.int .i64 (p1 - j.d0),.int .i64 (t),.int .i64 (r+1),.int .i64 (lf - 1)])]) (fun v _=>(t - intOf v).toNat)
 case atStart=>exact ⟨0,by omega,by omega,rfl,by simp only [Int.zero_mul,Int.sub_zero];exact M.sub (by (repeat (first | exact List.Sublist.slnil | apply List.Sublist.cons_cons | apply List.Sublist.cons)))⟩
 case round =>
   clear M wc
   obtain ⟨i,hi0,hi1,rfl,M⟩:=hrel
   obtain ⟨wc,rfl⟩:∃ x:World,x=wr:=⟨_,rfl⟩
   have m1:=mul_bd hi0 (by omega) (by omega:0≤j.a1) (by omega)
   have m2:=mul_bd hi0 (by omega) (by omega:0≤j.a0) (by omega)
   by_cases hlt:i < t
   · have e1:=mul_suc i j.a1
     have e2:=mul_suc i j.a0
     have E:Hid (Value.int .i64 (j.t0 - i * j.a1 - j.a1)=.int .i64 (j.t0 - (i+1) * j.a1)∧Value.int .i64 (j.t1 - i * j.a0 - j.a0)=.int .i64 (j.t1 - (i+1) * j.a0)):=⟨by rw [e1];congr 1;omega,by rw [e2];congr 1;omega⟩
     clear e1 e2
     go_wp2_with (first | (refine Zm1 M rfl rfl rfl ?_) | (refine Zm2 M rfl rfl rfl ?_) | (refine Zm3 M rfl rfl rfl ?_;clear M;(try clear wc);intro wc M) | (refine m_al M rfl rfl ?_;clear M;(try clear wc);intro g wc M) | (refine Zm4 M rfl rfl ?_;clear M;(try clear wc);intro g wc M) | (go_at_call 257;((with_reducible refine (less_any _ _ _ _ _ (by omega) (by omega) (by omega) (by omega)).mono ?_);skip;rintro e wc ⟨rfl,hb⟩;replace M:=M.call hb;clear hb)))
     go_roundw
     case rel=>exact ⟨i+1,by omega,by omega,rfl,by rw [E.out.1,E.out.2] at M;exact M⟩
     case measure=>simp [intOf];omega
   · have ei:t=i:=(by omega);subst ei
     go_wp2_with (first | (refine Zm1 M rfl rfl rfl ?_) | (refine Zm2 M rfl rfl rfl ?_) | (refine Zm3 M rfl rfl rfl ?_;clear M;(try clear wc);intro wc M) | (refine m_al M rfl rfl ?_;clear M;(try clear wc);intro g wc M) | (refine Zm4 M rfl rfl ?_;clear M;(try clear wc);intro g wc M))
     go_loopw [58] (fun v wr=>∃ i:Int,0≤i∧i≤r+1∧v=.int .i64 i∧Mem w noEx wr [(gS,.cells [.int .i64 p0,.int .i64 p1,.int .i64 (j.t0 - t * j.a1),.int .i64 (j.t1 - t * j.a0),.int .i64 (j.r0 - i * j.b1),.int .i64 (j.r1 - i * j.b0),.int .i64 j.u0,.int .i64 j.u1,.int .i64 j.d0,.int .i64 j.d1,.int .i64 j.a0,.int .i64 j.a1,.int .i64 j.b0,.int .i64 j.b1,.int .i64 j.le]),(gR,.cells [.int .i64 0,.int .i64 0,.int .i64 0,.int .i64 0,.int .i64 0]),(gK,.cells [.int .i64 (p0 - j.d1),.int .i64 (p1 - j.d0),.int .i64 (t),.int .i64 (r+1),.int .i64 (lf - 1)])]) (fun v _=>(r+1 - intOf v).toNat)
     case atStart=>exact ⟨0,by omega,by omega,rfl,by simp only [Int.zero_mul,Int.sub_zero] at M ⊢;exact M⟩
     case round =>
       clear M wc
       obtain ⟨i,hi0,hi1,rfl,M⟩:=hrel
       obtain ⟨wc,rfl⟩:∃ x:World,x=wr:=⟨_,rfl⟩
       have m3:=mul_bd hi0 (by omega) (by omega:0≤j.b1) (by omega)
       have m4:=mul_bd hi0 (by omega) (by omega:0≤j.b0) (by omega)
       by_cases hlt:i < r+1
       · have e1:=mul_suc i j.b1
         have e2:=mul_suc i j.b0
         have E:Hid (Value.int .i64 (j.r0 - i * j.b1 - j.b1)=.int .i64 (j.r0 - (i+1) * j.b1)∧Value.int .i64 (j.r1 - i * j.b0 - j.b0)=.int .i64 (j.r1 - (i+1) * j.b0)):=⟨by rw [e1];congr 1;omega,by rw [e2];congr 1;omega⟩
         clear e1 e2
         go_wp2_with (first | (refine Zm1 M rfl rfl rfl ?_) | (refine Zm2 M rfl rfl rfl ?_) | (refine Zm3 M rfl rfl rfl ?_;clear M;(try clear wc);intro wc M) | (refine m_al M rfl rfl ?_;clear M;(try clear wc);intro g wc M) | (refine Zm4 M rfl rfl ?_;clear M;(try clear wc);intro g wc M) | (go_at_call 257;((with_reducible refine (less_any _ _ _ _ _ (by omega) (by omega) (by omega) (by omega)).mono ?_);skip;rintro e wc ⟨rfl,hb⟩;replace M:=M.call hb;clear hb)))
         go_roundw
         case rel=>exact ⟨i+1,by omega,by omega,rfl,by rw [E.out.1,E.out.2] at M;exact M⟩
         case measure=>simp [intOf];omega
       · have ei:r+1=i:=(by omega);subst ei
         go_wp2_with (first | (refine Zm1 M rfl rfl rfl ?_) | (refine Zm2 M rfl rfl rfl ?_) | (refine Zm3 M rfl rfl rfl ?_;clear M;(try clear wc);intro wc M) | (refine m_al M rfl rfl ?_;clear M;(try clear wc);intro g wc M) | (refine Zm4 M rfl rfl ?_;clear M;(try clear wc);intro g wc M))
         refine wp_region_G (fun L W=>(L.getD 4 true=false→Mem w noEx W [(gS,.cells [.int .i64 p0,.int .i64 p1,.int .i64 (j.t0 - t * j.a1),.int .i64 (j.t1 - t * j.a0),.int .i64 (j.r0 - (r+1) * j.b1),.int .i64 (j.r1 - (r+1) * j.b0),.int .i64 j.u0,.int .i64 j.u1,.int .i64 j.d0,.int .i64 j.d1,.int .i64 j.a0,.int .i64 j.a1,.int .i64 j.b0,.int .i64 j.b1,.int .i64 j.le]),(gR,.cells [.int .i64 0,.int .i64 0,.int .i64 0,.int .i64 0,.int .i64 0]),(gK,.cells [.int .i64 (p0 - j.d1),.int .i64 (p1 - j.d0),.int .i64 (t),.int .i64 (r+1),.int .i64 (lf - 1)])])∧(L.getD 4 true=true→Mem w noEx W [(gS,.cells [.int .i64 p0,.int .i64 p1,.int .i64 (j.t0 - t * j.a1),.int .i64 (j.t1 - t * j.a0),.int .i64 (j.r0 - (r+1) * j.b1),.int .i64 (j.r1 - (r+1) * j.b0),.int .i64 j.u0,.int .i64 j.u1,.int .i64 j.d0,.int .i64 j.d1,.int .i64 j.a0,.int .i64 j.a1,.int .i64 j.b0,.int .i64 j.b1,.int .i64 j.le]),(gR,.cells [.int .i64 (p0 - j.d1),.int .i64 (p1 - j.d0),.int .i64 (t),.int .i64 (r+1),.int .i64 (lf - 1)]),(gK,.cells [.int .i64 (p0 - j.d1),.int .i64 (p1 - j.d0),.int .i64 (t),.int .i64 (r+1),.int .i64 (lf - 1)])])) 6 (by kernel_rfl) (by kernel_rfl) ?s0 ?r0
         case s0=>(exact ⟨fun _=>M.drew,fun h=>(no_of h (by kernel_rfl)).elim⟩)
         intro W0
         refine wpG_take (i:=0) (v:=?v1) Z (by kernel_rfl) (by intro L w;simp only [getD_set_ne true (show (0:Nat)≠4 from by decide)]) (fun _ _ _ h=>h) (Or.inl ⟨by rfl,?y1⟩) ?r1
         case y1=>(intro w' hy;obtain ⟨L,hD,hl,hS⟩:=hy;have M0:=hS.1 (hD.wait (i:=0) (by kernel_rfl) hl);clear hS;first | (refine Eq.trans (Zro (Mem.get M0 (by (repeat' (first | exact Zz2 | refine Zz1 ?_)))) rfl rfl (by rfl)) ?_;with_reducible rfl) | (refine Eq.trans (rn_row (Mem.get M0 (by (repeat' (first | exact Zz2 | refine Zz1 ?_)))) rfl rfl (by (try simp only [Zy2,List.take_zero,List.take_nil,Zy1,List.drop_zero,List.drop_nil,Zx6,Zx5,Zx4,Zx1,Zx2,Nat.reduceAdd,Zxa,Zx0]);rfl) (by rfl)) ?_;with_reducible rfl);(try with_reducible rfl))
         (try simp only [Act.put,Zz3,Zz4,Zz5,Zz6,Zz7,Zz8])
         refine wpG_take (i:=1) (v:=?v2) Z (by kernel_rfl) (by intro L w;simp only [getD_set_ne true (show (1:Nat)≠4 from by decide)]) (fun _ _ _ h=>h) (Or.inl ⟨by rfl,?y2⟩) ?r2
         case y2=>(intro w' hy;obtain ⟨L,hD,hl,hS⟩:=hy;have M0:=hS.1 (hD.wait (i:=2) (by kernel_rfl) (hD.wait (m:=2) (i:=1) (by kernel_rfl) hl));clear hS;first | (refine Eq.trans (Zro (Mem.get M0 (by (repeat' (first | exact Zz2 | refine Zz1 ?_)))) rfl rfl (by rfl)) ?_;with_reducible rfl) | (refine Eq.trans (rn_row (Mem.get M0 (by (repeat' (first | exact Zz2 | refine Zz1 ?_)))) rfl rfl (by (try simp only [Zy2,List.take_zero,List.take_nil,Zy1,List.drop_zero,List.drop_nil,Zx6,Zx5,Zx4,Zx1,Zx2,Nat.reduceAdd,Zxa,Zx0]);rfl) (by rfl)) ?_;with_reducible rfl);(try with_reducible rfl))
         (try simp only [Act.put,Zz3,Zz4,Zz5,Zz6,Zz7,Zz8])
         refine wpG_step (i:=2) (by kernel_rfl) Z (by rfl) ?r3
         intro hS K hK
         (have M0:=hS.1 (by kernel_rfl);clear hS;go_simp;refine (spoiled_any (thinJ j p0 p1 (t) (r+1)) _).mono ?_;rintro e V1 ⟨rfl,hb1⟩;refine hK.out _ _ ⟨fun _=>M0.call hb1,fun h=>(no_of h (by kernel_rfl)).elim⟩ ?_;clear M0 hb1)
         clear hK K;intro W3
         (try simp only [Act.put,Zz3,Zz4,Zz5,Zz6,Zz7,Zz8])
         refine ZT 3 Z ?r4
         (try simp only [Act.put,Zz3,Zz4,Zz5,Zz6,Zz7,Zz8])
         refine wpG_step (i:=4) (by kernel_rfl) Z (by rfl) ?r5
         intro hS K hK
         (have M0:=hS.1 (by kernel_rfl);clear hS;refine m_stw M0 rfl rfl (by first | exact (rfl:_=Value.agg _) | exact (rfl:_=Value.int _ _) | exact (rfl:_=Value.bool _) | exact (rfl:_=Value.slice _ _ _) | exact (rfl:_=Value.pointer _) | exact (rfl:_=Value.map _) | exact (rfl:_=Value.func _ _ _) | exact (rfl:_=Value.string _)) (by rfl) (by (repeat (first | exact Upd.head | apply Upd.tail))) (by (try simp only [Zy2,List.take_zero,List.take_nil,Zy1,List.drop_zero,List.drop_nil,Zx6,Zx5,Zx4,Zx1,Zx2,Nat.reduceAdd,Zxa,Zx0]);rfl) (by simp) (by simp [Value.oneCell']) (by kernel_rfl) ?_;intro V2 M2;refine hK.out _ _ ⟨fun h=>(no_of (by kernel_rfl) h).elim,fun _=>M2⟩ ?_;clear M0 M2)
         clear hK K;intro W5
         (try simp only [Act.put,Zz3,Zz4,Zz5,Zz6,Zz7,Zz8])
         refine ZT 5 Z ?r6
         (try simp only [Act.put,Zz3,Zz4,Zz5,Zz6,Zz7,Zz8])
         refine wpG_end (by kernel_rfl) ?_
         intro W
          hS
         have M1:=hS.2 (by kernel_rfl)
         clear hS
         go_wp2
         refine ret_M1 (t:=6) (t':=7) (ty:=247) M1 (by rfl) (by rfl) (by rfl) (by rfl) (by (repeat' (first | exact Zz2 | refine Zz1 ?_))) (by rfl) ?_
         exact ⟨rfl,M1.below⟩
section
open Go.RowKit Go.Shelf
attribute [local go_sem] Oper.semAt_some
def stopsP (j:Jb) (s0 s1:Int):Nat→Int→Int→Int→Int→Bool
 | 0,p0,p1,_,_=>hasB s0 s1 p0 p1
 | n+1,p0,p1,t,r=>hasB s0 s1 p0 p1 || ((okT j (t+1) r && (rdgs (p0+j.u0) (p1+j.u1) j.me).all fun x=>stopsP j s0 s1 n x.1 x.2 (t+1) r) || (okT j t (r+1) && (rdgs (p0 - j.d1) (p1 - j.d0) j.me).all fun x=>stopsP j s0 s1 n x.1 x.2 t (r+1)))
def readsP (j:Jb) (s0 s1:Int) (n:Nat) (p0 p1 t r:Int):Bool:=(rdgs p0 p1 j.me).all fun x=>stopsP j s0 s1 n x.1 x.2 t r
def strokeP (j:Jb) (s0 s1:Int):Nat→Int→Int→Int→Int→Int
 | 0,_,_,_,_=>0
 | n+1,p0,p1,t,r=>if (okT j (t+1) r && readsP j s0 s1 n (p0+j.u0) (p1+j.u1) (t+1) r)=true then 1 else if (okT j t (r+1) && readsP j s0 s1 n (p0 - j.d1) (p1 - j.d0) t (r+1))=true then 2 else 0
theorem stopsP_eq (j:Jb) (s0 s1:Int) (n:Nat) (p0 p1 t r:Int):stopsP j s0 s1 n p0 p1 t r=(hasB s0 s1 p0 p1 || decide (0 < strokeP j s0 s1 n p0 p1 t r)):=by
 cases n with
 | zero=>simp [stopsP,strokeP]
 | succ n =>
  show (hasB s0 s1 p0 p1 || ((okT j (t+1) r && readsP j s0 s1 n (p0+j.u0) (p1+j.u1) (t+1) r) || (okT j t (r+1) && readsP j s0 s1 n (p0 - j.d1) (p1 - j.d0) t (r+1))))=(hasB s0 s1 p0 p1 || decide (0 < (if (okT j (t+1) r && readsP j s0 s1 n (p0+j.u0) (p1+j.u1) (t+1) r)=true then (1:Int) else if (okT j t (r+1) && readsP j s0 s1 n (p0 - j.d1) (p1 - j.d0) t (r+1))=true then 2 else 0)))
  generalize (okT j (t+1) r && readsP j s0 s1 n (p0+j.u0) (p1+j.u1) (t+1) r)=x
  generalize (okT j t (r+1) && readsP j s0 s1 n (p0 - j.d1) (p1 - j.d0) t (r+1))=y
  cases x <;> cases y <;> rfl
def okG (j:Jb) (s0 s1:Int) (key v:Value):Prop:=∀ (p0 p1 t r:Int) (n:Nat),key=kn5 p0 p1 t r n→v=.bool (stopsP j s0 s1 n p0 p1 t r)
def memG (j:Jb) (s0 s1:Int):BA:=.any (memoQ prog 247 (okG j s0 s1))
structure Bnd (n:Nat) (p0 p1 t r:Int):Prop where
 lv:n≤10
 p0 : -(100000 - 100 * (n:Int))≤p0∧p0≤100000 - 100 * (n:Int)
 p1 : -(100000 - 100 * (n:Int))≤p1∧p1≤100000 - 100 * (n:Int)
 t:0≤t∧t≤900 - (n:Int)
 r:0≤r∧r≤900 - (n:Int)
structure Gm (j:Jb) (A:Option Addr) (c:Nat) (s0 s1:Int) (bg bx bm:Nat) (w:World):Prop where
 g:Bk w bg (gmA j A c s0 s1 bg bx).toArray
 x:Bk w bx #[.map (some bm)]
 m:(memG j s0 s1).holds w bm
 ng:bg≠bm
 nx:bx≠bm
def GPost (j:Jb) (s0 s1:Int) (bm:Nat) (v:Value) (w:World) (e:Ending) (w':World):Prop:=e=.returned v∧w.grownBy w' (some bm)∧(memG j s0 s1).holds w' bm
def StopsC (j:Jb) (A:Option Addr) (c:Nat) (s0 s1:Int) (bg bx bm:Nat) (n:Nat):Prop :=
 ∀ (p0 p1 t r:Int) (w:World),Bnd n p0 p1 t r→Gm j A c s0 s1 bg bx bm w →
  Calls prog 206 #[kn5 p0 p1 t r n,.pointer (some ⟨bg,0,none⟩),.pointer (some ⟨bx,0,none⟩)] w (GPost j s0 s1 bm (.bool (stopsP j s0 s1 n p0 p1 t r)) w)
section
variable {j:Jb} {A:Option Addr} {c:Nat} {s0 s1:Int} {bg bx bm:Nat} {w w':World}
theorem Gm.kept (h:Gm j A c s0 s1 bg bx bm w) (hg:w.grownBy w' (some bm)) (hm:(memG j s0 s1).holds w' bm):Gm j A c s0 s1 bg bx bm w' :=
 ⟨h.g.grown hg (fun e=>h.ng (by injection e)),h.x.grown hg (fun e=>h.nx (by injection e)),hm,h.ng,h.nx⟩
end
def allS (j:Jb) (s0 s1:Int) (n:Nat) (t r:Int) {B:Int} (pre:List (Rg B)):Bool:=(pre.map Subtype.val).all fun x=>stopsP j s0 s1 n x.1 x.2 t r
theorem allS_snoc (j:Jb) (s0 s1:Int) (n:Nat) (t r:Int) {B:Int} (pre:List (Rg B)) (x:Rg B):allS j s0 s1 n t r (pre++[x])=(allS j s0 s1 n t r pre && stopsP j s0 s1 n x.1.1 x.1.2 t r):=by simp [allS]
theorem reads_any (j:Jb) (A:Option Addr) (c:Nat) (s0 s1:Int) (bg bx bm:Nat) (n:Nat) (hj:j.good) (hS:StopsC j A c s0 s1 bg bx bm n) (p0 p1 t r:Int) (w:World) (hb:Bnd n p0 p1 t r) (hg:Gm j A c s0 s1 bg bx bm w) :
  Calls prog 161 #[.agg (gmA j A c s0 s1 bg bx).toArray,kn5 p0 p1 t r n] w (GPost j s0 s1 bm (.bool (readsP j s0 s1 n p0 p1 t r)) w):=by
 have HS:=Lib.hid hS
 have HG:=Lib.hid hg
 have HB:=Lib.hid hb
 have M:=Mem.initEx hg.m
 clear hS hg hb
 refine (callsIn_wide (n:=8)).1 (callsIn_of_wp_marks func161 Z trivial (wpIn_wide.2 ?_) Z)
 simp only [Tryz.ntmps161,List.size_toArray,Zx1,Zx2,Nat.reduceAdd,Nat.reduceSub,Array.replicate_succ,Array.replicate_zero,List.push_toArray,List.append_toArray,Zx5,Zx6]
 refine m_start M ?_
 clear M
 intro wc M
 go_wp2_with (first | (refine Zm1 M rfl rfl rfl ?_) | (refine Zm2 M rfl rfl rfl ?_) | (refine Zm3 M rfl rfl rfl ?_;clear M;(try clear wc);intro wc M) | (refine m_al M rfl rfl ?_;clear M;(try clear wc);intro g wc M) | (refine Zm4 M rfl rfl ?_;clear M;(try clear wc);intro g wc M))
 apply wp_scope_straight
 go_wp2_with (first | (refine Zm1 M rfl rfl rfl ?_) | (refine Zm2 M rfl rfl rfl ?_) | (refine Zm3 M rfl rfl rfl ?_;clear M;(try clear wc);intro wc M) | (refine m_al M rfl rfl ?_;clear M;(try clear wc);intro g wc M) | (refine Zm4 M rfl rfl ?_;clear M;(try clear wc);intro g wc M))
 apply wp_label
 go_wp2_with (first | (refine Zm1 M rfl rfl rfl ?_) | (refine Zm2 M rfl rfl rfl ?_) | (refine Zm3 M rfl rfl rfl ?_;clear M;(try clear wc);intro wc M) | (refine m_al M rfl rfl ?_;clear M;(try clear wc);intro g wc M) | (refine Zm4 M rfl rfl ?_;clear M;(try clear wc);intro g wc M) | (go_at_call 209;refine (readings_any _ _ _ _).mono ?_;rintro e wc ⟨b1,b2,rfl,N⟩;replace M:=M.join N;clear N;simp only [Zx6,Zx5] at M))
 rename_i gG gK wq K0 hK0
 have hnd:=M.nd
 simp only [List.map_cons,List.map_nil,List.nodup_cons,Zx7,not_or,Zx8,not_false_eq_true,List.nodup_nil,and_true] at hnd
 obtain ⟨⟨-,-,-,-,nx2⟩,⟨-,-,-,nx1⟩,⟨-,-,nxA⟩,-⟩:=hnd
 have hz0:=M.size
 have q1:=M.get (g:=b1) (by (repeat' (first | exact Zz2 | refine Zz1 ?_)))
 have q2:=M.get (g:=b2) (by (repeat' (first | exact Zz2 | refine Zz1 ?_)))
 replace M:=M.forget.forget
 have hL:∀ p∈[(g,BA.cells [.bool true]),(gK,.cells [.int .i64 p0,.int .i64 p1,.int .i64 t,.int .i64 r,.int .i64 n]),(gG,.cells (gmA j A c s0 s1 bg bx)),(bm,memG j s0 s1)],p.1 < wc.heap.size:=fun p hp=>BA.lt (M.blk p hp).2
 have hL':∀ p∈[(g,BA.cells [.bool false]),(gK,.cells [.int .i64 p0,.int .i64 p1,.int .i64 t,.int .i64 r,.int .i64 n]),(gG,.cells (gmA j A c s0 s1 bg bx)),(bm,memG j s0 s1)],p.1 < wc.heap.size:=by
  intro p hp
  rcases Zx7.1 hp with rfl | hp
  ·exact hL (g,BA.cells [.bool true]) Zz2
  ·exact hL p (Zz1 hp)
 have hlm:bm < wc.heap.size:=hL (bm,memG j s0 s1) (by (repeat' (first | exact Zz2 | refine Zz1 ?_)))
 have hlg:g < wc.heap.size:=hL (g,BA.cells [.bool true]) (by (repeat' (first | exact Zz2 | refine Zz1 ?_)))
 obtain ⟨hlv,hb0,hb1,hbt,hbr⟩:=HB.out
 have hme:=hj.me
 refine (wpIn_wide (n:=8)).1 (wpIn_rangeFunc_ownH (α:=Rg (100000 - 100 * (n:Int))) Z (by omega) (gf:=236) (lb:=#[.pointer (some ⟨b1,0,none⟩),.pointer (some ⟨b2,0,none⟩)]) Z trivial (enters_of func236 (by kernel_rfl) Z)
  (readings_stops 7 (by omega) b1 b2 wc.heap.size bm p0 p1 j.me _ (by omega) (by omega) hb0 hb1 (by omega) (by omega) q1.lt q2.lt nx1 nx2 wc q1 q2)
  (fun h k=>Kp.t h k) (fun W l o o' hl h _ _=>⟨by simp,fun b hb _=>World.putObj_heap_other (by omega)⟩) (Below.refl _ _) (fun _=>rfl)
  (fun pre W=>Mem w (fun b=>b=bm) W [(g,BA.cells [.bool true]),(gK,.cells [.int .i64 p0,.int .i64 p1,.int .i64 t,.int .i64 r,.int .i64 n]),(gG,.cells (gmA j A c s0 s1 bg bx)),(bm,memG j s0 s1)]∧Hid (allS j s0 s1 n t r pre=true)∧wc.heap.size≤W.heap.size)
  (fun cd pre W=>cd=.exit 0∧Mem w (fun b=>b=bm) W [(g,BA.cells [.bool false]),(gK,.cells [.int .i64 p0,.int .i64 p1,.int .i64 t,.int .i64 r,.int .i64 n]),(gG,.cells (gmA j A c s0 s1 bg bx)),(bm,memG j s0 s1)]∧Hid (allS j s0 s1 n t r pre=false)∧wc.heap.size≤W.heap.size)
  (fun s W W' row hs hg hr=>⟨hs.1.far hg (fun r e=>(hr r e).1) hz0 hL,hs.2.1,Nat.le_trans hs.2.2 hg.size⟩)
  (fun cd s W W' row hs hg hr=>⟨hs.1,hs.2.1.far hg (fun r e=>(hr r e).1) hz0 hL',hs.2.2.1,Nat.le_trans hs.2.2.2 hg.size⟩)
  ⟨M,rfl,Nat.le_refl _⟩
  (fun x a' W=>∃ gx,Bk W gx #[.int .i64 x.1.1,.int .i64 x.1.2]∧a' = { tmps:=#[.agg (gmA j A c s0 s1 bg bx).toArray,kn5 p0 p1 t r n,.pointer (some ⟨gG,0,none⟩),.pointer (some ⟨gK,0,none⟩),.bool false,.pointer (some ⟨g,0,none⟩),.pointer (some ⟨gx,0,none⟩),.pointer (some ⟨gK,0,none⟩),R2 p0 p1,.pointer (some ⟨gG,0,none⟩),.pointer (some ⟨gG,17,none⟩),.int .i64 j.me,.func (.func 236) #[] #[.pointer (some ⟨b1,0,none⟩),.pointer (some ⟨b2,0,none⟩)],R2 x.1.1 x.1.2,undef,undef,undef,undef,undef,undef,undef,undef,undef,undef,undef,undef,undef],defers:=[] })
  (fun x a' _ W W' row hs hg hr=>by
   obtain ⟨gx,bX,rfl⟩:=hs
   refine ⟨gx,bX.grown hg (fun e=>?_),Z⟩
   obtain ⟨_,o,ho,hc⟩:=hr gx e.symm
   have h1:=bX.cell 0
   simp only [World.cell?,ho] at h1
   cases o <;> simp [Obj.isCells] at hc h1)
  ?assign ?body ?done ?stop)
 case assign =>
  rintro l pre x W K ⟨M1,hp,hz⟩ hK
  gi_wp2
  exact hK _ _ ((KeepsOthers.alloc _ _).from _) ⟨by simp,fun b hb _=>(MapKept.heap_alloc W _).2 b (by omega)⟩ ⟨M1.alloc _,hp,by simp;omega⟩ ⟨W.heap.size,Bk.new W _ _,Z⟩
 case body =>
  rintro l pre x a' W hl - ⟨M,hp,hz⟩ ⟨gx,bX,rfl⟩ hlt
  have C:=HS.out x.1.1 x.1.2 t r W ⟨hlv,x.2.1,x.2.2,hbt,hbr⟩ (HG.out.kept M.grown (M.at (q:=(bm,memG j s0 s1)) (by (repeat' (first | exact Zz2 | refine Zz1 ?_)))))
  have HP:Hid (allS j s0 s1 n t r (pre++[x])=stopsP j s0 s1 n x.1.1 x.1.2 t r):=by (show _=_;rw [allS_snoc,hp.out];simp)
  cases hv:stopsP j s0 s1 n x.1.1 x.1.2 t r with
  | true =>
   rw [hv] at C HP
   clear hv
   gi_wp2_with (first | (refine i_ld1 M rfl rfl rfl (by (repeat' (first | exact Zz2 | refine Zz1 ?_))) (by rfl) ?_) | (refine i_ldr M rfl rfl rfl (by (repeat' (first | exact Zz2 | refine Zz1 ?_))) (by (try simp only [Zy2,List.take_zero,List.take_nil,Zy1,List.drop_zero,List.drop_nil,Zx6,Zx5,Zx4,Zx1,Zx2,Nat.reduceAdd,Zxa,Zx0]);rfl) (by rfl) ?_) | (refine i_al M rfl rfl ?_;clear M;(try clear wc);intro g wc M) | (refine i_bx M rfl rfl (by first | exact (rfl:_=Value.agg _) | exact (rfl:_=Value.int _ _) | exact (rfl:_=Value.bool _) | exact (rfl:_=Value.slice _ _ _) | exact (rfl:_=Value.pointer _) | exact (rfl:_=Value.map _) | exact (rfl:_=Value.func _ _ _) | exact (rfl:_=Value.string _)) (by rfl) ?_;clear M;(try clear wc);intro g wc M) | (refine i_st M rfl rfl rfl (by first | exact (rfl:_=Value.agg _) | exact (rfl:_=Value.int _ _) | exact (rfl:_=Value.bool _) | exact (rfl:_=Value.slice _ _ _) | exact (rfl:_=Value.pointer _) | exact (rfl:_=Value.map _) | exact (rfl:_=Value.func _ _ _) | exact (rfl:_=Value.string _)) (by rfl) (by (repeat (first | exact Upd.head | apply Upd.tail))) (by (try simp only [Zy2,List.take_zero,List.take_nil,Zy1,List.drop_zero,List.drop_nil,Zx6,Zx5,Zx4,Zx1,Zx2,Nat.reduceAdd,Zxa,Zx0]);rfl) (by simp) (by simp [Value.oneCell']) (by kernel_rfl) ?_;clear M;(try clear wc);intro wc M oth;clear oth) | (refine i_lor bX rfl rfl rfl (by (try simp only [Zy2,List.take_zero,List.take_nil,Zy1,List.drop_zero,List.drop_nil,Zx6,Zx5,Zx4,Zx1,Zx2,Nat.reduceAdd,Zxa,Zx0]);rfl) (by rfl) ?_) | (refine ⟨trivial,?_⟩;gi_at_call 206;refine (CallsIn.inRound l (callsIn_wide.2 C)).mono ?_;rintro e W2 ⟨rfl,hgr,hm⟩;replace M:=M.callW (L':=[(g,BA.cells [.bool true]),(gK,.cells [.int .i64 p0,.int .i64 p1,.int .i64 t,.int .i64 r,.int .i64 n]),(gG,.cells (gmA j A c s0 s1 bg bx)),(bm,memG j s0 s1)]) (by (repeat (first | exact Upd.head | apply Upd.tail))) hgr hm))
   exact ⟨KeepsFrom.of_grownBy hgr (fun i e=>by cases e;exact hlm),⟨hgr.size,fun b hb hx=>hgr.block b (by omega) (fun e=>hx (by injection e))⟩,M,HP,Nat.le_trans hz hgr.size⟩
  | false =>
   rw [hv] at C HP
   clear hv
   gi_wp2_with (first | (refine i_st M rfl rfl rfl (by first | exact (rfl:_=Value.agg _) | exact (rfl:_=Value.int _ _) | exact (rfl:_=Value.bool _) | exact (rfl:_=Value.slice _ _ _) | exact (rfl:_=Value.pointer _) | exact (rfl:_=Value.map _) | exact (rfl:_=Value.func _ _ _) | exact (rfl:_=Value.string _)) (by rfl) (by (repeat (first | exact Upd.head | apply Upd.tail))) (by (try simp only [Zy2,List.take_zero,List.take_nil,Zy1,List.drop_zero,List.drop_nil,Zx6,Zx5,Zx4,Zx1,Zx2,Nat.reduceAdd,Zxa,Zx0]);rfl) (by simp) (by simp [Value.oneCell']) (by kernel_rfl) ?_;clear M;intro W3 M oth) | (refine i_ld1 M rfl rfl rfl (by (repeat' (first | exact Zz2 | refine Zz1 ?_))) (by rfl) ?_) | (refine i_ldr M rfl rfl rfl (by (repeat' (first | exact Zz2 | refine Zz1 ?_))) (by (try simp only [Zy2,List.take_zero,List.take_nil,Zy1,List.drop_zero,List.drop_nil,Zx6,Zx5,Zx4,Zx1,Zx2,Nat.reduceAdd,Zxa,Zx0]);rfl) (by rfl) ?_) | (refine i_al M rfl rfl ?_;clear M;(try clear wc);intro g wc M) | (refine i_bx M rfl rfl (by first | exact (rfl:_=Value.agg _) | exact (rfl:_=Value.int _ _) | exact (rfl:_=Value.bool _) | exact (rfl:_=Value.slice _ _ _) | exact (rfl:_=Value.pointer _) | exact (rfl:_=Value.map _) | exact (rfl:_=Value.func _ _ _) | exact (rfl:_=Value.string _)) (by rfl) ?_;clear M;(try clear wc);intro g wc M) | (refine i_st M rfl rfl rfl (by first | exact (rfl:_=Value.agg _) | exact (rfl:_=Value.int _ _) | exact (rfl:_=Value.bool _) | exact (rfl:_=Value.slice _ _ _) | exact (rfl:_=Value.pointer _) | exact (rfl:_=Value.map _) | exact (rfl:_=Value.func _ _ _) | exact (rfl:_=Value.string _)) (by rfl) (by (repeat (first | exact Upd.head | apply Upd.tail))) (by (try simp only [Zy2,List.take_zero,List.take_nil,Zy1,List.drop_zero,List.drop_nil,Zx6,Zx5,Zx4,Zx1,Zx2,Nat.reduceAdd,Zxa,Zx0]);rfl) (by simp) (by simp [Value.oneCell']) (by kernel_rfl) ?_;clear M;(try clear wc);intro wc M oth;clear oth) | (refine i_lor bX rfl rfl rfl (by (try simp only [Zy2,List.take_zero,List.take_nil,Zy1,List.drop_zero,List.drop_nil,Zx6,Zx5,Zx4,Zx1,Zx2,Nat.reduceAdd,Zxa,Zx0]);rfl) (by rfl) ?_) | (refine ⟨trivial,?_⟩;gi_at_call 206;refine (CallsIn.inRound l (callsIn_wide.2 C)).mono ?_;rintro e W2 ⟨rfl,hgr,hm⟩;replace M:=M.callW (L':=[(g,BA.cells [.bool true]),(gK,.cells [.int .i64 p0,.int .i64 p1,.int .i64 t,.int .i64 r,.int .i64 n]),(gG,.cells (gmA j A c s0 s1 bg bx)),(bm,memG j s0 s1)]) (by (repeat (first | exact Upd.head | apply Upd.tail))) hgr hm))
   have hk3:KeepsFrom wc.heap.size W2 W3:=⟨by rw [oth.size];exact Nat.le_refl _,fun k o hk h _=>(oth.block k (by omega)).trans h⟩
   exact ⟨(KeepsFrom.of_grownBy hgr (fun i e=>by cases e;exact hlm)).trans hk3,Z,M,HP,by rw [oth.size];exact Nat.le_trans hz hgr.size⟩
 case done =>
  rintro D ys W hD hS ⟨M,hp,-⟩ hK
  go_wp2_with (first | (refine Zm1 M rfl rfl rfl ?_) | (refine Zm2 M rfl rfl rfl ?_) | (refine Zm3 M rfl rfl rfl ?_;clear M;(try clear wc);intro wc M) | (refine m_al M rfl rfl ?_;clear M;(try clear wc);intro g wc M) | (refine Zm4 M rfl rfl ?_;clear M;(try clear wc);intro g wc M))
  rw [Exit.noGoto_ret]
  have M2:=M.far (grownBy_putObj' W D (.deferred none)) (n0:=wc.heap.size) (fun r e=>by cases e;exact hD) hz0 hL
  have hv:readsP j s0 s1 n p0 p1 t r=true:=by rw [← hp.out];unfold readsP allS;rw [← hS]
  refine ⟨by simp,.inl ⟨_,_,Z,run_takeDeferred hK,_,results_tmp Z _ _ _,?_⟩⟩
  rw [hv]
  exact ⟨rfl,M2.grown,M2.at (q:=(bm,memG j s0 s1)) (by (repeat' (first | exact Zz2 | refine Zz1 ?_)))⟩
 case stop =>
  rintro D cd pre W hD hSp ⟨rfl,M,hp,-⟩ hK
  refine wpIn_wide.2 ?_
  go_wp2_with (first | (refine Zm1 M rfl rfl rfl ?_) | (refine Zm2 M rfl rfl rfl ?_) | (refine Zm3 M rfl rfl rfl ?_;clear M;(try clear wc);intro wc M) | (refine m_al M rfl rfl ?_;clear M;(try clear wc);intro g wc M) | (refine Zm4 M rfl rfl ?_;clear M;(try clear wc);intro g wc M))
  rw [Exit.noGoto_ret]
  have M2:=M.far (grownBy_putObj' W D (.deferred none)) (n0:=wc.heap.size) (fun r e=>by cases e;exact hD) hz0 hL'
  have hv:readsP j s0 s1 n p0 p1 t r=false:=by
   obtain ⟨s,hs⟩:=hSp
   have h2:=hp.out
   unfold allS at h2
   unfold readsP
   rw [← hs,List.all_append]
   rw [show (pre.map (fun x=>x.1))=pre.map Subtype.val from rfl,h2]
   rfl
  refine ⟨by simp,.inl ⟨_,_,Z,run_takeDeferred hK,_,results_tmp Z _ _ _,?_⟩⟩
  rw [hv]
  exact ⟨rfl,M2.grown,M2.at (q:=(bm,memG j s0 s1)) (by (repeat' (first | exact Zz2 | refine Zz1 ?_)))⟩
end
theorem movedT (j:Jb) (A:Option Addr) (c:Nat) (s0 s1:Int) (bg bx:Nat) (p0 p1 t r:Int) (n:Nat) (w:World) (hg:j.good) (hb:Bnd (n+1) p0 p1 t r) :
  Calls prog 235 #[.agg (gmA j A c s0 s1 bg bx).toArray,kn5 p0 p1 t r ((n:Int)+1),.int .i64 1] w fun e w'=>e=.returned (.tuple #[kn5 (p0+j.u0) (p1+j.u1) (t+1) r n,.bool (okT j (t+1) r)])∧Below w.heap.size w w':=by
 obtain ⟨h1,h2,h3,h4,h5⟩:=hb
 have h:=moved_tip j A c s0 s1 bg bx p0 p1 t r ((n:Int)+1) w hg (by omega) (by omega) (by omega) (by omega) (by omega)
 rw [show (n:Int)+1 - 1=n from by omega] at h
 exact h
theorem movedR (j:Jb) (A:Option Addr) (c:Nat) (s0 s1:Int) (bg bx:Nat) (p0 p1 t r:Int) (n:Nat) (w:World) (hg:j.good) (hb:Bnd (n+1) p0 p1 t r) :
  Calls prog 235 #[.agg (gmA j A c s0 s1 bg bx).toArray,kn5 p0 p1 t r ((n:Int)+1),.int .i64 2] w fun e w'=>e=.returned (.tuple #[kn5 (p0 - j.d1) (p1 - j.d0) t (r+1) n,.bool (okT j t (r+1))])∧Below w.heap.size w w':=by
 obtain ⟨h1,h2,h3,h4,h5⟩:=hb
 have h:=moved_root j A c s0 s1 bg bx p0 p1 t r ((n:Int)+1) w hg (by omega) (by omega) (by omega) (by omega) (by omega)
 rw [show (n:Int)+1 - 1=n from by omega] at h
 exact h
theorem bnd_tip {j:Jb} {n:Nat} {p0 p1 t r:Int} (hj:j.good) (h:Bnd (n+1) p0 p1 t r):Bnd n (p0+j.u0) (p1+j.u1) (t+1) r:=by
 obtain ⟨h1,h2,h3,h4,h5⟩:=h
 have:=hj.u
 exact ⟨by omega,by omega,by omega,by omega,by omega⟩
theorem bnd_root {j:Jb} {n:Nat} {p0 p1 t r:Int} (hj:j.good) (h:Bnd (n+1) p0 p1 t r):Bnd n (p0 - j.d1) (p1 - j.d0) t (r+1):=by
 obtain ⟨h1,h2,h3,h4,h5⟩:=h
 have:=hj.d
 exact ⟨by omega,by omega,by omega,by omega,by omega⟩
theorem stroke_0 (j:Jb) (A:Option Addr) (c:Nat) (s0 s1:Int) (bg bx bm:Nat) (p0 p1 t r:Int) (w:World) (hg:Gm j A c s0 s1 bg bx bm w) :
  Calls prog 208 #[.agg (gmA j A c s0 s1 bg bx).toArray,kn5 p0 p1 t r 0] w (GPost j s0 s1 bm (.int .i64 0) w):=by
 have M:=Mem.initEx hg.m
 clear hg
 go_enter func208,Tryz.ntmps208
 refine m_start M ?_
 clear M
 intro wc M
 go_wp2_with (first | (refine Zm1 M rfl rfl rfl ?_) | (refine Zm2 M rfl rfl rfl ?_) | (refine Zm3 M rfl rfl rfl ?_;clear M;(try clear wc);intro wc M) | (refine m_al M rfl rfl ?_;clear M;(try clear wc);intro g wc M) | (refine Zm4 M rfl rfl ?_;clear M;(try clear wc);intro g wc M))
 rename_i gG K0 hK0
 go_loopw [5] (fun v wr=>v=.int .i64 1∧Mem w (fun b=>b=bm) wr [(g,.cells [.int .i64 p0,.int .i64 p1,.int .i64 t,.int .i64 r,.int .i64 0]),(gG,.cells (gmA j A c s0 s1 bg bx)),(bm,memG j s0 s1)]) (fun _ _=>0)
 case atStart=>exact ⟨rfl,M⟩
 case round =>
  clear M wc
  obtain ⟨rfl,M⟩:=hrel
  obtain ⟨wc,rfl⟩:∃ x:World,x=wr:=⟨_,rfl⟩
  go_wp2_with (first | (refine Zm1 M rfl rfl rfl ?_) | (refine Zm2 M rfl rfl rfl ?_) | (refine Zm3 M rfl rfl rfl ?_;clear M;(try clear wc);intro wc M) | (refine m_al M rfl rfl ?_;clear M;(try clear wc);intro g wc M) | (refine Zm4 M rfl rfl ?_;clear M;(try clear wc);intro g wc M))
  go_ret
  exact ⟨rfl,M.grown,(M.at (q:=(bm,memG j s0 s1)) (by (repeat' (first | exact Zz2 | refine Zz1 ?_))))⟩
set_option maxHeartbeats 2000000 in
theorem stroke_s (j:Jb) (A:Option Addr) (c:Nat) (s0 s1:Int) (bg bx bm:Nat) (n:Nat) (hj:j.good) (hS:StopsC j A c s0 s1 bg bx bm n) (p0 p1 t r:Int) (w:World) (hb:Bnd (n+1) p0 p1 t r) (hg:Gm j A c s0 s1 bg bx bm w) :
  Calls prog 208 #[.agg (gmA j A c s0 s1 bg bx).toArray,kn5 p0 p1 t r ((n:Int)+1)] w (GPost j s0 s1 bm (.int .i64 (strokeP j s0 s1 (n+1) p0 p1 t r)) w):=by
 have M:=Mem.initEx hg.m
 have HS:=Lib.hid hS
 have HG:=Lib.hid hg
 have HB:=Lib.hid hb
 have HJ:=Lib.hid hj
 have HV:Hid (strokeP j s0 s1 (n+1) p0 p1 t r=if (okT j (t+1) r && readsP j s0 s1 n (p0+j.u0) (p1+j.u1) (t+1) r)=true then 1 else if (okT j t (r+1) && readsP j s0 s1 n (p0 - j.d1) (p1 - j.d0) t (r+1))=true then 2 else 0):=rfl
 generalize strokeP j s0 s1 (n+1) p0 p1 t r=sv at *
 have hln:(0:Int) < (n:Int)+1:=by omega
 generalize ho1:okT j (t+1) r=o1 at *
 generalize ho2:okT j t (r+1)=o2 at *
 generalize hr1:readsP j s0 s1 n (p0+j.u0) (p1+j.u1) (t+1) r=v1 at *
 generalize hr2:readsP j s0 s1 n (p0 - j.d1) (p1 - j.d0) t (r+1)=v2 at *
 have HO1:=Lib.hid ho1
 have HO2:=Lib.hid ho2
 have HR1:=Lib.hid hr1
 have HR2:=Lib.hid hr2
 clear hS hg hb hj ho1 ho2 hr1 hr2
 go_enter func208,Tryz.ntmps208
 refine m_start M ?_
 clear M
 intro wc M
 go_wp2_with (first | (refine Zm1 M rfl rfl rfl ?_) | (refine Zm2 M rfl rfl rfl ?_) | (refine Zm3 M rfl rfl rfl ?_;clear M;(try clear wc);intro wc M) | (refine m_al M rfl rfl ?_;clear M;(try clear wc);intro g wc M) | (refine Zm4 M rfl rfl ?_;clear M;(try clear wc);intro g wc M))
 rename_i gG K0 hK0
 go_loopw [5] (fun v wr=>∃ s:Int,v=.int .i64 s∧(s=1∨s=2∨s=3)∧Hid (s=1∨(o1 && v1)=false)∧Hid (s=3→(o2 && v2)=false)∧Mem w (fun b=>b=bm) wr [(g,.cells [.int .i64 p0,.int .i64 p1,.int .i64 t,.int .i64 r,.int .i64 ((n:Int)+1)]),(gG,.cells (gmA j A c s0 s1 bg bx)),(bm,memG j s0 s1)]) (fun v _=>(3 - intOf v).toNat)
 case atStart=>exact ⟨1,rfl,.inl rfl,.inl rfl,fun h=>by omega,M⟩
 case round =>
  clear M wc
  obtain ⟨s,rfl,hs,h1,h2,M⟩:=hrel
  obtain ⟨wc,rfl⟩:∃ x:World,x=wr:=⟨_,rfl⟩
  rcases hs with rfl | rfl | rfl
  ·cases o1 with
   | false =>
    go_wp2_with (first | (refine Zm1 M rfl rfl rfl ?_) | (refine Zm2 M rfl rfl rfl ?_) | (refine Zm3 M rfl rfl rfl ?_;clear M;(try clear wc);intro wc M) | (refine m_al M rfl rfl ?_;clear M;(try clear wc);intro g wc M) | (refine Zm4 M rfl rfl ?_;clear M;(try clear wc);intro g wc M) | (go_at_call 235;((with_reducible refine (movedT j A c s0 s1 bg bx p0 p1 t r n _ HJ.out HB.out).mono ?_);(rw [HO1.out]);rintro e wc ⟨rfl,hb⟩;replace M:=M.call hb;clear hb)))
    go_roundw
    case rel=>exact ⟨2,rfl,by simp,.inr rfl,(fun h=>by omega),M.sub (by (repeat (first | exact List.Sublist.slnil | apply List.Sublist.cons_cons | apply List.Sublist.cons)))⟩
    case measure=>decide
   | true =>
    cases v1 with
    | false =>
     go_wp2_with (first | (refine Zm1 M rfl rfl rfl ?_) | (refine Zm2 M rfl rfl rfl ?_) | (refine Zm3 M rfl rfl rfl ?_;clear M;(try clear wc);intro wc M) | (refine m_al M rfl rfl ?_;clear M;(try clear wc);intro g wc M) | (refine Zm4 M rfl rfl ?_;clear M;(try clear wc);intro g wc M) | (go_at_call 235;((with_reducible refine (movedT j A c s0 s1 bg bx p0 p1 t r n _ HJ.out HB.out).mono ?_);(rw [HO1.out]);rintro e wc ⟨rfl,hb⟩;replace M:=M.call hb;clear hb)) | (go_at_call 161;((with_reducible refine (reads_any j A c s0 s1 bg bx bm n HJ.out HS.out (p0+j.u0) (p1+j.u1) (t+1) r _ (bnd_tip HJ.out HB.out) (HG.out.kept M.grown (M.at (q:=(bm,memG j s0 s1)) (by (repeat' (first | exact Zz2 | refine Zz1 ?_)))))).mono ?_);rintro e wc ⟨rfl,hgr,hm⟩;(rw [HR1.out]);replace M:=M.callW (by (repeat (first | exact Upd.head | apply Upd.tail))) hgr hm;clear hgr hm)))
     go_roundw
     case rel=>exact ⟨2,rfl,by simp,.inr rfl,(fun h=>by omega),M.sub (by (repeat (first | exact List.Sublist.slnil | apply List.Sublist.cons_cons | apply List.Sublist.cons)))⟩
     case measure=>decide
    | true =>
     go_wp2_with (first | (refine Zm1 M rfl rfl rfl ?_) | (refine Zm2 M rfl rfl rfl ?_) | (refine Zm3 M rfl rfl rfl ?_;clear M;(try clear wc);intro wc M) | (refine m_al M rfl rfl ?_;clear M;(try clear wc);intro g wc M) | (refine Zm4 M rfl rfl ?_;clear M;(try clear wc);intro g wc M) | (go_at_call 235;((with_reducible refine (movedT j A c s0 s1 bg bx p0 p1 t r n _ HJ.out HB.out).mono ?_);(rw [HO1.out]);rintro e wc ⟨rfl,hb⟩;replace M:=M.call hb;clear hb)) | (go_at_call 161;((with_reducible refine (reads_any j A c s0 s1 bg bx bm n HJ.out HS.out (p0+j.u0) (p1+j.u1) (t+1) r _ (bnd_tip HJ.out HB.out) (HG.out.kept M.grown (M.at (q:=(bm,memG j s0 s1)) (by (repeat' (first | exact Zz2 | refine Zz1 ?_)))))).mono ?_);rintro e wc ⟨rfl,hgr,hm⟩;(rw [HR1.out]);replace M:=M.callW (by (repeat (first | exact Upd.head | apply Upd.tail))) hgr hm;clear hgr hm)))
     go_ret
     exact ⟨ret_int (show sv=1 from by rw [HV.out];rfl).symm,M.grown,(M.at (q:=(bm,memG j s0 s1)) (by (repeat' (first | exact Zz2 | refine Zz1 ?_))))⟩
  ·have h1':Hid ((3:Int)=1∨(o1 && v1)=false):=.inr (by have:=h1.out;simpa using this)
   cases o2 with
   | false =>
    go_wp2_with (first | (refine Zm1 M rfl rfl rfl ?_) | (refine Zm2 M rfl rfl rfl ?_) | (refine Zm3 M rfl rfl rfl ?_;clear M;(try clear wc);intro wc M) | (refine m_al M rfl rfl ?_;clear M;(try clear wc);intro g wc M) | (refine Zm4 M rfl rfl ?_;clear M;(try clear wc);intro g wc M) | (go_at_call 235;((with_reducible refine (movedR j A c s0 s1 bg bx p0 p1 t r n _ HJ.out HB.out).mono ?_);(rw [HO2.out]);rintro e wc ⟨rfl,hb⟩;replace M:=M.call hb;clear hb)))
    go_roundw
    case rel=>exact ⟨3,rfl,by simp,h1' ,(fun _=>rfl),M.sub (by (repeat (first | exact List.Sublist.slnil | apply List.Sublist.cons_cons | apply List.Sublist.cons)))⟩
    case measure=>decide
   | true =>
    cases v2 with
    | false =>
     go_wp2_with (first | (refine Zm1 M rfl rfl rfl ?_) | (refine Zm2 M rfl rfl rfl ?_) | (refine Zm3 M rfl rfl rfl ?_;clear M;(try clear wc);intro wc M) | (refine m_al M rfl rfl ?_;clear M;(try clear wc);intro g wc M) | (refine Zm4 M rfl rfl ?_;clear M;(try clear wc);intro g wc M) | (go_at_call 235;((with_reducible refine (movedR j A c s0 s1 bg bx p0 p1 t r n _ HJ.out HB.out).mono ?_);(rw [HO2.out]);rintro e wc ⟨rfl,hb⟩;replace M:=M.call hb;clear hb)) | (go_at_call 161;((with_reducible refine (reads_any j A c s0 s1 bg bx bm n HJ.out HS.out (p0 - j.d1) (p1 - j.d0) t (r+1) _ (bnd_root HJ.out HB.out) (HG.out.kept M.grown (M.at (q:=(bm,memG j s0 s1)) (by (repeat' (first | exact Zz2 | refine Zz1 ?_)))))).mono ?_);rintro e wc ⟨rfl,hgr,hm⟩;(rw [HR2.out]);replace M:=M.callW (by (repeat (first | exact Upd.head | apply Upd.tail))) hgr hm;clear hgr hm)))
     go_roundw
     case rel=>exact ⟨3,rfl,by simp,h1' ,(fun _=>rfl),M.sub (by (repeat (first | exact List.Sublist.slnil | apply List.Sublist.cons_cons | apply List.Sublist.cons)))⟩
     case measure=>decide
    | true =>
     go_wp2_with (first | (refine Zm1 M rfl rfl rfl ?_) | (refine Zm2 M rfl rfl rfl ?_) | (refine Zm3 M rfl rfl rfl ?_;clear M;(try clear wc);intro wc M) | (refine m_al M rfl rfl ?_;clear M;(try clear wc);intro g wc M) | (refine Zm4 M rfl rfl ?_;clear M;(try clear wc);intro g wc M) | (go_at_call 235;((with_reducible refine (movedR j A c s0 s1 bg bx p0 p1 t r n _ HJ.out HB.out).mono ?_);(rw [HO2.out]);rintro e wc ⟨rfl,hb⟩;replace M:=M.call hb;clear hb)) | (go_at_call 161;((with_reducible refine (reads_any j A c s0 s1 bg bx bm n HJ.out HS.out (p0 - j.d1) (p1 - j.d0) t (r+1) _ (bnd_root HJ.out HB.out) (HG.out.kept M.grown (M.at (q:=(bm,memG j s0 s1)) (by (repeat' (first | exact Zz2 | refine Zz1 ?_)))))).mono ?_);rintro e wc ⟨rfl,hgr,hm⟩;(rw [HR2.out]);replace M:=M.callW (by (repeat (first | exact Upd.head | apply Upd.tail))) hgr hm;clear hgr hm)))
     go_ret
     exact ⟨ret_int (show sv=2 from by (have h:=h1'.out;rw [HV.out,if_neg (by simpa using h)];rfl)).symm,M.grown,(M.at (q:=(bm,memG j s0 s1)) (by (repeat' (first | exact Zz2 | refine Zz1 ?_))))⟩
  ·go_wp2_with (first | (refine Zm1 M rfl rfl rfl ?_) | (refine Zm2 M rfl rfl rfl ?_) | (refine Zm3 M rfl rfl rfl ?_;clear M;(try clear wc);intro wc M) | (refine m_al M rfl rfl ?_;clear M;(try clear wc);intro g wc M) | (refine Zm4 M rfl rfl ?_;clear M;(try clear wc);intro g wc M))
   go_ret
   have e:sv=0:=by
    have h:=h1.out
    have h':(o2 && v2)=false:=by first | exact h2.out rfl | exact h2.out | (have:=h2.out;simpa using this)
    rw [HV.out,if_neg (by simpa using h),if_neg (by rw [h'];simp)]
   exact ⟨ret_int e.symm,M.grown,(M.at (q:=(bm,memG j s0 s1)) (by (repeat' (first | exact Zz2 | refine Zz1 ?_))))⟩
theorem kn5_inj {p0 p1 t r a b c d:Int} {n m:Nat} (h:kn5 p0 p1 t r n=kn5 a b c d m):p0=a∧p1=b∧t=c∧r=d∧n=m:=by
 simp at h
 exact ⟨h.1,h.2.1,h.2.2.1,h.2.2.2.1,by have:=h.2.2.2.2;omega⟩
theorem stops_of (j:Jb) (A:Option Addr) (c:Nat) (s0 s1:Int) (bg bx bm:Nat) (n:Nat) (p0 p1 t r:Int) (w:World) (hb:Bnd n p0 p1 t r) (hg:Gm j A c s0 s1 bg bx bm w)
  (hs:∀ w',Gm j A c s0 s1 bg bx bm w'→Calls prog 208 #[.agg (gmA j A c s0 s1 bg bx).toArray,kn5 p0 p1 t r n] w' (GPost j s0 s1 bm (.int .i64 (strokeP j s0 s1 n p0 p1 t r)) w')) :
  Calls prog 206 #[kn5 p0 p1 t r n,.pointer (some ⟨bg,0,none⟩),.pointer (some ⟨bx,0,none⟩)] w (GPost j s0 s1 bm (.bool (stopsP j s0 s1 n p0 p1 t r)) w):=by
 have M:=Mem.initEx hg.m
 have HG:=Lib.hid hg
 have HS:=Lib.hid hs
 have HE:=Lib.hid (stopsP_eq j s0 s1 n p0 p1 t r)
 obtain ⟨kl,hkl⟩:=Tryz.kn_key ⟨p0,p1,t,r,n⟩ (by obtain ⟨h1,h2,h3,h4,h5⟩:=hb;exact ⟨by dsimp only;omega,by dsimp only;omega,by dsimp only;omega,by dsimp only;omega,by dsimp only;omega⟩)
 have HK:=Lib.hid hkl
 have HO:Hid (∀ v,okG j s0 s1 (kn5 p0 p1 t r n) v↔v=.bool (stopsP j s0 s1 n p0 p1 t r)):=by
  intro v
  refine ⟨fun h=>h p0 p1 t r n Z,fun h a b c d m e=>?_⟩
  obtain ⟨rfl,rfl,rfl,rfl,rfl⟩:=kn5_inj e
  exact h
 clear hg hs hkl hb
 generalize hst:stopsP j s0 s1 n p0 p1 t r=sv at *
 generalize hsk:strokeP j s0 s1 n p0 p1 t r=kv at *
 clear hst hsk
 cases hh:hasB s0 s1 p0 p1 with
 | true =>
  have HH:=Lib.hid hh
  have HV:Hid (sv=true):=by show _=_;rw [HE.out,hh];rfl
  clear hh
  go_enter func206,Tryz.ntmps206
  refine m_start M ?_
  clear M
  intro wc M
  go_wp2_with (first | (refine Zm1 M rfl rfl rfl ?_) | (refine Zm2 M rfl rfl rfl ?_) | (refine Zm3 M rfl rfl rfl ?_;clear M;(try clear wc);intro wc M) | (refine m_al M rfl rfl ?_;clear M;(try clear wc);intro g wc M) | (refine Zm4 M rfl rfl ?_;clear M;(try clear wc);intro g wc M) | (refine lo_row (M.old HG.out.g HG.out.ng) rfl rfl rfl (by (try simp only [Zy2,List.take_zero,List.take_nil,Zy1,List.drop_zero,List.drop_nil,Zx6,Zx5,Zx4,Zx1,Zx2,Nat.reduceAdd,Zxa,Zx0]);rfl) (by rfl) ?_) | (go_at_call 207;((with_reducible refine (has_any _ _ _ _ _).mono ?_);(rw [HH.out]);rintro e wc ⟨rfl,hb⟩;replace M:=M.call hb;clear hb)))
  go_ret
  rw [HV.out]
  exact ⟨rfl,M.grown,(M.at (q:=(bm,memG j s0 s1)) (by (repeat' (first | exact Zz2 | refine Zz1 ?_))))⟩
 | false =>
  have HH:=Lib.hid hh
  have HV:Hid (sv=decide (0 < kv)):=by show _=_;rw [HE.out,hh];rfl
  clear hh
  go_enter func206,Tryz.ntmps206
  refine m_start M ?_
  clear M
  intro wc M
  go_wp2_with (first | (refine Zm1 M rfl rfl rfl ?_) | (refine Zm2 M rfl rfl rfl ?_) | (refine Zm3 M rfl rfl rfl ?_;clear M;(try clear wc);intro wc M) | (refine m_al M rfl rfl ?_;clear M;(try clear wc);intro g wc M) | (refine Zm4 M rfl rfl ?_;clear M;(try clear wc);intro g wc M) | (refine lo_row (M.old HG.out.g HG.out.ng) rfl rfl rfl (by (try simp only [Zy2,List.take_zero,List.take_nil,Zy1,List.drop_zero,List.drop_nil,Zx6,Zx5,Zx4,Zx1,Zx2,Nat.reduceAdd,Zxa,Zx0]);rfl) (by rfl) ?_) | (refine lo_one (cs:=[.map (some bm)]) (M.old HG.out.x HG.out.nx) rfl rfl rfl (by rfl) ?_) | (go_at_call 207;((with_reducible refine (has_any _ _ _ _ _).mono ?_);(rw [HH.out]);rintro e wc ⟨rfl,hb⟩;replace M:=M.call hb;clear hb)) | ((refine lk (ok:=okG j s0 s1) Tryz.keyed underlying301 Tryz.zeroBool M rfl rfl rfl rfl (by (repeat' (first | exact Zz2 | refine Zz1 ?_))) HK.out ?_ ?_);(intro v hv;have hv:=(HO.out v).1 hv;subst hv)) | (go_at_call 208;((with_reducible refine (HS.out _ (HG.out.kept M.grown (M.at (q:=(bm,memG j s0 s1)) (by (repeat' (first | exact Zz2 | refine Zz1 ?_)))))).mono ?_);rintro e wc ⟨rfl,hgr,hm⟩;skip;replace M:=M.callW (by (repeat (first | exact Upd.head | apply Upd.tail))) hgr hm;clear hgr hm)) | (refine mu (ok:=okG j s0 s1) Tryz.keyed underlying301 M rfl rfl rfl rfl rfl (by (repeat (first | exact Upd.head | apply Upd.tail))) HK.out ((HO.out _).2 (by rw [HV.out];rfl)) ?_;clear M;(try clear wc);intro wc M))
  ·go_ret
   exact ⟨rfl,M.grown,(M.at (q:=(bm,memG j s0 s1)) (by (repeat' (first | exact Zz2 | refine Zz1 ?_))))⟩
  ·go_ret
   rw [HV.out]
   exact ⟨rfl,M.grown,(M.at (q:=(bm,memG j s0 s1)) (by (repeat' (first | exact Zz2 | refine Zz1 ?_))))⟩
theorem stops_any (j:Jb) (A:Option Addr) (c:Nat) (s0 s1:Int) (bg bx bm:Nat) (hj:j.good):∀ n,StopsC j A c s0 s1 bg bx bm n
 | 0=>fun p0 p1 t r w hb hg=>stops_of j A c s0 s1 bg bx bm 0 p0 p1 t r w hb hg fun w' hg'=>stroke_0 j A c s0 s1 bg bx bm p0 p1 t r w' hg'
 | n+1=>fun p0 p1 t r w hb hg=>stops_of j A c s0 s1 bg bx bm (n+1) p0 p1 t r w hb hg fun w' hg'=>stroke_s j A c s0 s1 bg bx bm n hj (stops_any j A c s0 s1 bg bx bm hj n) p0 p1 t r w' hb hg'
theorem readsC (j:Jb) (A:Option Addr) (c:Nat) (s0 s1:Int) (bg bx bm:Nat) (hj:j.good) (n:Nat) (p0 p1 t r:Int) (w:World) (hb:Bnd n p0 p1 t r) (hg:Gm j A c s0 s1 bg bx bm w) :
  Calls prog 161 #[.agg (gmA j A c s0 s1 bg bx).toArray,kn5 p0 p1 t r n] w (GPost j s0 s1 bm (.bool (readsP j s0 s1 n p0 p1 t r)) w):=reads_any j A c s0 s1 bg bx bm n hj (stops_any j A c s0 s1 bg bx bm hj n) p0 p1 t r w hb hg
def firstB (b:Nat→Bool):Nat→Nat→Option Nat
 | 0,_=>none
 | k+1,n=>if b n=true then some n else firstB b k (n+1)
theorem first_hit {b:Nat→Bool} {n:Nat} (hn:n < 5) (h:b n=true):firstB b (5 - n) n=some n:=by
 obtain ⟨k,hk⟩:∃ k,5 - n=k+1:=⟨4 - n,by omega⟩
 rw [hk,firstB,if_pos h]
theorem first_miss {b:Nat→Bool} {n:Nat} (hn:n < 5) (h:b n=false):firstB b (5 - n) n=firstB b (5 - (n+1)) (n+1):=by
 obtain ⟨k,hk⟩:∃ k,5 - n=k+1:=⟨4 - n,by omega⟩
 have hk2:5 - (n+1)=k:=by omega
 rw [hk,firstB,if_neg (by rw [h];simp),hk2]
theorem first_end {b:Nat→Bool} {n:Nat} (hn:5≤n):firstB b (5 - n) n=none:=by
 have:5 - n=0:=by omega
 rw [this];rfl
def fewV (o:Option Nat):Value:=match o with | some n=>.tuple #[.int .i64 n,.bool true] | none=>.tuple #[.int .i64 0,.bool false]
theorem fewest_Guided (j:Jb) (s0 s1:Int) (bm gG gJ:Nat) (b:Nat→Bool) (Inv:World→Prop) (hI:∀ W W',Inv W→W.grownBy W' (some bm)→(memG j s0 s1).holds W' bm→Inv W')
  (hf:∀ (n:Nat) W,n < 5→Inv W→Calls prog 160 #[.int .i64 n,.pointer (some ⟨gG,0,none⟩),.pointer (some ⟨gJ,0,none⟩)] W (GPost j s0 s1 bm (.bool (b n)) W)) (w:World) (h0:Inv w) (hm:(memG j s0 s1).holds w bm) :
  Calls prog 159 #[.func (.func 160) #[] #[.pointer (some ⟨gG,0,none⟩),.pointer (some ⟨gJ,0,none⟩)]] w (GPost j s0 s1 bm (fewV (firstB b 5 0)) w):=by
 have HI:=Lib.hid hI
 have HF:=Lib.hid hf
 have H0:=Lib.hid h0
 have M:=Mem.initEx hm
 clear hI hf h0 hm
 generalize hv:firstB b 5 0=fv at *
 have HV:=Lib.hid hv
 clear hv
 go_enter func159,Tryz.ntmps159
 refine m_start M ?_
 clear M
 intro wc M
 go_wp2_with (first | (refine Zm1 M rfl rfl rfl ?_) | (refine Zm2 M rfl rfl rfl ?_) | (refine Zm3 M rfl rfl rfl ?_;clear M;(try clear wc);intro wc M) | (refine m_al M rfl rfl ?_;clear M;(try clear wc);intro g wc M) | (refine Zm4 M rfl rfl ?_;clear M;(try clear wc);intro g wc M))
 go_loopw [5] (fun v wr=>∃ n:Nat,v=.int .i64 n∧n≤5∧Hid (firstB b 5 0=firstB b (5 - n) n)∧Mem w (fun b=>b=bm) wr [(bm,memG j s0 s1)]) (fun v _=>(5 - intOf v).toNat)
 case atStart=>exact ⟨0,rfl,by omega,rfl,M⟩
 case round =>
  clear M wc
  obtain ⟨n,rfl,hn,he,M⟩:=hrel
  obtain ⟨wc,rfl⟩:∃ x:World,x=wr:=⟨_,rfl⟩
  by_cases hlt:n < 5
  ·have e1:decide ((n:Int) < 5)=true:=by simp;omega
   have HL:=Lib.hid hlt
   have CI:=Lib.hid (HI.out w wc H0.out M.grown (M.at (q:=(bm,memG j s0 s1)) (by (repeat' (first | exact Zz2 | refine Zz1 ?_)))))
   cases hb:b n with
   | true =>
    have HB:=Lib.hid hb
    clear hb
    go_wp2_with (first | (refine Zm1 M rfl rfl rfl ?_) | (refine Zm2 M rfl rfl rfl ?_) | (refine Zm3 M rfl rfl rfl ?_;clear M;(try clear wc);intro wc M) | (refine m_al M rfl rfl ?_;clear M;(try clear wc);intro g wc M) | (refine Zm4 M rfl rfl ?_;clear M;(try clear wc);intro g wc M) | (go_at_call 160;((with_reducible refine (HF.out n _ HL.out CI.out).mono ?_);rintro e wc ⟨rfl,hgr,hm⟩;(rw [HB.out]);replace M:=M.callW (by (repeat (first | exact Upd.head | apply Upd.tail))) hgr hm;clear hgr hm)))
    go_ret2
    have e:fv=some n:=by rw [← HV.out,he.out,first_hit HL.out HB.out]
    rw [e]
    exact ⟨rfl,M.grown,(M.at (q:=(bm,memG j s0 s1)) (by (repeat' (first | exact Zz2 | refine Zz1 ?_))))⟩
   | false =>
    have HB:=Lib.hid hb
    clear hb
    go_wp2_with (first | (refine Zm1 M rfl rfl rfl ?_) | (refine Zm2 M rfl rfl rfl ?_) | (refine Zm3 M rfl rfl rfl ?_;clear M;(try clear wc);intro wc M) | (refine m_al M rfl rfl ?_;clear M;(try clear wc);intro g wc M) | (refine Zm4 M rfl rfl ?_;clear M;(try clear wc);intro g wc M) | (go_at_call 160;((with_reducible refine (HF.out n _ HL.out CI.out).mono ?_);rintro e wc ⟨rfl,hgr,hm⟩;(rw [HB.out]);replace M:=M.callW (by (repeat (first | exact Upd.head | apply Upd.tail))) hgr hm;clear hgr hm)))
    go_roundw
    case rel=>exact ⟨n+1,by go_num,by omega,by (show _=_;rw [he.out,first_miss HL.out HB.out]),M⟩
    case measure=>simp [intOf];omega
  ·have e1:decide ((n:Int) < 5)=false:=by simp;omega
   go_wp2_with (first | (refine Zm1 M rfl rfl rfl ?_) | (refine Zm2 M rfl rfl rfl ?_) | (refine Zm3 M rfl rfl rfl ?_;clear M;(try clear wc);intro wc M) | (refine m_al M rfl rfl ?_;clear M;(try clear wc);intro g wc M) | (refine Zm4 M rfl rfl ?_;clear M;(try clear wc);intro g wc M))
   go_ret2
   have e:fv=none:=by rw [← HV.out,he.out,first_end (by omega)]
   rw [e]
   exact ⟨rfl,M.grown,(M.at (q:=(bm,memG j s0 s1)) (by (repeat' (first | exact Zz2 | refine Zz1 ?_))))⟩
structure Gn (j:Jb) (A:Option Addr) (c:Nat) (s0 s1:Int) (bg bx bm gG gJ:Nat) (w:World):Prop where
 g:Gm j A c s0 s1 bg bx bm w
 b:Bk w gG (gmA j A c s0 s1 bg bx).toArray
 j:Bk w gJ #[.int .i64 j.p0,.int .i64 j.p1,.int .i64 j.t0,.int .i64 j.t1,.int .i64 j.r0,.int .i64 j.r1,.int .i64 j.u0,.int .i64 j.u1,.int .i64 j.d0,.int .i64 j.d1,.int .i64 j.a0,.int .i64 j.a1,.int .i64 j.b0,.int .i64 j.b1,.int .i64 j.le,.slice A j.sh.length c,.int .i64 j.wi,.int .i64 j.me]
 nb:gG≠bm
 nj:gJ≠bm
theorem Gn.kept {j:Jb} {A:Option Addr} {c:Nat} {s0 s1:Int} {bg bx bm gG gJ:Nat} {w w':World} (h:Gn j A c s0 s1 bg bx bm gG gJ w) (hg:w.grownBy w' (some bm)) (hm:(memG j s0 s1).holds w' bm):Gn j A c s0 s1 bg bx bm gG gJ w' :=
 ⟨h.g.kept hg hm,h.b.grown hg (fun e=>h.nb (by injection e)),h.j.grown hg (fun e=>h.nj (by injection e)),h.nb,h.nj⟩
theorem bnd_0 {j:Jb} (hj:j.good) {n:Nat} (hn:n < 5):Bnd n j.p0 j.p1 0 0:=by
 have:=hj.p
 exact ⟨by omega,by omega,by omega,by omega,by omega⟩
theorem Guided1_any (j:Jb) (A:Option Addr) (c:Nat) (s0 s1:Int) (bg bx bm gG gJ:Nat) (hj:j.good) (n:Nat) (hn:n < 5) (w:World) (hg:Gn j A c s0 s1 bg bx bm gG gJ w) :
  Calls prog 160 #[.int .i64 n,.pointer (some ⟨gG,0,none⟩),.pointer (some ⟨gJ,0,none⟩)] w (GPost j s0 s1 bm (.bool (readsP j s0 s1 n j.p0 j.p1 0 0)) w):=by
 have M:=Mem.initEx hg.g.m
 have HG:=Lib.hid hg
 have HJ:=Lib.hid hj
 clear hg hj
 go_enter func160,Tryz.ntmps160
 refine m_start M ?_
 clear M
 intro wc M
 go_wp2_with (first | (refine Zm1 M rfl rfl rfl ?_) | (refine Zm2 M rfl rfl rfl ?_) | (refine Zm3 M rfl rfl rfl ?_;clear M;(try clear wc);intro wc M) | (refine m_al M rfl rfl ?_;clear M;(try clear wc);intro g wc M) | (refine Zm4 M rfl rfl ?_;clear M;(try clear wc);intro g wc M) | (refine lo_row (M.old HG.out.b HG.out.nb) rfl rfl rfl (by (try simp only [Zy2,List.take_zero,List.take_nil,Zy1,List.drop_zero,List.drop_nil,Zx6,Zx5,Zx4,Zx1,Zx2,Nat.reduceAdd,Zxa,Zx0]);rfl) (by rfl) ?_) | (refine lo_row (M.old HG.out.j HG.out.nj) rfl rfl rfl (by (try simp only [Zy2,List.take_zero,List.take_nil,Zy1,List.drop_zero,List.drop_nil,Zx6,Zx5,Zx4,Zx1,Zx2,Nat.reduceAdd,Zxa,Zx0]);rfl) (by rfl) ?_) | (go_at_call 161;((with_reducible refine (readsC j A c s0 s1 bg bx bm HJ.out n j.p0 j.p1 0 0 _ (bnd_0 HJ.out hn) (HG.out.kept M.grown (M.at (q:=(bm,memG j s0 s1)) (by (repeat' (first | exact Zz2 | refine Zz1 ?_))))).g).mono ?_);rintro e wc ⟨rfl,hgr,hm⟩;skip;replace M:=M.callW (by (repeat (first | exact Upd.head | apply Upd.tail))) hgr hm;clear hgr hm)))
 go_ret
 exact ⟨rfl,M.grown,(M.at (q:=(bm,memG j s0 s1)) (by (repeat' (first | exact Zz2 | refine Zz1 ?_))))⟩
def guidedF (j:Jb):Option Nat:=firstB (fun n=>readsP j (winS j).1 (winS j).2 n j.p0 j.p1 0 0) 5 0
def guidedJ (j:Jb):Int×Int:=if checkJ j=0 then (match guidedF j with | some n=>((n:Int),0) | none=>(0,11)) else (0,checkJ j)
theorem Gn.of_mem {j:Jb} {A:Option Addr} {c:Nat} {s0 s1:Int} {bg bx bm gG gJ:Nat} {w0 w:World} {ex:Nat→Prop} {L:List (Nat×BA)} (M:Mem w0 ex w L)
  (h:[(gG,.cells (gmA j A c s0 s1 bg bx)),(bx,.cells [.map (some bm)]),(bm,memG j s0 s1),(bg,.cells (gmA j A c s0 s1 bg bx)),(gJ,.cells [.int .i64 j.p0,.int .i64 j.p1,.int .i64 j.t0,.int .i64 j.t1,.int .i64 j.r0,.int .i64 j.r1,.int .i64 j.u0,.int .i64 j.u1,.int .i64 j.d0,.int .i64 j.d1,.int .i64 j.a0,.int .i64 j.a1,.int .i64 j.b0,.int .i64 j.b1,.int .i64 j.le,.slice A j.sh.length c,.int .i64 j.wi,.int .i64 j.me])].Sublist L):Gn j A c s0 s1 bg bx bm gG gJ w:=by
 have N:=M.sub h
 have hnd:=N.nd
 simp only [List.map_cons,List.map_nil,List.nodup_cons,Zx7,not_or,Zx8,not_false_eq_true,List.nodup_nil,and_true] at hnd
 obtain ⟨⟨-,n1,-,-⟩,⟨n2,-,-⟩,⟨n3,n4⟩,-⟩:=hnd
 exact ⟨⟨N.get (g:=bg) (by (repeat' (first | exact Zz2 | refine Zz1 ?_))),N.get (g:=bx) (by (repeat' (first | exact Zz2 | refine Zz1 ?_))),N.at (q:=(bm,memG j s0 s1)) (by (repeat' (first | exact Zz2 | refine Zz1 ?_))),fun e=>n3 e.symm,n2⟩,N.get (g:=gG) (by (repeat' (first | exact Zz2 | refine Zz1 ?_))),N.get (g:=gJ) (by (repeat' (first | exact Zz2 | refine Zz1 ?_))),n1,fun e=>n4 e.symm⟩
theorem Guided_any (j:Jb) (A:Option Addr) (c:Nat) (w:World) (hr:Rd w w.heap.size 2 A j.sh.length (rc j.sh)) (hn:j.sh.length≤9223372036854775807) :
  Calls prog 83 #[jobV j A c] w fun e w'=>e=.returned (.tuple #[.int .i64 (guidedJ j).1,.int .i64 (guidedJ j).2])∧Below w.heap.size w w':=by
 have HR:=Lib.hid hr
 clear hr
 by_cases h0:checkJ j=0
 ·have HJ:=Lib.hid (good_of h0)
  have H0:=Lib.hid h0
  cases hq:guidedF j with
  | none =>
   have HF:Hid (firstB (fun n=>readsP j (winS j).1 (winS j).2 n j.p0 j.p1 0 0) 5 0=none):=hq
   have HW:Hid (guidedJ j=(0,11)):=by show _=_;unfold guidedJ;rw [if_pos h0,hq]
   clear h0 hq
   generalize guidedJ j=gj at *
   go_enter func83,Tryz.ntmps83
   refine start noEx ?_
   intro wc M
   go_wp2_with (first | (refine Zm1 M rfl rfl rfl ?_) | (refine Zm2 M rfl rfl rfl ?_) | (refine Zm3 M rfl rfl rfl ?_;clear M;(try clear wc);intro wc M) | (refine m_al M rfl rfl ?_;clear M;(try clear wc);intro g wc M) | (refine Zm4 M rfl rfl ?_;clear M;(try clear wc);intro g wc M) | (go_at_call 101;((with_reducible refine (check_any j _ _ _ ?_ ?_).mono ?_);((exact M.rd HR.out (Nat.le_refl _));(exact hn));rw [H0.out];rintro e wc ⟨rfl,hb⟩;replace M:=M.call hb;clear hb)) | (go_at_call 158;refine (play_any (okG j (winS j).1 (winS j).2) j _ _ _ HJ.out.ok ?_).mono ?_;(exact M.rd HR.out (Nat.le_refl _));rintro e wc ⟨bg,bx,bm,rfl,N⟩;replace M:=M.join N;clear N;simp only [Zx6,Zx5] at M) | (go_at_call 159;refine (fewest_Guided j (winS j).1 (winS j).2 bm _ _ (fun n=>readsP j (winS j).1 (winS j).2 n j.p0 j.p1 0 0) (Gn j A c (winS j).1 (winS j).2 bg bx bm _ _) (fun W W' h1 h2 h3=>h1.kept h2 h3) (fun n W hn h=>Guided1_any j A c (winS j).1 (winS j).2 bg bx bm _ _ HJ.out n hn W h) _ (Gn.of_mem M (by (repeat (first | exact List.Sublist.slnil | apply List.Sublist.cons_cons | apply List.Sublist.cons)))) (M.at (q:=(bm,memG j (winS j).1 (winS j).2)) (by (repeat' (first | exact Zz2 | refine Zz1 ?_))))).mono ?_;rintro e wc ⟨rfl,hgr,hm⟩;rw [HF.out];dsimp only [fewV];replace M:=M.callW (by (repeat (first | exact Upd.head | apply Upd.tail))) hgr hm;clear hgr hm))
   go_ret2
   rw [HW.out]
   exact ⟨rfl,M.below⟩
  | some n =>
   have HF:Hid (firstB (fun n=>readsP j (winS j).1 (winS j).2 n j.p0 j.p1 0 0) 5 0=some n):=hq
   have HW:Hid (guidedJ j=((n:Int),0)):=by show _=_;unfold guidedJ;rw [if_pos h0,hq]
   clear h0 hq
   generalize guidedJ j=gj at *
   go_enter func83,Tryz.ntmps83
   refine start noEx ?_
   intro wc M
   go_wp2_with (first | (refine Zm1 M rfl rfl rfl ?_) | (refine Zm2 M rfl rfl rfl ?_) | (refine Zm3 M rfl rfl rfl ?_;clear M;(try clear wc);intro wc M) | (refine m_al M rfl rfl ?_;clear M;(try clear wc);intro g wc M) | (refine Zm4 M rfl rfl ?_;clear M;(try clear wc);intro g wc M) | (go_at_call 101;((with_reducible refine (check_any j _ _ _ ?_ ?_).mono ?_);((exact M.rd HR.out (Nat.le_refl _));(exact hn));rw [H0.out];rintro e wc ⟨rfl,hb⟩;replace M:=M.call hb;clear hb)) | (go_at_call 158;refine (play_any (okG j (winS j).1 (winS j).2) j _ _ _ HJ.out.ok ?_).mono ?_;(exact M.rd HR.out (Nat.le_refl _));rintro e wc ⟨bg,bx,bm,rfl,N⟩;replace M:=M.join N;clear N;simp only [Zx6,Zx5] at M) | (go_at_call 159;refine (fewest_Guided j (winS j).1 (winS j).2 bm _ _ (fun n=>readsP j (winS j).1 (winS j).2 n j.p0 j.p1 0 0) (Gn j A c (winS j).1 (winS j).2 bg bx bm _ _) (fun W W' h1 h2 h3=>h1.kept h2 h3) (fun n W hn h=>Guided1_any j A c (winS j).1 (winS j).2 bg bx bm _ _ HJ.out n hn W h) _ (Gn.of_mem M (by (repeat (first | exact List.Sublist.slnil | apply List.Sublist.cons_cons | apply List.Sublist.cons)))) (M.at (q:=(bm,memG j (winS j).1 (winS j).2)) (by (repeat' (first | exact Zz2 | refine Zz1 ?_))))).mono ?_;rintro e wc ⟨rfl,hgr,hm⟩;rw [HF.out];dsimp only [fewV];replace M:=M.callW (by (repeat (first | exact Upd.head | apply Upd.tail))) hgr hm;clear hgr hm))
   go_ret2
   rw [HW.out]
   exact ⟨rfl,M.below⟩
 ·have h1:(checkJ j != 0)=true:=by simpa using h0
  have HW:Hid (guidedJ j=(0,checkJ j)):=by show _=_;unfold guidedJ;rw [if_neg h0]
  clear h0
  generalize guidedJ j=gj at *
  go_enter func83,Tryz.ntmps83
  refine start noEx ?_
  intro wc M
  go_wp2_with (first | (refine Zm1 M rfl rfl rfl ?_) | (refine Zm2 M rfl rfl rfl ?_) | (refine Zm3 M rfl rfl rfl ?_;clear M;(try clear wc);intro wc M) | (refine m_al M rfl rfl ?_;clear M;(try clear wc);intro g wc M) | (refine Zm4 M rfl rfl ?_;clear M;(try clear wc);intro g wc M) | (go_at_call 101;((with_reducible refine (check_any j _ _ _ ?_ ?_).mono ?_);((exact M.rd HR.out (Nat.le_refl _));(exact hn));rintro e wc ⟨rfl,hb⟩;replace M:=M.call hb;clear hb)))
  go_ret2
  rw [HW.out]
  exact ⟨rfl,M.below⟩
def shL (b:Bx) (x y:Snd):List (Int×Int):=(List.range (b.press+1).toNat).map fun (p:Nat)=>riseP x y (p:Int)
def jobP (b:Bx) (x y:Snd):Jb:={ blankJ b with p0:=y.t0 - b.due,p1:=y.t1 - b.due,sh:=shL b x y }
theorem shL_take {b:Bx} {x y:Snd} {k:Nat} (h:(k:Int)≤b.press):(shL b x y).take (k+1)=(shL b x y).take k++[riseP x y (k:Int)]:=by
 unfold shL
 rw [List.take_add_one,List.getElem?_map,List.getElem?_range (by omega)]
 rfl
theorem shL_length (b:Bx) (x y:Snd):(shL b x y).length=(b.press+1).toNat:=by simp [shL]
def JobPost (j:Jb) (w:World) (e:Ending) (w':World):Prop:=∃ A c I,e=.returned (jobV j A c)∧(∃ b o,∀ (w:World) (ex:Nat→Prop),Sp w ex I A j.sh.length 2 b o (rc j.sh))∧Mem w noEx w' I
def strokesE (b:Bx) (i k:Int):Int×Int:=if checkPB b i k=0 then guidedJ (jobP b (b.low i) (b.high k)) else (0,checkPB b i k)
theorem vjob_any (b:Bx) (A:Option Addr) (c:Nat) (B:Option Addr) (d:Nat) (i k:Int) (il kl:Nat) (x y:Snd) (w:World) (hA:Rd w w.heap.size 4 A b.lows.length (sc b.lows)) (hB:Rd w w.heap.size 4 B b.highs.length (sc b.highs)) (gb:b.good) (hil:i=(il:Nat)) (hkl:k=(kl:Nat)) (hkx:b.lows[il]? = some x) (hky:b.highs[kl]? = some y) :
   Calls prog 84 #[bxV b A c B d,Zi i,Zi k] w (JobPost (jobP b x y) w):=by
 have hlA:=hA.len4
 have hlB:=hB.len4
 obtain ⟨bA,oA,SA⟩:=Sp.old hA
 obtain ⟨bB,oB,SB⟩:=Sp.old hB
 have hil9:=(List.getElem?_eq_some_iff.1 hkx).1
 have hkl9:=(List.getElem?_eq_some_iff.1 hky).1
 have gl3:=gb.law.span
 have gl4:=gb.law.press
 have gn:=gb.note
 have gf:=gb.law.first
 have gs:=gb.law.step
 have gd:=gb.due
 unfold Bx.due at gd
 dsimp only at gl3 gl4 gf gs
 have nA:=gb.lows.1
 have nB:=gb.highs.1
 have gx:=gb.lows.2 x (List.mem_of_getElem? hkx)
 have gy:=gb.highs.2 y (List.mem_of_getElem? hky)
 obtain ⟨⟨gx1,gx2⟩,gy1,gy2⟩:=And.intro gx gy
 refine Zpx noEx func84 Z 55 Z [(bxV b A c B d),Zi i,Zi k] Z Z (Mem.init w _) ?_
 intro ac wc T M
 refine Zsr ?_
 refine Zl2 ?_
 refine Zob M T Z Z Z Z (T.e 0 Z) Z ?_;clear M T;intro g1 wc ac M T
 refine Zl2 ?_
 refine Zoa M T Z Z Z Z ?_;clear M T;intro g2 wc ac M T
 replace T:=T.pick [0,1,3,4] rfl
 refine Zln ?_
 refine wp_seq ?_
 refine Zgs M (M.mask [true,true] Z) 10 (by kernel_rfl) Z (by kernel_rfl) ?_
 clear M;intro wc M
 refine g_have (fun ac wc=>∃ (gr1_7:Nat),Tm ac 55 [(7,Zj gr1_7),(16,Zi (b.first+b.step * b.note)),(11,.agg #[Zi 0,Zi 0,Zi b.t0,Zi b.t1,Zi b.r0,Zi b.r1,Zi b.u0,Zi b.u1,Zi b.d0,Zi b.d1,Zi b.a0,Zi b.a1,Zi b.b0,Zi b.b1,Zi b.le,.slice none 0 0,Zi b.span,Zi b.me]),(6,Zj g2),(3,Zj g1),(1,Zi i),(2,Zi k)]∧Mem w noEx wc [(gr1_7,.cells Zs0),(g2,.cells Zs0),(g1,.cells (Zbx b A c B d))]) (Zpb 10 255) 2 ?_ ?_
 ·clear T M
  rintro ac wc ⟨gr1_7,T,M⟩
  refine gw 8 511 ?_;intro K hK
  refine Zot M T Z Z (T.e 0 Z) (T.e 2 Z) Z .head Z Z ?_;clear M T;intro wc ac M T
  refine Zso hK _ _ (M.mask [false,true,true] Z) ?_;clear hK K
  refine Zgq T 9 1023 Z (fun _=>(Zra Z (T.e 1 Z))) ?_;intro ac T
  refine Zgd (by kernel_rfl) ?_
  replace T:=T.pick [0,1,4,5,6,7] rfl
  refine nm_then ?_
  refine Zsr ?_
  refine Zg8 (v1:=(.pointer (some ⟨g1,6,none⟩))) (v6:=(.agg #[Zi y.t0,Zi y.t1])) T (Zq (Zrg 6 Z (T.e 3 Z))) Z (Zo M 2 0 Z Z Z Z) Z (Zm 7 Z Z) Z (fun _ T=>Zq (Zri (size:=4) kl Z (T.e 1 Z) (T.e 0 Z) ⟨_,underlying24,by kernel_rfl⟩ hkl (by omega) (SB.at0 (by omega)))) Z (Zf 0 0 Z Z) Z (fun _ T=>Zq (rn_rowat (Sp.scR02 SB M (Zz9 _) hky) Z (T.e 0 Z) Z)) Z (Zm 6 Z Z) Z (Zm 7 Z Z) Z ?_;intro ac T
  refine lq (v:=(.agg #[Zi (b.first+b.step * b.note),Zi (b.first+b.step * b.note)])) T (rn_build Z (.cons (T.e 1 Z) (.cons (T.e 0 Z) .nil)) (fun _=>by kernel_rfl)) ?_;intro ac T
  refine Zl2 ?_
  refine Zod T Z Z Z Z evf (.cons (T.e 3 Z) (.cons (T.e 0 Z) .nil)) func162 Z Z ?_
  refine Calls.mono (vless_any y.t0 y.t1 (b.first+b.step * b.note) (b.first+b.step * b.note) _ (by omega) (by omega) (by omega) (by omega)) ?_
  clear T;rintro e wc ⟨rfl,hb⟩ ac T
  replace M:=M.call hb;clear hb
  refine Zg2 (v1:=(Zj gr1_7)) (v2:=(Zj gr1_7)) T (Zq (Zrg 0 Z (T.e 11 Z))) Z (Zf 0 0 Z Z) Z ?_;intro ac T
  refine Zl2 ?_
  refine Zot M T Z Z (T.e 0 Z) (T.e 2 Z) Z .head Z Z ?_;clear M T;intro wc ac M T
  replace T:=T.pick [13,14,15,16,17] rfl
  refine Zln ?_
  refine wp_seq ?_
  refine Zsr ?_
  refine Zg5 (v1:=(Zj g1)) (v2:=(.pointer (some ⟨g1,3,none⟩))) T (Zq (Zrg 0 Z (T.e 2 Z))) Z (Zf 3 0 Z Z) Z (Zo M 2 0 Z Z Z Z) Z (fun _ T=>Zq (rn_add Z (T.e 0 Z) evc (by omega))) Z (fun _ T=>Zq (Zrm Z evc)) Z ?_;intro ac T
  replace T:=T.pick [0,1,5,6,7,8,9] rfl
  refine Zln ?_
  refine wp_block ?_
  refine wp_loop_n (fun mz ac wc=>∃ (q:Nat) (A3:Option Addr) (c3:Nat) (Io:List (Nat×BA)),mz=(b.press+1 - q).toNat∧((q:Int)≤b.press+1)∧(((shL b x y).take q).length≤4)∧(Sl 26 2 (.slice A3 ((shL b x y).take q).length c3) ((shL b x y).take q).length (rc ((shL b x y).take q)) Io)∧Tm ac 55 [(1,Zi i),(2,Zi k),(3,Zj g1),(6,Zj g2),(7,Zj gr1_7),(32,Zi (b.press+1)),(33,Zi (q:Int))]∧Mem w noEx wc ((gr1_7,.cells [Zi (y.t0 - (b.first+b.step * b.note)),Zi (y.t1 - (b.first+b.step * b.note)),Zi b.t0,Zi b.t1,Zi b.r0,Zi b.r1,Zi b.u0,Zi b.u1,Zi b.d0,Zi b.d1,Zi b.a0,Zi b.a1,Zi b.b0,Zi b.b1,Zi b.le,.slice A3 (((shL b x y).take q).length) c3,Zi b.span,Zi b.me])::(g2,.cells Zs0)::(g1,.cells (Zbx b A c B d))::Io)) ?_ ?_
  ·exact ⟨_,0,none,0,[],Z,(by omega),(by simp),(Sl.nil _ _),T.pick [5,6,4,3,2,1,0] Z,M.mask [true,true,true] Z⟩
  clear T M
  rintro mz ac wc ⟨q,A3,c3,Io,hmm1,hq,hlq,hsl,T,M⟩
  refine Zsr ?_
  refine lq T (rn_lss Z (T.e 6 Z) (T.e 5 Z)) ?_;intro ac T
  refine Zln ?_
  refine wp_seq ?_
  refine wp_if (T.e 0 Z) ?_ ?_
  ·intro h1
   refine Zsk ?_
   refine wp_seq ?_
   refine wp_block ?_
   refine Zsr ?_
   refine Zg2 T (Zq (Zrm Z (T.e 7 Z))) Z (Za 0 Z Z) Z ?_;intro ac T
   replace T:=T.pick [0,3,4,5,6,7,8,9] rfl
   refine Zln ?_
   refine Zgs M (M.perm [1,2] Z Z) 18 (by kernel_rfl) Z (by kernel_rfl) ?_
   clear M;intro wc M
   refine g_addG 17 (M.perm [0,1,2] Z Z) ?_
   refine Zgq (v:=(.pointer (some ⟨gr1_7,15,none⟩))) T 0 1 Z (fun _=>(Zrg 15 Z (T.e 5 Z))) ?_;intro ac T
   refine gq T 1 3 Z (fun B w' hD hl hS=>(Zro (Mem.nth (show Mem w noEx w' _ from ((MA.lft hS) (hD.wait (i:=1) (m:=17) (by kernel_rfl) hl))) 0 Z) Z (T.e 0 Z) Z)) ?_;intro ac T
   refine Zgq (v:=(.pointer (some ⟨g1,5,none⟩))) T 2 7 Z (fun _=>(Zrg 5 Z (T.e 5 Z))) ?_;intro ac T
   refine gq T 3 15 Z (fun B w' hD hl hS=>(Zro (Mem.nth (show Mem w noEx w' _ from ((MA.lft hS) (hD.wait (i:=3) (m:=17) (by kernel_rfl) hl))) 2 Z) Z (T.e 0 Z) Z)) ?_;intro ac T
   refine Zgq T 4 31 Z (fun _=>(Zrm Z (T.e 5 Z))) ?_;intro ac T
   refine Zgq T 5 63 Z (fun _=>(Zri (size:=4) il Z (T.e 1 Z) (T.e 0 Z) ⟨_,underlying24,by kernel_rfl⟩ hil (by omega) (SA.at0 (by omega)))) ?_;intro ac T
   refine gq (v:=(.agg #[Zi x.t0,Zi x.t1,Zi x.s0,Zi x.s1])) T 6 127 Z (fun B w' hD hl hS=>(rn_rowat (Sp.scR4 SA (show Mem w noEx w' _ from ((MA.lft hS) (hD.wait (i:=6) (m:=17) (by kernel_rfl) hl))) (Zz9 _) hkx) Z (T.e 0 Z) Z)) ?_;intro ac T
   refine Zgq (v:=(.pointer (some ⟨g1,6,none⟩))) T 7 255 Z (fun _=>(Zrg 6 Z (T.e 10 Z))) ?_;intro ac T
   refine gq T 8 511 Z (fun B w' hD hl hS=>(Zro (Mem.nth (show Mem w noEx w' _ from ((MA.lft hS) (hD.wait (i:=8) (m:=17) (by kernel_rfl) hl))) 2 Z) Z (T.e 0 Z) Z)) ?_;intro ac T
   refine Zgq T 9 1023 Z (fun _=>(Zrm Z (T.e 11 Z))) ?_;intro ac T
   refine Zgq T 10 2047 Z (fun _=>(Zri (size:=4) kl Z (T.e 1 Z) (T.e 0 Z) ⟨_,underlying24,by kernel_rfl⟩ hkl (by omega) (SB.at0 (by omega)))) ?_;intro ac T
   refine gq (v:=(.agg #[Zi y.t0,Zi y.t1,Zi y.s0,Zi y.s1])) T 11 4095 Z (fun B w' hD hl hS=>(rn_rowat (Sp.scR4 SB (show Mem w noEx w' _ from ((MA.lft hS) (hD.wait (i:=11) (m:=17) (by kernel_rfl) hl))) (Zz9 _) hky) Z (T.e 0 Z) Z)) ?_;intro ac T
   refine Zgq T 12 8191 Z (fun _=>(Zrm Z (T.e 12 Z))) ?_;intro ac T
   refine gw 13 16383 ?_;intro K hK
   refine Zod T Z Z Z Z evf (.cons (T.e 6 Z) (.cons (T.e 1 Z) (.cons (T.e 0 Z) .nil))) func152 Z Z ?_
   refine Calls.mono (rise_any x y (q:Int) _ gx gy (by (try dsimp only);omega)) ?_
   clear T;rintro e wc ⟨rfl,hb⟩ ac T
   replace M:=M.call hb;clear hb
   refine Zso hK _ _ (MA.mk (fun _=>M.perm [0,1,2] Z Z) (M.perm [1,2] Z Z)) ?_;clear hK K
   refine gw 14 32767 ?_;intro K hK
   refine ow_bs (e:=26) [Zi ((riseP x y (q:Int)).1),Zi ((riseP x y (q:Int)).2)] M T Z Z Z Z (.cons (T.e 0 Z) .nil) (fun _=>by kernel_rfl) ?_;clear M T;intro g3 wc ac M T
   refine Zso hK _ _ (MA.mk (fun _=>M.perm [1,2,3] Z Z) (M.perm [2,3] Z Z)) ?_;clear hK K
   refine gw 15 65535 ?_;intro K hK
   refine ow_app ([(g3,.cells [Zi ((riseP x y (q:Int)).1),Zi ((riseP x y (q:Int)).2)]),(gr1_7,.cells [Zi (y.t0 - (b.first+b.step * b.note)),Zi (y.t1 - (b.first+b.step * b.note)),Zi b.t0,Zi b.t1,Zi b.r0,Zi b.r1,Zi b.u0,Zi b.u1,Zi b.d0,Zi b.d1,Zi b.a0,Zi b.a1,Zi b.b0,Zi b.b1,Zi b.le,.slice A3 (((shL b x y).take q).length) c3,Zi b.span,Zi b.me]),(g2,.cells Zs0),(g1,.cells (Zbx b A c B d))]) Tryz.info26 hsl M (by first | rfl | simp) T Z Z Z Z underlying57 Z Z Z (by omega) (T.e 13 Z) (T.e 0 Z) (Zne (i:=0) Z) Z Z ?_;clear M T;intro ga1 cga1 wc ac M T
   refine Zso hK _ _ (MA.mk (fun _=>M.mask [false,false,true,true,true] Z) (M.mask [false,false,false,true,true] Z)) ?_;clear hK K
   refine Zgq (v:=(.pointer (some ⟨gr1_7,15,none⟩))) T 16 131071 Z (fun _=>(Zrg 15 Z (T.e 21 Z))) ?_;intro ac T
   refine gw 17 262143 ?_;intro K hK
   refine Zot M T Z Z (T.e 0 Z) (T.e 1 Z) Z (.tail (.tail .head)) Z Z ?_;clear M T;intro wc ac M T
   refine Zso hK _ _ (MA.mk (fun h=>(no_of (by kernel_rfl) h).elim) (M.mask [false,false,false,true,true] Z)) ?_;clear hK K
   refine Zgd (by kernel_rfl) ?_
   replace T:=T.pick [18,19,20,21,22,23,24] rfl
   replace M:=M.mask [true,false,true,true,true] rfl
   refine Znb ?_
   refine nm_then ?_
   refine wp_region_lit ?_
   refine lq T (rn_add Z (T.e 6 Z) evc (by omega)) ?_;intro ac T
   refine l_q (v:=(Zi ((q:Int)+1))) (T.pick [0,1,2,3,4,5,6] Z) Z Z Z Z (Zrm Z (T.e 0 Z)) ?_;intro ac T
   replace T:=T.pick [0,2,3,4,5,6,7] rfl
   refine Zln ?_
   have e9:((shL b x y).take q).length+1=((shL b x y).take (q+1)).length:=by rw [shL_take (by omega),Zx3];rfl
   have e8:((rc ((shL b x y).take q))++[Zi ((riseP x y (q:Int)).1),Zi ((riseP x y (q:Int)).2)])=rc ((shL b x y).take (q+1)):=by rw [shL_take (by omega),← rc_snoc]
   rw [e9,e8] at M
   clear e9 e8
   exact ⟨_,by omega,q+1,_,_,[(ga1,.row 26 2 ((shL b x y).take (q+1)).length (rc ((shL b x y).take (q+1))) cga1)],Z,(by omega),(by rw [List.length_take,shL_length];omega),(Sl.row _ _ _ _ _ _),T.pick [1,2,3,4,5,6,0] Z,M.perm [1,2,3,0] Z Z⟩
  intro h1
  have e9:(shL b x y).take q=shL b x y:=List.take_of_length_le (by rw [shL_length];omega)
  rw [e9] at hsl M
  refine wp_exit ?_
  refine Zet ?_
  refine Zet ?_
  refine ex_hit ?_
  refine nm_then ?_
  refine Zsr ?_
  refine lq T (Zrr (Mem.nth M 0 Z) Z (T.e 5 Z) Z) ?_;intro ac T
  refine Zl2 ?_
  refine Zot M T Z Z (T.e 5 Z) (T.e 0 Z) Z (.tail .head) Z Z ?_;clear M T;intro wc ac M T
  refine wpList_nil ?_
  replace T:=T.pick [5] rfl
  replace M:=M.mask [false,true,false] rfl
  refine Znr ?_
  refine rt_c M T Z (T.e 0 Z) (Zne (i:=0) Z) Z ?_
  obtain ⟨b9,o9,h9⟩:=hsl.spV (rc_length _)
  exact ⟨A3,c3,Io,Z,⟨b9,o9,h9⟩,M.mask [false] Z⟩
 intro H1
 refine g_have (fun ac wc=>∃ (gr1_7:Nat),Tm ac 55 [(7,Zj gr1_7),(11,.agg #[Zi 0,Zi 0,Zi b.t0,Zi b.t1,Zi b.r0,Zi b.r1,Zi b.u0,Zi b.u1,Zi b.d0,Zi b.d1,Zi b.a0,Zi b.a1,Zi b.b0,Zi b.b1,Zi b.le,.slice none 0 0,Zi b.span,Zi b.me]),(15,Zi b.note),(13,.agg #[Zi b.first,Zi b.step,Zi b.span,Zi b.press]),(6,Zj g2),(3,Zj g1),(1,Zi i),(2,Zi k)]∧Mem w noEx wc [(gr1_7,.cells Zs0),(g2,.cells Zs0),(g1,.cells (Zbx b A c B d))]) (Zpb 10 191) 3 ?_ ?_
 ·clear T M
  rintro ac wc ⟨gr1_7,T,M⟩
  refine gw 6 255 ?_;intro K hK
  refine Zod T Z Z Z Z evf (.cons (T.e 3 Z) (.cons (T.e 2 Z) .nil)) func88 Z Z ?_
  refine Calls.mono (vdue_any b.law b.note _ (by (try dsimp only);omega) (by (try dsimp only);omega) (by (try dsimp only);omega)) ?_
  clear T;rintro e wc ⟨rfl,hb⟩ ac T
  replace M:=M.call hb;clear hb
  refine Zso hK _ _ (M.mask [false,true,true] Z) ?_;clear hK K
  exact H1 _ _ ⟨gr1_7,T.pick [1,0,2,5,6,7,8] Z,M⟩
 intro H0
 refine gq T 0 1 Z (fun B w' hD hl hS=>(Zrr (Mem.nth (show Mem w noEx w' _ from hS) 1 Z) Z (T.e 1 Z) Z)) ?_;intro ac T
 refine Zgq (v:=(Zj g1)) T 2 5 Z (fun _=>(Zrg 0 Z (T.e 2 Z))) ?_;intro ac T
 refine gq T 3 13 Z (fun B w' hD hl hS=>(Zrr (Mem.nth (show Mem w noEx w' _ from hS) 1 Z) Z (T.e 0 Z) Z)) ?_;intro ac T
 refine Zgq (v:=(.pointer (some ⟨g1,4,none⟩))) T 4 29 Z (fun _=>(Zrg 4 Z (T.e 4 Z))) ?_;intro ac T
 refine gq T 5 61 Z (fun B w' hD hl hS=>(Zro (Mem.nth (show Mem w noEx w' _ from hS) 1 Z) Z (T.e 0 Z) Z)) ?_;intro ac T
 refine g_m2 (i:=1) (j:=7) (by kernel_rfl) ?_ ?_
 ·refine gi 63 ?_;intro K hK
  refine Zod T Z Z Z Z evf (.cons (T.e 4 Z) .nil) func102 Z Z ?_
  refine Calls.mono (blank_any b A c B d _) ?_
  clear T;rintro e wc ⟨rfl,hb⟩ ac T
  replace M:=M.call hb;clear hb
  refine Zso hK _ _ (M.mask [true,true] Z) ?_;clear hK K
  refine g_m2 (i:=6) (j:=7) (by kernel_rfl) ?_ ?_
  ·refine gi 127 ?_;intro K hK
   refine Zod T Z Z Z Z evf (.cons (T.e 3 Z) (.cons (T.e 1 Z) .nil)) func88 Z Z ?_
   refine Calls.mono (vdue_any b.law b.note _ (by (try dsimp only);omega) (by (try dsimp only);omega) (by (try dsimp only);omega)) ?_
   clear T;rintro e wc ⟨rfl,hb⟩ ac T
   replace M:=M.call hb;clear hb
   refine Zso hK _ _ (M.mask [true,true] Z) ?_;clear hK K
   refine gw 7 255 ?_;intro K hK
   refine Zoa M T Z Z Z Z ?_;clear M T;intro gr1_7 wc ac M T
   refine Zso hK _ _ (M.mask [false,true,true] Z) ?_;clear hK K
   exact H1 _ _ ⟨gr1_7,T.pick [0,1,2,8,9,10,11] Z,M⟩
  refine gi 191 ?_;intro K hK
  refine Zoa M T Z Z Z Z ?_;clear M T;intro gr1_7 wc ac M T
  refine Zso hK _ _ (M.mask [false,true,true] Z) ?_;clear hK K
  exact H0 _ _ ⟨gr1_7,T.pick [0,1,2,4,7,8,9,10] Z,M⟩
 refine gi 189 ?_;intro K hK
 refine Zoa M T Z Z Z Z ?_;clear M T;intro gr1_7 wc ac M T
 refine Zso hK _ _ (M.mask [false,true,true] Z) ?_;clear hK K
 refine gw 1 191 ?_;intro K hK
 refine Zod T Z Z Z Z evf (.cons (T.e 5 Z) .nil) func102 Z Z ?_
 refine Calls.mono (blank_any b A c B d _) ?_
 clear T;rintro e wc ⟨rfl,hb⟩ ac T
 replace M:=M.call hb;clear hb
 refine Zso hK _ _ (M.mask [false,true,true] Z) ?_;clear hK K
 exact H0 _ _ ⟨gr1_7,T.pick [1,0,2,4,7,8,9,10] Z,M⟩
theorem VStrokes_any (b:Bx) (A:Option Addr) (c:Nat) (B:Option Addr) (d:Nat) (i k:Int) (w:World) (hA:Rd w w.heap.size 4 A b.lows.length (sc b.lows)) (hB:Rd w w.heap.size 4 B b.highs.length (sc b.highs)) (nA:b.lows.length≤1000000) (nB:b.highs.length≤1000000)  :
   Calls prog 27 #[bxV b A c B d,Zi i,Zi k] w fun e w'=>e=.returned (.tuple #[Zi ((strokesE b i k).1),Zi ((strokesE b i k).2)])∧Below w.heap.size w w':=by
 have hlA:=hA.len4
 have hlB:=hB.len4
 obtain ⟨bA,oA,SA⟩:=Sp.old hA
 obtain ⟨bB,oB,SB⟩:=Sp.old hB
 refine Zpx noEx func27 Z 23 Z [(bxV b A c B d),Zi i,Zi k] Z Z (Mem.init w _) ?_
 intro ac wc T M
 refine Zsr ?_
 refine Zl2 ?_
 refine Zob M T Z Z Z Z (T.e 0 Z) Z ?_;clear M T;intro g1 wc ac M T
 refine Zg2 T (Zq (Zra Z evc)) Z (Zc Z) Z ?_;intro ac T
 replace T:=T.pick [2,4,5] rfl
 refine Zln ?_
 refine wp_seq ?_
 refine Zsr ?_
 refine Zg3 T (Zq (Zrr (Mem.nth M 0 Z) Z (T.e 0 Z) Z)) Z (Zm 2 Z Z) Z (Zm 4 Z Z) Z ?_;intro ac T
 refine Zl2 ?_
 refine Zod T Z Z Z Z evf (.cons (T.e 2 Z) (.cons (T.e 1 Z) (.cons (T.e 0 Z) .nil))) func77 Z Z ?_
 refine Calls.mono (vcheckPair_any b _ _ _ _ i k _ (SA.rd M (Zz9 _)) (SB.rd M (Zz9 _)) (by omega) (by omega)) ?_
 clear T;rintro e wc ⟨rfl,hb⟩ ac T
 replace M:=M.call hb;clear hb
 refine lq T (Zra Z (T.e 0 Z)) ?_;intro ac T
 replace T:=T.pick [0,5,6,7] rfl
 refine Zln ?_
 refine Zsr ?_
 refine Zg2 T (Zq (Zrm Z (T.e 0 Z))) Z (fun _ T=>Zq (rn_neq Z (T.e 0 Z) evc)) Z ?_;intro ac T
 replace T:=T.pick [0,2,3,4,5] rfl
 refine Zln ?_
 refine wp_ifn (T.e 0 Z) ?_ ?_
 ·intro h1
  refine Zsr ?_
  refine Zg3 T (Zq (Zrm Z (T.e 1 Z))) Z (Zc Z) Z (Za 1 Z Z) Z ?_;intro ac T
  refine wpList_nil ?_
  replace T:=T.pick [0,1] rfl
  replace M:=M.mask [false] rfl
  refine Znr ?_
  refine Zrt ?_
  refine rt_2 T Z (T.e 1 Z) (T.e 0 Z) ?_
  have e9:strokesE b i k=(0,checkPB b i k):=by unfold strokesE;rw [if_neg (by assumption)]
  rw [e9]
  exact ⟨rfl,M.below⟩
 intro h1
 obtain ⟨gb,⟨i0,i1⟩,k0,k1⟩:=checkPB_good (b:=b) (i:=i) (k:=k) (by simpa using h1)
 obtain ⟨il,hil⟩:∃ q:Nat,i=(q:Int):=⟨i.toNat,by omega⟩
 obtain ⟨kl,hkl⟩:∃ q:Nat,k=(q:Int):=⟨k.toNat,by omega⟩
 obtain ⟨x,hx9⟩:∃ q,q=b.low i:=⟨_,rfl⟩
 obtain ⟨y,hy9⟩:∃ q,q=b.high k:=⟨_,rfl⟩
 have hkx:b.lows[il]? = some x:=by rw [hx9,← Bx.low_get ⟨i0,i1⟩,hil];rfl
 have hky:b.highs[kl]? = some y:=by rw [hy9,← Bx.high_get ⟨k0,k1⟩,hkl];rfl
 refine Zsk ?_
 refine Zsr ?_
 refine Zg3 T (Zq (Zrr (Mem.nth M 0 Z) Z (T.e 2 Z) Z)) Z (Zm 4 Z Z) Z (Zm 6 Z Z) Z ?_;intro ac T
 refine Zl2 ?_
 refine Zod T Z Z Z Z evf (.cons (T.e 2 Z) (.cons (T.e 1 Z) (.cons (T.e 0 Z) .nil))) func84 Z Z ?_
 refine Calls.mono (vjob_any b A c B d i k il kl x y _ (SA.rd M (Zz9 _)) (SB.rd M (Zz9 _)) gb hil hkl hkx hky) ?_
 clear T;rintro e wc ⟨Au2,cu2,Iu2,rfl,SVu2,N⟩ ac T
 obtain ⟨bu2,ou2,SVu2⟩:=SVu2
 obtain ⟨jqu2,hjqu2⟩:∃ q,q=jobP b x y:=⟨_,rfl⟩
 rw [← hjqu2] at SVu2
 have Su2:=SVu2 w noEx
 have nqu2:jqu2.sh.length≤4:=by rw [hjqu2];show (shL b x y).length≤4;rw [shL_length];have:=gb.law.press;dsimp only at this;omega
 replace M:=(M.join N).swapI
 replace M:Mem w noEx wc ((g1,.cells (Zbx b A c B d))::Iu2):=M
 clear N
 rw [← hjqu2] at T
 refine Zl2 ?_
 refine Zod T Z Z Z Z evf (.cons (T.e 0 Z) .nil) func83 Z Z ?_
 refine Calls.mono (Guided_any jqu2 _ _ _ (Su2.rd M (.cons _ (List.Sublist.refl _))) (by omega)) ?_
 clear T;rintro e wc ⟨rfl,hb⟩ ac T
 replace M:=M.call hb;clear hb
 refine Zg4 T (Zq (Zre Z (T.e 0 Z) Z)) Z (Ze 1 Z Z Z) Z (Za 1 Z Z) Z (Za 1 Z Z) Z ?_;intro ac T
 refine wpList_nil ?_
 replace T:=T.pick [0,1] rfl
 replace M:=M.mask [false] rfl
 refine Znr ?_
 refine rt_2 T Z (T.e 1 Z) (T.e 0 Z) ?_
 have e9:strokesE b i k=guidedJ jqu2:=by unfold strokesE;rw [if_pos (by simpa using h1),← hx9,← hy9];rw [hjqu2]
 rw [e9]
 exact ⟨rfl,M.below⟩
def lawX:Lw:=⟨20,-2,4,2⟩
def lowsX:List Snd:=[⟨-1,1,0,0⟩,⟨5,5,1,1⟩]
def boxX (hs:List Snd):Bx:={ first:=20,step:=-2,span:=4,press:=2,note:=3,lows:=lowsX,highs:=hs,t0:=30,t1:=32,r0:=40,r1:=41,u0:=3,u1:=4,d0:=2,d1:=3,a0:=1,a1:=2,b0:=1,b1:=1,le:=20,me:=1 }
def fullH:List Snd:=[⟨14,15,0,1⟩,⟨20,20,0,0⟩,⟨30,30,0,0⟩]
def lessH:List Snd:=[⟨14,15,0,1⟩,⟨30,30,0,0⟩]
def fullX:Bx:=boxX fullH
def lessX:Bx:=boxX lessH
def rowsX:List (List Snd):=[[⟨-1,1,0,0⟩,⟨0,0,0,0⟩],[⟨20,20,0,0⟩,⟨13,15,0,0⟩],[⟨30,30,0,0⟩,⟨30,30,0,0⟩]]
def BoxPost (b:Bx) (w:World) (e:Ending) (w':World):Prop:=∃ A c B d I,e=.returned (bxV b A c B d)∧(∃ b1 o1,∀ (w:World) (ex:Nat→Prop),Sp w ex I A b.lows.length 4 b1 o1 (sc b.lows))∧(∃ b1 o1,∀ (w:World) (ex:Nat→Prop),Sp w ex I B b.highs.length 4 b1 o1 (sc b.highs))∧Mem w noEx w' I
theorem sameInts_eq (A B:Option Addr) (n m c d:Nat) (l:List Int) (w:World) (ha:Rd w w.heap.size 1 A n (ic l)) (hb:Rd w w.heap.size 1 B m (ic l)) (hn:n≤9223372036854775807) (hm:m≤9223372036854775807) :
  Calls prog 33 #[.slice A n c,.slice B m d] w fun e w'=>e=.returned (.bool true)∧Below w.heap.size w w':=by
 have:=sameInts_any A B n m c d l l w ha hb hn hm
 simpa using this
theorem x_beat:beatE fullX 1 0=[(9,10),(8,10),(7,10)]∧checkPB fullX 1 0=0:=by decide +kernel
theorem x_match:matchE lessX=([0,-1],0):=by decide +kernel
theorem x_strokes:strokesE fullX 0 1=(2,0):=by decide +kernel
theorem x_trem:tremE lawX rowsX [0,1]=([1,3],0):=by decide +kernel
theorem x_short:shortE lessX=([1],0):=by decide +kernel
theorem to5_any (p0 p1:Int) (w:World)  :
  Calls prog 32 #[Zi p0,Zi p1] w fun e w'=>e=.returned (.agg #[Zi p0,Zi p1])∧Below w.heap.size w w':=by
 refine Zpx noEx func32 Z 8 Z [Zi p0,Zi p1] Z Z (Mem.init w _) ?_
 intro ac wc T M
 refine Zsr ?_
 refine Zl2 ?_
 refine Zoa M T Z Z Z Z ?_;clear M T;intro g1 wc ac M T
 refine Zln ?_
 refine Zsr ?_
 refine Zg3 (v3:=(.agg #[Zi p0,Zi p1])) T (Zq (Zrm Z (T.e 1 Z))) Z (Zm 3 Z Z) Z (fun _ T=>Zq (rn_build Z (.cons (T.e 1 Z) (.cons (T.e 0 Z) .nil)) (fun _=>by kernel_rfl))) Z ?_;intro ac T
 refine Zl2 ?_
 refine Zot M T Z Z (T.e 3 Z) (T.e 0 Z) Z .head Z Z ?_;clear M T;intro wc ac M T
 replace T:=T.pick [3] rfl
 refine Zln ?_
 refine wp_ret ?_
 refine rt_c M T Z (T.e 0 Z) (Zne (i:=0) Z) Z ?_
 exact ⟨rfl,M.below⟩
theorem sound5_any (p0 p1 q0 q1:Int) (w:World)  :
  Calls prog 80 #[.agg #[Zi p0,Zi p1],.agg #[Zi q0,Zi q1]] w fun e w'=>e=.returned (.agg #[Zi p0,Zi p1,Zi q0,Zi q1])∧Below w.heap.size w w':=by
 refine Zpx noEx func80 Z 8 Z [.agg #[Zi p0,Zi p1],.agg #[Zi q0,Zi q1]] Z Z (Mem.init w _) ?_
 intro ac wc T M
 refine Zsr ?_
 refine Zl2 ?_
 refine Zob M T Z Z Z Z (T.e 0 Z) Z ?_;clear M T;intro g1 wc ac M T
 refine Zl2 ?_
 refine Zob M T Z Z Z Z (T.e 2 Z) Z ?_;clear M T;intro g2 wc ac M T
 refine Zl2 ?_
 refine Zoa M T Z Z Z Z ?_;clear M T;intro g3 wc ac M T
 replace T:=T.pick [0,1,2] rfl
 refine Zln ?_
 refine Zsr ?_
 refine Zg3 (v3:=(.agg #[Zi p0,Zi p1,Zi q0,Zi q1])) T (Zq (Zrr (Mem.nth M 2 Z) Z (T.e 2 Z) Z)) Z (Zr M 1 2 Z Z Z Z) Z (fun _ T=>Zq (rn_build Z (.cons (T.e 1 Z) (.cons (T.e 0 Z) .nil)) (fun _=>by kernel_rfl))) Z ?_;intro ac T
 refine Zl2 ?_
 refine Zot M T Z Z (T.e 3 Z) (T.e 0 Z) Z .head Z Z ?_;clear M T;intro wc ac M T
 refine wpList_nil ?_
 replace T:=T.pick [3] rfl
 replace M:=M.mask [true,false,false] rfl
 refine Znr ?_
 refine rt_c M T Z (T.e 0 Z) (Zne (i:=0) Z) Z ?_
 exact ⟨rfl,M.below⟩
theorem law5_any  (w:World)  :
  Calls prog 90 #[] w fun e w'=>e=.returned (.agg #[Zi 20,Zi (-2),Zi 4,Zi 2])∧Below w.heap.size w w':=by
 refine Zpx noEx func90 Z 2 Z [] Z Z (Mem.init w _) ?_
 intro ac wc T M
 refine Zsr ?_
 refine Zl2 ?_
 refine Zoa M T Z Z Z Z ?_;clear M T;intro g1 wc ac M T
 refine Zln ?_
 refine Zsr ?_
 refine lq (v:=(.agg #[Zi 20,Zi (-2),Zi 4,Zi 2])) T (rn_build Z (.cons evc (.cons evc (.cons evc (.cons evc .nil)))) (fun _=>by kernel_rfl)) ?_;intro ac T
 refine Zl2 ?_
 refine Zot M T Z Z (T.e 1 Z) (T.e 0 Z) Z .head Z Z ?_;clear M T;intro wc ac M T
 replace T:=T.pick [1] rfl
 refine Zln ?_
 refine wp_ret ?_
 refine rt_c M T Z (T.e 0 Z) (Zne (i:=0) Z) Z ?_
 exact ⟨rfl,M.below⟩
def Box1Post (hs:List Snd) (H:Option Addr) (d:Nat) (w:World) (e:Ending) (w':World):Prop:=∃ g,e=.returned (bxV (boxX hs) (some ⟨g,0,none⟩) 2 H d)∧Mem w noEx w' [(g,.cells (sc lowsX))]
theorem box5_any (H:Option Addr) (d:Nat) (hs:List Snd) (w:World)  :
  Calls prog 79 #[.slice H hs.length d] w (Box1Post hs H d w):=by
 refine Zpx noEx func79 Z 20 Z [.slice H hs.length d] Z Z (Mem.init w _) ?_
 intro ac wc T M
 refine Zsr ?_
 refine Zl2 ?_
 refine Zoa M T Z Z Z Z ?_;clear M T;intro g1 wc ac M T
 refine Zln ?_
 refine Zsr ?_
 refine Zl2 ?_
 refine Zod T Z Z Z Z evf .nil func90 Z Z ?_
 refine Calls.mono (law5_any _) ?_
 clear T;rintro e wc ⟨rfl,hb⟩ ac T
 replace M:=M.call hb;clear hb
 refine Zl2 ?_
 refine Zod T Z Z Z Z evf (.cons evc (.cons evc .nil)) func32 Z Z ?_
 refine Calls.mono (to5_any (-1) 1 _) ?_
 clear T;rintro e wc ⟨rfl,hb⟩ ac T
 replace M:=M.call hb;clear hb
 refine Zl2 ?_
 refine Zod T Z Z Z Z evf (.cons evc (.cons evc .nil)) func32 Z Z ?_
 refine Calls.mono (to5_any 0 0 _) ?_
 clear T;rintro e wc ⟨rfl,hb⟩ ac T
 replace M:=M.call hb;clear hb
 refine Zl2 ?_
 refine Zod T Z Z Z Z evf (.cons (T.e 1 Z) (.cons (T.e 0 Z) .nil)) func80 Z Z ?_
 refine Calls.mono (sound5_any (-1) 1 0 0 _) ?_
 clear T;rintro e wc ⟨rfl,hb⟩ ac T
 replace M:=M.call hb;clear hb
 refine Zl2 ?_
 refine Zod T Z Z Z Z evf (.cons evc (.cons evc .nil)) func32 Z Z ?_
 refine Calls.mono (to5_any 5 5 _) ?_
 clear T;rintro e wc ⟨rfl,hb⟩ ac T
 replace M:=M.call hb;clear hb
 refine Zl2 ?_
 refine Zod T Z Z Z Z evf (.cons evc (.cons evc .nil)) func32 Z Z ?_
 refine Calls.mono (to5_any 1 1 _) ?_
 clear T;rintro e wc ⟨rfl,hb⟩ ac T
 replace M:=M.call hb;clear hb
 refine Zl2 ?_
 refine Zod T Z Z Z Z evf (.cons (T.e 1 Z) (.cons (T.e 0 Z) .nil)) func80 Z Z ?_
 refine Calls.mono (sound5_any 5 5 1 1 _) ?_
 clear T;rintro e wc ⟨rfl,hb⟩ ac T
 replace M:=M.call hb;clear hb
 refine Zl2 ?_
 refine ow_bs (e:=77) [Zi (-1),Zi 1,Zi 0,Zi 0,Zi 5,Zi 5,Zi 1,Zi 1] M T Z Z Z Z (.cons (T.e 3 Z) (.cons (T.e 0 Z) .nil)) (fun _=>by kernel_rfl) ?_;clear M T;intro g2 wc ac M T
 refine lq T (Zrm Z (T.e 9 Z)) ?_;intro ac T
 refine Zl2 ?_
 refine Zod T Z Z Z Z evf (.cons evc (.cons evc .nil)) func32 Z Z ?_
 refine Calls.mono (to5_any 30 32 _) ?_
 clear T;rintro e wc ⟨rfl,hb⟩ ac T
 replace M:=M.call hb;clear hb
 refine Zl2 ?_
 refine Zod T Z Z Z Z evf (.cons evc (.cons evc .nil)) func32 Z Z ?_
 refine Calls.mono (to5_any 40 41 _) ?_
 clear T;rintro e wc ⟨rfl,hb⟩ ac T
 replace M:=M.call hb;clear hb
 refine Zl2 ?_
 refine Zod T Z Z Z Z evf (.cons evc (.cons evc .nil)) func32 Z Z ?_
 refine Calls.mono (to5_any 3 4 _) ?_
 clear T;rintro e wc ⟨rfl,hb⟩ ac T
 replace M:=M.call hb;clear hb
 refine Zl2 ?_
 refine Zod T Z Z Z Z evf (.cons evc (.cons evc .nil)) func32 Z Z ?_
 refine Calls.mono (to5_any 2 3 _) ?_
 clear T;rintro e wc ⟨rfl,hb⟩ ac T
 replace M:=M.call hb;clear hb
 refine Zl2 ?_
 refine Zod T Z Z Z Z evf (.cons evc (.cons evc .nil)) func32 Z Z ?_
 refine Calls.mono (to5_any 1 2 _) ?_
 clear T;rintro e wc ⟨rfl,hb⟩ ac T
 replace M:=M.call hb;clear hb
 refine Zl2 ?_
 refine Zod T Z Z Z Z evf (.cons evc (.cons evc .nil)) func32 Z Z ?_
 refine Calls.mono (to5_any 1 1 _) ?_
 clear T;rintro e wc ⟨rfl,hb⟩ ac T
 replace M:=M.call hb;clear hb
 refine Zg2 (v1:=(.agg #[Zi 3,Zi 4,Zi 2,Zi 3,Zi 1,Zi 2,Zi 1,Zi 1,Zi 20])) (v2:=(.agg #[Zi 20,Zi (-2),Zi 4,Zi 2,Zi 3,.slice (some ⟨g2,0,none⟩) 2 2,.slice H hs.length d,Zi 30,Zi 32,Zi 40,Zi 41,Zi 3,Zi 4,Zi 2,Zi 3,Zi 1,Zi 2,Zi 1,Zi 1,Zi 20,Zi 1])) T (Zq (rn_build Z (.cons (T.e 3 Z) (.cons (T.e 2 Z) (.cons (T.e 1 Z) (.cons (T.e 0 Z) (.cons evc .nil))))) (fun _=>by kernel_rfl))) Z (fun _ T=>Zq (rn_build Z (.cons (T.e 15 Z) (.cons evc (.cons (T.e 8 Z) (.cons (T.e 7 Z) (.cons (T.e 6 Z) (.cons (T.e 5 Z) (.cons (T.e 0 Z) (.cons evc .nil)))))))) (fun _=>by kernel_rfl))) Z ?_;intro ac T
 refine Zl2 ?_
 refine Zot M T Z Z (T.e 17 Z) (T.e 0 Z) Z (.tail .head) Z Z ?_;clear M T;intro wc ac M T
 replace T:=T.pick [17] rfl
 refine Zln ?_
 refine wp_ret ?_
 refine rt_c M T Z (T.e 0 Z) (Zne (i:=1) Z) Z ?_
 exact ⟨g2,Z,M.perm [0] Z Z⟩
theorem full5_any  (w:World)  :
  Calls prog 24 #[] w (BoxPost fullX w):=by
 refine Zpx noEx func24 Z 12 Z [] Z Z (Mem.init w _) ?_
 intro ac wc T M
 refine Zsr ?_
 refine Zl2 ?_
 refine Zoa M T Z Z Z Z ?_;clear M T;intro g1 wc ac M T
 refine Zln ?_
 refine Zsr ?_
 refine Zl2 ?_
 refine Zod T Z Z Z Z evf (.cons evc (.cons evc .nil)) func32 Z Z ?_
 refine Calls.mono (to5_any 14 15 _) ?_
 clear T;rintro e wc ⟨rfl,hb⟩ ac T
 replace M:=M.call hb;clear hb
 refine Zl2 ?_
 refine Zod T Z Z Z Z evf (.cons evc (.cons evc .nil)) func32 Z Z ?_
 refine Calls.mono (to5_any 0 1 _) ?_
 clear T;rintro e wc ⟨rfl,hb⟩ ac T
 replace M:=M.call hb;clear hb
 refine Zl2 ?_
 refine Zod T Z Z Z Z evf (.cons (T.e 1 Z) (.cons (T.e 0 Z) .nil)) func80 Z Z ?_
 refine Calls.mono (sound5_any 14 15 0 1 _) ?_
 clear T;rintro e wc ⟨rfl,hb⟩ ac T
 replace M:=M.call hb;clear hb
 refine Zl2 ?_
 refine Zod T Z Z Z Z evf (.cons evc (.cons evc .nil)) func32 Z Z ?_
 refine Calls.mono (to5_any 20 20 _) ?_
 clear T;rintro e wc ⟨rfl,hb⟩ ac T
 replace M:=M.call hb;clear hb
 refine Zl2 ?_
 refine Zod T Z Z Z Z evf (.cons evc (.cons evc .nil)) func32 Z Z ?_
 refine Calls.mono (to5_any 0 0 _) ?_
 clear T;rintro e wc ⟨rfl,hb⟩ ac T
 replace M:=M.call hb;clear hb
 refine Zl2 ?_
 refine Zod T Z Z Z Z evf (.cons (T.e 1 Z) (.cons (T.e 0 Z) .nil)) func80 Z Z ?_
 refine Calls.mono (sound5_any 20 20 0 0 _) ?_
 clear T;rintro e wc ⟨rfl,hb⟩ ac T
 replace M:=M.call hb;clear hb
 refine Zl2 ?_
 refine Zod T Z Z Z Z evf (.cons evc (.cons evc .nil)) func32 Z Z ?_
 refine Calls.mono (to5_any 30 30 _) ?_
 clear T;rintro e wc ⟨rfl,hb⟩ ac T
 replace M:=M.call hb;clear hb
 refine Zl2 ?_
 refine Zod T Z Z Z Z evf (.cons evc (.cons evc .nil)) func32 Z Z ?_
 refine Calls.mono (to5_any 0 0 _) ?_
 clear T;rintro e wc ⟨rfl,hb⟩ ac T
 replace M:=M.call hb;clear hb
 refine Zl2 ?_
 refine Zod T Z Z Z Z evf (.cons (T.e 1 Z) (.cons (T.e 0 Z) .nil)) func80 Z Z ?_
 refine Calls.mono (sound5_any 30 30 0 0 _) ?_
 clear T;rintro e wc ⟨rfl,hb⟩ ac T
 replace M:=M.call hb;clear hb
 refine Zl2 ?_
 refine ow_bs (e:=77) [Zi 14,Zi 15,Zi 0,Zi 1,Zi 20,Zi 20,Zi 0,Zi 0,Zi 30,Zi 30,Zi 0,Zi 0] M T Z Z Z Z (.cons (T.e 6 Z) (.cons (T.e 3 Z) (.cons (T.e 0 Z) .nil))) (fun _=>by kernel_rfl) ?_;clear M T;intro g2 wc ac M T
 refine Zl2 ?_
 refine Zod T Z Z Z Z evf (.cons (T.e 0 Z) .nil) func79 Z Z ?_
 refine Calls.mono (box5_any _ 3 fullH _) ?_
 clear T;rintro e wc ⟨gu10,rfl,N⟩ ac T
 replace M:=M.join N;clear N
 replace M:=M.mask [true,true,true] rfl
 refine Zl2 ?_
 refine Zot M T Z Z (T.e 11 Z) (T.e 0 Z) Z (.tail (.tail .head)) Z Z ?_;clear M T;intro wc ac M T
 replace T:=T.pick [11] rfl
 refine Zln ?_
 refine wp_ret ?_
 refine rt_c M T Z (T.e 0 Z) (Zne (i:=2) Z) Z ?_
 exact ⟨_,_,_,_,_,Z,⟨gu10,0,fun w ex=>(Sp.cells (xs:=sc fullX.lows) Z).mono (List.Sublist.cons_cons _ (Zz9 _))⟩,⟨g2,0,fun w ex=>(Sp.cells (xs:=sc fullX.highs) Z).mono (.cons _ (List.Sublist.refl _))⟩,M.perm [0,1] Z Z⟩
theorem less5_any  (w:World)  :
  Calls prog 26 #[] w (BoxPost lessX w):=by
 refine Zpx noEx func26 Z 9 Z [] Z Z (Mem.init w _) ?_
 intro ac wc T M
 refine Zsr ?_
 refine Zl2 ?_
 refine Zoa M T Z Z Z Z ?_;clear M T;intro g1 wc ac M T
 refine Zln ?_
 refine Zsr ?_
 refine Zl2 ?_
 refine Zod T Z Z Z Z evf (.cons evc (.cons evc .nil)) func32 Z Z ?_
 refine Calls.mono (to5_any 14 15 _) ?_
 clear T;rintro e wc ⟨rfl,hb⟩ ac T
 replace M:=M.call hb;clear hb
 refine Zl2 ?_
 refine Zod T Z Z Z Z evf (.cons evc (.cons evc .nil)) func32 Z Z ?_
 refine Calls.mono (to5_any 0 1 _) ?_
 clear T;rintro e wc ⟨rfl,hb⟩ ac T
 replace M:=M.call hb;clear hb
 refine Zl2 ?_
 refine Zod T Z Z Z Z evf (.cons (T.e 1 Z) (.cons (T.e 0 Z) .nil)) func80 Z Z ?_
 refine Calls.mono (sound5_any 14 15 0 1 _) ?_
 clear T;rintro e wc ⟨rfl,hb⟩ ac T
 replace M:=M.call hb;clear hb
 refine Zl2 ?_
 refine Zod T Z Z Z Z evf (.cons evc (.cons evc .nil)) func32 Z Z ?_
 refine Calls.mono (to5_any 30 30 _) ?_
 clear T;rintro e wc ⟨rfl,hb⟩ ac T
 replace M:=M.call hb;clear hb
 refine Zl2 ?_
 refine Zod T Z Z Z Z evf (.cons evc (.cons evc .nil)) func32 Z Z ?_
 refine Calls.mono (to5_any 0 0 _) ?_
 clear T;rintro e wc ⟨rfl,hb⟩ ac T
 replace M:=M.call hb;clear hb
 refine Zl2 ?_
 refine Zod T Z Z Z Z evf (.cons (T.e 1 Z) (.cons (T.e 0 Z) .nil)) func80 Z Z ?_
 refine Calls.mono (sound5_any 30 30 0 0 _) ?_
 clear T;rintro e wc ⟨rfl,hb⟩ ac T
 replace M:=M.call hb;clear hb
 refine Zl2 ?_
 refine ow_bs (e:=77) [Zi 14,Zi 15,Zi 0,Zi 1,Zi 30,Zi 30,Zi 0,Zi 0] M T Z Z Z Z (.cons (T.e 3 Z) (.cons (T.e 0 Z) .nil)) (fun _=>by kernel_rfl) ?_;clear M T;intro g2 wc ac M T
 refine Zl2 ?_
 refine Zod T Z Z Z Z evf (.cons (T.e 0 Z) .nil) func79 Z Z ?_
 refine Calls.mono (box5_any _ 2 lessH _) ?_
 clear T;rintro e wc ⟨gu7,rfl,N⟩ ac T
 replace M:=M.join N;clear N
 replace M:=M.mask [true,true,true] rfl
 refine Zl2 ?_
 refine Zot M T Z Z (T.e 8 Z) (T.e 0 Z) Z (.tail (.tail .head)) Z Z ?_;clear M T;intro wc ac M T
 replace T:=T.pick [8] rfl
 refine Zln ?_
 refine wp_ret ?_
 refine rt_c M T Z (T.e 0 Z) (Zne (i:=2) Z) Z ?_
 exact ⟨_,_,_,_,_,Z,⟨gu7,0,fun w ex=>(Sp.cells (xs:=sc lessX.lows) Z).mono (List.Sublist.cons_cons _ (Zz9 _))⟩,⟨g2,0,fun w ex=>(Sp.cells (xs:=sc lessX.highs) Z).mono (.cons _ (List.Sublist.refl _))⟩,M.perm [0,1] Z Z⟩
theorem Beat_x (A:Option Addr) (c:Nat) (B:Option Addr) (d:Nat) (w:World) (hA:Rd w w.heap.size 4 A fullX.lows.length (sc fullX.lows)) (hB:Rd w w.heap.size 4 B fullX.highs.length (sc fullX.highs)) :
  Calls prog 23 #[bxV fullX A c B d,Zi 1,Zi 0] w fun e w'=>∃ A' c' I,e=.returned (.tuple #[.slice A' 3 c',Zi 0])∧(∃ b o,∀ (w:World) (ex:Nat→Prop),Sp w ex I A' 3 2 b o (rc [(9,10),(8,10),(7,10)]))∧Mem w noEx w' I :=
 Calls.mono (Beat_any fullX A c B d 1 0 w hA hB (by decide) (by decide)) fun e w' h=>by
  obtain ⟨A',c',I,rfl,h2,h3⟩:=h
  rw [x_beat.1] at h2
  rw [x_beat.1,x_beat.2]
  exact ⟨A',c',I,Z,h2.spV Z,h3⟩
theorem Match_x (A:Option Addr) (c:Nat) (B:Option Addr) (d:Nat) (w:World) (hA:Rd w w.heap.size 4 A lessX.lows.length (sc lessX.lows)) (hB:Rd w w.heap.size 4 B lessX.highs.length (sc lessX.highs)) :
  Calls prog 25 #[bxV lessX A c B d] w fun e w'=>∃ A' c' I,e=.returned (.tuple #[.slice A' 2 c',Zi 0])∧(∃ b o,∀ (w:World) (ex:Nat→Prop),Sp w ex I A' 2 1 b o (ic [0,-1]))∧Mem w noEx w' I :=
 Calls.mono (Match_any lessX A c B d w hA hB (by decide) (by decide)) fun e w' h=>by
  rw [x_match] at h
  obtain ⟨A',c',I,rfl,_,h2,h3⟩:=h
  exact ⟨A',c',I,Z,h2,h3⟩
theorem Short_x (A:Option Addr) (c:Nat) (B:Option Addr) (d:Nat) (w:World) (hA:Rd w w.heap.size 4 A lessX.lows.length (sc lessX.lows)) (hB:Rd w w.heap.size 4 B lessX.highs.length (sc lessX.highs)) :
  Calls prog 30 #[bxV lessX A c B d] w fun e w'=>∃ A' c' I,e=.returned (.tuple #[.slice A' 1 c',Zi 0])∧(∃ b o,∀ (w:World) (ex:Nat→Prop),Sp w ex I A' 1 1 b o (ic [1]))∧Mem w noEx w' I :=
 Calls.mono (Short_any lessX A c B d w hA hB (by decide) (by decide)) fun e w' h=>by
  rw [x_short] at h
  obtain ⟨A',c',I,rfl,_,h2,h3⟩:=h
  exact ⟨A',c',I,Z,h2,h3⟩
theorem Strokes_x (A:Option Addr) (c:Nat) (B:Option Addr) (d:Nat) (w:World) (hA:Rd w w.heap.size 4 A fullX.lows.length (sc fullX.lows)) (hB:Rd w w.heap.size 4 B fullX.highs.length (sc fullX.highs)) :
  Calls prog 27 #[bxV fullX A c B d,Zi 0,Zi 1] w fun e w'=>e=.returned (.tuple #[Zi 2,Zi 0])∧Below w.heap.size w w':=by
 have h:=VStrokes_any fullX A c B d 0 1 w hA hB (by decide) (by decide)
 rw [x_strokes] at h
 exact h
theorem Tremolo_x (A:Option Addr) (c:Nat) (LL:List LS) (G:Option Addr) (d:Nat) (w:World) (hR:rowsOf LL=rowsX) (hA:Rd w w.heap.size 1 A LL.length (lsC LL)) (hE:ElsS w LL) (hG:Rd w w.heap.size 1 G 2 (ic [0,1])) :
  Calls prog 28 #[.agg #[Zi 20,Zi (-2),Zi 4,Zi 2,.slice A LL.length c],.slice G 2 d] w fun e w'=>∃ A' c' I,e=.returned (.tuple #[.slice A' 2 c',Zi 0])∧(∃ b o,∀ (w:World) (ex:Nat→Prop),Sp w ex I A' 2 1 b o (ic [1,3]))∧Mem w noEx w' I:=by
 have hl:LL.length=3:=by have:=congrArg List.length hR;simpa [rowsX] using this
 have hx:∀ x∈LL,x.1.length≤1000000:=fun x hx=>by
  have:x.1∈rowsX:=by rw [← hR];exact List.mem_map.2 ⟨x,hx,rfl⟩
  have h9:∀ y∈rowsX,y.length≤1000000:=by decide
  exact h9 _ this
 have h:=Tremolo_any lawX A c LL G d [0,1] w hA hE (by omega) hx hG (by decide)
 refine Calls.mono h fun e w' h=>?_
 rw [hR,x_trem] at h
 obtain ⟨A',c',I,rfl,_,h2,h3⟩:=h
 exact ⟨A',c',I,Z,h2,h3⟩
def ElsR (LL:List LS) (I:List (Nat×BA)):Prop:=∀ x∈LL,∃ b o,∀ (w:World) (ex:Nat→Prop),Sp w ex I x.2.1 x.1.length 4 b o (sc x.1)
def ScalePost (l:Lw) (R:List (List Snd)) (w:World) (e:Ending) (w':World):Prop:=∃ A c LL I,rowsOf LL=R∧e=.returned (.agg #[Zi l.first,Zi l.step,Zi l.span,Zi l.press,.slice A LL.length c])∧(∃ b o,∀ (w:World) (ex:Nat→Prop),Sp w ex I A LL.length 1 b o (lsC LL))∧ElsR LL I∧Mem w noEx w' I
set_option maxHeartbeats 8000000 in
theorem scale5_any  (w:World)  :
   Calls prog 29 #[] w (ScalePost lawX rowsX w):=by
 refine Zpx noEx func29 Z 27 Z [] Z Z (Mem.init w _) ?_
 intro ac wc T M
 refine Zsr ?_
 refine Zl2 ?_
 refine Zoa M T Z Z Z Z ?_;clear M T;intro g1 wc ac M T
 refine Zln ?_
 refine Zsr ?_
 refine Zl2 ?_
 refine Zod T Z Z Z Z evf (.cons evc (.cons evc .nil)) func32 Z Z ?_
 refine Calls.mono (to5_any 0 0 _) ?_
 clear T;rintro e wc ⟨rfl,hb⟩ ac T
 replace M:=M.call hb;clear hb
 refine Zl2 ?_
 refine Zoa M T Z Z Z Z ?_;clear M T;intro g2 wc ac M T
 refine Zl2 ?_
 refine Zot M T Z Z (T.e 0 Z) (T.e 1 Z) Z .head Z Z ?_;clear M T;intro wc ac M T
 replace T:=T.pick [0,2] rfl
 refine Zln ?_
 refine wp_seq ?_
 refine Zgs M (M.perm [0] Z Z) 25 (by kernel_rfl) Z (by kernel_rfl) ?_
 clear M;intro wc M
 refine g_addG 24 M ?_
 refine g_have (fun ac wc=>∃ (gr2_14 gr2_7 gr2_21:Nat),Tm ac 27 [(17,.slice (some ⟨gr2_14,0,none⟩) 2 2),(10,.slice (some ⟨gr2_7,0,none⟩) 2 2),(24,.slice (some ⟨gr2_21,0,none⟩) 2 2),(3,.agg #[Zi 20,Zi (-2),Zi 4,Zi 2]),(0,Zj g1)]∧Mem w noEx wc [(gr2_14,.cells [Zi 20,Zi 20,Zi 0,Zi 0,Zi 13,Zi 15,Zi 0,Zi 0]),(gr2_7,.cells [Zi (-1),Zi 1,Zi 0,Zi 0,Zi 0,Zi 0,Zi 0,Zi 0]),(gr2_21,.cells [Zi 30,Zi 30,Zi 0,Zi 0,Zi 30,Zi 30,Zi 0,Zi 0]),(g2,.cells [Zi 0,Zi 0]),(g1,.cells [Zi 0,Zi 0,Zi 0,Zi 0,.slice none 0 0])]) (Zpb 25 4194303) 3 ?_ ?_
 ·clear T M
  rintro ac wc ⟨gr2_14,gr2_7,gr2_21,T,M⟩
  refine gw 22 8388607 ?_;intro K hK
  refine ow_bs (e:=24) [.slice (some ⟨gr2_7,0,none⟩) 2 2,.slice (some ⟨gr2_14,0,none⟩) 2 2,.slice (some ⟨gr2_21,0,none⟩) 2 2] M T Z Z Z Z (.cons (T.e 1 Z) (.cons (T.e 0 Z) (.cons (T.e 2 Z) .nil))) (fun _=>by kernel_rfl) ?_;clear M T;intro gr2_22 wc ac M T
  refine Zso hK _ _ (MA.mk (fun _=>M.mask [false,false,false,false,true,true] Z) (M.mask [false,false,false,false,true,false] Z)) ?_;clear hK K
  refine Zgq (v:=(.agg #[Zi 20,Zi (-2),Zi 4,Zi 2,.slice (some ⟨gr2_22,0,none⟩) 3 3])) T 23 16777215 Z (fun _=>(rn_build Z (.cons (T.e 4 Z) (.cons (T.e 0 Z) .nil)) (fun _=>by kernel_rfl))) ?_;intro ac T
  refine gw 24 33554431 ?_;intro K hK
  refine Zos M T Z Z (T.e 6 Z) (T.e 0 Z) Z (.tail (.tail (.tail (.tail (.tail .head))))) Z (by simp) Z (by kernel_rfl) ?_;clear M T;intro wc ac M T
  refine Zso hK _ _ (MA.mk (fun h=>(no_of (by kernel_rfl) h).elim) (M.mask [false,false,false,false,true,false] Z)) ?_;clear hK K
  refine Zgd (by kernel_rfl) ?_
  replace T:=T.pick [6] rfl
  replace M:=M.mask [true,true,true,true,false,true] rfl
  refine Znr ?_
  refine rt_c M T Z (T.e 0 Z) (Zne (i:=4) Z) Z ?_
  refine ⟨some ⟨gr2_22,0,none⟩,3,[([⟨-1,1,0,0⟩,⟨0,0,0,0⟩],some ⟨gr2_7,0,none⟩,2),([⟨20,20,0,0⟩,⟨13,15,0,0⟩],some ⟨gr2_14,0,none⟩,2),([⟨30,30,0,0⟩,⟨30,30,0,0⟩],some ⟨gr2_21,0,none⟩,2)],_,Z,Z,⟨gr2_22,0,fun w ex=>(Sp.cells (xs:=lsC [([⟨-1,1,0,0⟩,⟨0,0,0,0⟩],some ⟨gr2_7,0,none⟩,2),([⟨20,20,0,0⟩,⟨13,15,0,0⟩],some ⟨gr2_14,0,none⟩,2),([⟨30,30,0,0⟩,⟨30,30,0,0⟩],some ⟨gr2_21,0,none⟩,2)]) Z).mono (List.Sublist.cons_cons _ (Zz9 _))⟩,?_,M.perm [0,2,1,3] Z Z⟩
  intro x hx
  simp only [Zx7,Zx8,or_false] at hx
  rcases hx with rfl | rfl | rfl
  · exact ⟨gr2_7,0,fun w ex=>(Sp.cells (xs:=sc [⟨-1,1,0,0⟩,⟨0,0,0,0⟩]) Z).mono (.cons _ (.cons_cons _ (Zz9 _)))⟩
  · exact ⟨gr2_14,0,fun w ex=>(Sp.cells (xs:=sc [⟨20,20,0,0⟩,⟨13,15,0,0⟩]) Z).mono (.cons _ (.cons _ (.cons_cons _ (Zz9 _))))⟩
  · exact ⟨gr2_21,0,fun w ex=>(Sp.cells (xs:=sc [⟨30,30,0,0⟩,⟨30,30,0,0⟩]) Z).mono (.cons _ (.cons _ (.cons _ (.cons_cons _ (Zz9 _)))))⟩
 intro H19
 refine g_have (fun ac wc=>∃ (gr2_14 gr2_7:Nat),Tm ac 27 [(17,.slice (some ⟨gr2_14,0,none⟩) 2 2),(10,.slice (some ⟨gr2_7,0,none⟩) 2 2),(23,.agg #[Zi 30,Zi 30,Zi 0,Zi 0]),(20,.agg #[Zi 30,Zi 30,Zi 0,Zi 0]),(3,.agg #[Zi 20,Zi (-2),Zi 4,Zi 2]),(0,Zj g1)]∧Mem w noEx wc [(gr2_14,.cells [Zi 20,Zi 20,Zi 0,Zi 0,Zi 13,Zi 15,Zi 0,Zi 0]),(gr2_7,.cells [Zi (-1),Zi 1,Zi 0,Zi 0,Zi 0,Zi 0,Zi 0,Zi 0]),(g2,.cells [Zi 0,Zi 0]),(g1,.cells [Zi 0,Zi 0,Zi 0,Zi 0,.slice none 0 0])]) (Zpb 25 2097151) 4 ?_ ?_
 ·clear T M
  rintro ac wc ⟨gr2_14,gr2_7,T,M⟩
  refine gw 21 4194303 ?_;intro K hK
  refine ow_bs (e:=77) [Zi 30,Zi 30,Zi 0,Zi 0,Zi 30,Zi 30,Zi 0,Zi 0] M T Z Z Z Z (.cons (T.e 3 Z) (.cons (T.e 2 Z) .nil)) (fun _=>by kernel_rfl) ?_;clear M T;intro gr2_21 wc ac M T
  refine Zso hK _ _ (MA.mk (fun _=>M.mask [false,false,false,true,true] Z) (M.mask [false,false,false,true,false] Z)) ?_;clear hK K
  exact H19 _ _ ⟨gr2_14,gr2_7,gr2_21,T.pick [1,2,0,5,6] Z,M.perm [1,2,0,3,4] Z Z⟩
 intro H18
 refine g_have (fun ac wc=>∃ (gr2_14 gr2_21:Nat),Tm ac 27 [(17,.slice (some ⟨gr2_14,0,none⟩) 2 2),(24,.slice (some ⟨gr2_21,0,none⟩) 2 2),(9,.agg #[Zi 0,Zi 0,Zi 0,Zi 0]),(6,.agg #[Zi (-1),Zi 1,Zi 0,Zi 0]),(3,.agg #[Zi 20,Zi (-2),Zi 4,Zi 2]),(0,Zj g1)]∧Mem w noEx wc [(gr2_14,.cells [Zi 20,Zi 20,Zi 0,Zi 0,Zi 13,Zi 15,Zi 0,Zi 0]),(gr2_21,.cells [Zi 30,Zi 30,Zi 0,Zi 0,Zi 30,Zi 30,Zi 0,Zi 0]),(g2,.cells [Zi 0,Zi 0]),(g1,.cells [Zi 0,Zi 0,Zi 0,Zi 0,.slice none 0 0])]) (Zpb 25 4194175) 4 ?_ ?_
 ·clear T M
  rintro ac wc ⟨gr2_14,gr2_21,T,M⟩
  refine gw 7 4194303 ?_;intro K hK
  refine ow_bs (e:=77) [Zi (-1),Zi 1,Zi 0,Zi 0,Zi 0,Zi 0,Zi 0,Zi 0] M T Z Z Z Z (.cons (T.e 3 Z) (.cons (T.e 2 Z) .nil)) (fun _=>by kernel_rfl) ?_;clear M T;intro gr2_7 wc ac M T
  refine Zso hK _ _ (MA.mk (fun _=>M.mask [false,false,false,true,true] Z) (M.mask [false,false,false,true,false] Z)) ?_;clear hK K
  exact H19 _ _ ⟨gr2_14,gr2_7,gr2_21,T.pick [1,0,2,5,6] Z,M.perm [1,0,2,3,4] Z Z⟩
 intro H17
 refine g_have (fun ac wc=>∃ (gr2_7 gr2_21:Nat),Tm ac 27 [(10,.slice (some ⟨gr2_7,0,none⟩) 2 2),(24,.slice (some ⟨gr2_21,0,none⟩) 2 2),(16,.agg #[Zi 13,Zi 15,Zi 0,Zi 0]),(13,.agg #[Zi 20,Zi 20,Zi 0,Zi 0]),(3,.agg #[Zi 20,Zi (-2),Zi 4,Zi 2]),(0,Zj g1)]∧Mem w noEx wc [(gr2_7,.cells [Zi (-1),Zi 1,Zi 0,Zi 0,Zi 0,Zi 0,Zi 0,Zi 0]),(gr2_21,.cells [Zi 30,Zi 30,Zi 0,Zi 0,Zi 30,Zi 30,Zi 0,Zi 0]),(g2,.cells [Zi 0,Zi 0]),(g1,.cells [Zi 0,Zi 0,Zi 0,Zi 0,.slice none 0 0])]) (Zpb 25 4177919) 4 ?_ ?_
 ·clear T M
  rintro ac wc ⟨gr2_7,gr2_21,T,M⟩
  refine gw 14 4194303 ?_;intro K hK
  refine ow_bs (e:=77) [Zi 20,Zi 20,Zi 0,Zi 0,Zi 13,Zi 15,Zi 0,Zi 0] M T Z Z Z Z (.cons (T.e 3 Z) (.cons (T.e 2 Z) .nil)) (fun _=>by kernel_rfl) ?_;clear M T;intro gr2_14 wc ac M T
  refine Zso hK _ _ (MA.mk (fun _=>M.mask [false,false,false,true,true] Z) (M.mask [false,false,false,true,false] Z)) ?_;clear hK K
  exact H19 _ _ ⟨gr2_14,gr2_7,gr2_21,T.pick [0,1,2,5,6] Z,M⟩
 intro H16
 refine g_have (fun ac wc=>∃ (gr2_14 gr2_7:Nat),Tm ac 27 [(17,.slice (some ⟨gr2_14,0,none⟩) 2 2),(10,.slice (some ⟨gr2_7,0,none⟩) 2 2),(21,.agg #[Zi 30,Zi 30]),(20,.agg #[Zi 30,Zi 30,Zi 0,Zi 0]),(3,.agg #[Zi 20,Zi (-2),Zi 4,Zi 2]),(22,.agg #[Zi 0,Zi 0]),(0,Zj g1)]∧Mem w noEx wc [(gr2_14,.cells [Zi 20,Zi 20,Zi 0,Zi 0,Zi 13,Zi 15,Zi 0,Zi 0]),(gr2_7,.cells [Zi (-1),Zi 1,Zi 0,Zi 0,Zi 0,Zi 0,Zi 0,Zi 0]),(g2,.cells [Zi 0,Zi 0]),(g1,.cells [Zi 0,Zi 0,Zi 0,Zi 0,.slice none 0 0])]) (Zpb 25 1048575) 5 ?_ ?_
 ·clear T M
  rintro ac wc ⟨gr2_14,gr2_7,T,M⟩
  refine gw 20 2097151 ?_;intro K hK
  refine Zod T Z Z Z Z evf (.cons (T.e 2 Z) (.cons (T.e 5 Z) .nil)) func80 Z Z ?_
  refine Calls.mono (sound5_any 30 30 0 0 _) ?_
  clear T;rintro e wc ⟨rfl,hb⟩ ac T
  replace M:=M.call hb;clear hb
  refine Zso hK _ _ (MA.mk (fun _=>M.mask [false,false,true,true] Z) (M.mask [false,false,true,false] Z)) ?_;clear hK K
  exact H18 _ _ ⟨gr2_14,gr2_7,T.pick [1,2,0,4,5,7] Z,M⟩
 intro H15
 refine g_have (fun ac wc=>∃ (gr2_14:Nat),Tm ac 27 [(17,.slice (some ⟨gr2_14,0,none⟩) 2 2),(23,.agg #[Zi 30,Zi 30,Zi 0,Zi 0]),(20,.agg #[Zi 30,Zi 30,Zi 0,Zi 0]),(9,.agg #[Zi 0,Zi 0,Zi 0,Zi 0]),(6,.agg #[Zi (-1),Zi 1,Zi 0,Zi 0]),(3,.agg #[Zi 20,Zi (-2),Zi 4,Zi 2]),(0,Zj g1)]∧Mem w noEx wc [(gr2_14,.cells [Zi 20,Zi 20,Zi 0,Zi 0,Zi 13,Zi 15,Zi 0,Zi 0]),(g2,.cells [Zi 0,Zi 0]),(g1,.cells [Zi 0,Zi 0,Zi 0,Zi 0,.slice none 0 0])]) (Zpb 25 2097023) 5 ?_ ?_
 ·clear T M
  rintro ac wc ⟨gr2_14,T,M⟩
  refine g_m2 (i:=7) (j:=21) (by kernel_rfl) ?_ ?_
  ·refine gi 2097151 ?_;intro K hK
   refine ow_bs (e:=77) [Zi (-1),Zi 1,Zi 0,Zi 0,Zi 0,Zi 0,Zi 0,Zi 0] M T Z Z Z Z (.cons (T.e 4 Z) (.cons (T.e 3 Z) .nil)) (fun _=>by kernel_rfl) ?_;clear M T;intro gr2_7 wc ac M T
   refine Zso hK _ _ (MA.mk (fun _=>M.mask [false,false,true,true] Z) (M.mask [false,false,true,false] Z)) ?_;clear hK K
   exact H18 _ _ ⟨gr2_14,gr2_7,T.pick [1,0,2,3,6,7] Z,M.perm [1,0,2,3] Z Z⟩
  refine gi 4194175 ?_;intro K hK
  refine ow_bs (e:=77) [Zi 30,Zi 30,Zi 0,Zi 0,Zi 30,Zi 30,Zi 0,Zi 0] M T Z Z Z Z (.cons (T.e 2 Z) (.cons (T.e 1 Z) .nil)) (fun _=>by kernel_rfl) ?_;clear M T;intro gr2_21 wc ac M T
  refine Zso hK _ _ (MA.mk (fun _=>M.mask [false,false,true,true] Z) (M.mask [false,false,true,false] Z)) ?_;clear hK K
  exact H17 _ _ ⟨gr2_14,gr2_21,T.pick [1,0,4,5,6,7] Z,M.perm [1,0,2,3] Z Z⟩
 intro H14
 refine g_have (fun ac wc=>∃ (gr2_7:Nat),Tm ac 27 [(10,.slice (some ⟨gr2_7,0,none⟩) 2 2),(23,.agg #[Zi 30,Zi 30,Zi 0,Zi 0]),(20,.agg #[Zi 30,Zi 30,Zi 0,Zi 0]),(16,.agg #[Zi 13,Zi 15,Zi 0,Zi 0]),(13,.agg #[Zi 20,Zi 20,Zi 0,Zi 0]),(3,.agg #[Zi 20,Zi (-2),Zi 4,Zi 2]),(0,Zj g1)]∧Mem w noEx wc [(gr2_7,.cells [Zi (-1),Zi 1,Zi 0,Zi 0,Zi 0,Zi 0,Zi 0,Zi 0]),(g2,.cells [Zi 0,Zi 0]),(g1,.cells [Zi 0,Zi 0,Zi 0,Zi 0,.slice none 0 0])]) (Zpb 25 2080767) 5 ?_ ?_
 ·clear T M
  rintro ac wc ⟨gr2_7,T,M⟩
  refine g_m2 (i:=14) (j:=21) (by kernel_rfl) ?_ ?_
  ·refine gi 2097151 ?_;intro K hK
   refine ow_bs (e:=77) [Zi 20,Zi 20,Zi 0,Zi 0,Zi 13,Zi 15,Zi 0,Zi 0] M T Z Z Z Z (.cons (T.e 4 Z) (.cons (T.e 3 Z) .nil)) (fun _=>by kernel_rfl) ?_;clear M T;intro gr2_14 wc ac M T
   refine Zso hK _ _ (MA.mk (fun _=>M.mask [false,false,true,true] Z) (M.mask [false,false,true,false] Z)) ?_;clear hK K
   exact H18 _ _ ⟨gr2_14,gr2_7,T.pick [0,1,2,3,6,7] Z,M⟩
  refine gi 4177919 ?_;intro K hK
  refine ow_bs (e:=77) [Zi 30,Zi 30,Zi 0,Zi 0,Zi 30,Zi 30,Zi 0,Zi 0] M T Z Z Z Z (.cons (T.e 2 Z) (.cons (T.e 1 Z) .nil)) (fun _=>by kernel_rfl) ?_;clear M T;intro gr2_21 wc ac M T
  refine Zso hK _ _ (MA.mk (fun _=>M.mask [false,false,true,true] Z) (M.mask [false,false,true,false] Z)) ?_;clear hK K
  exact H16 _ _ ⟨gr2_7,gr2_21,T.pick [1,0,4,5,6,7] Z,M.perm [1,0,2,3] Z Z⟩
 intro H13
 refine g_have (fun ac wc=>∃ (gr2_14 gr2_7:Nat),Tm ac 27 [(17,.slice (some ⟨gr2_14,0,none⟩) 2 2),(10,.slice (some ⟨gr2_7,0,none⟩) 2 2),(20,.agg #[Zi 30,Zi 30,Zi 0,Zi 0]),(3,.agg #[Zi 20,Zi (-2),Zi 4,Zi 2]),(22,.agg #[Zi 0,Zi 0]),(0,Zj g1)]∧Mem w noEx wc [(gr2_14,.cells [Zi 20,Zi 20,Zi 0,Zi 0,Zi 13,Zi 15,Zi 0,Zi 0]),(gr2_7,.cells [Zi (-1),Zi 1,Zi 0,Zi 0,Zi 0,Zi 0,Zi 0,Zi 0]),(g2,.cells [Zi 0,Zi 0]),(g1,.cells [Zi 0,Zi 0,Zi 0,Zi 0,.slice none 0 0])]) (Zpb 25 786431) 6 ?_ ?_
 ·clear T M
  rintro ac wc ⟨gr2_14,gr2_7,T,M⟩
  refine gw 18 1048575 ?_;intro K hK
  refine Zod T Z Z Z Z evf (.cons evc (.cons evc .nil)) func32 Z Z ?_
  refine Calls.mono (to5_any 30 30 _) ?_
  clear T;rintro e wc ⟨rfl,hb⟩ ac T
  replace M:=M.call hb;clear hb
  refine Zso hK _ _ (MA.mk (fun _=>M.mask [false,false,true,true] Z) (M.mask [false,false,true,false] Z)) ?_;clear hK K
  exact H15 _ _ ⟨gr2_14,gr2_7,T.pick [1,2,0,3,4,5,6] Z,M⟩
 intro H12
 refine g_have (fun ac wc=>∃ (gr2_14:Nat),Tm ac 27 [(17,.slice (some ⟨gr2_14,0,none⟩) 2 2),(21,.agg #[Zi 30,Zi 30]),(20,.agg #[Zi 30,Zi 30,Zi 0,Zi 0]),(9,.agg #[Zi 0,Zi 0,Zi 0,Zi 0]),(6,.agg #[Zi (-1),Zi 1,Zi 0,Zi 0]),(3,.agg #[Zi 20,Zi (-2),Zi 4,Zi 2]),(22,.agg #[Zi 0,Zi 0]),(0,Zj g1)]∧Mem w noEx wc [(gr2_14,.cells [Zi 20,Zi 20,Zi 0,Zi 0,Zi 13,Zi 15,Zi 0,Zi 0]),(g2,.cells [Zi 0,Zi 0]),(g1,.cells [Zi 0,Zi 0,Zi 0,Zi 0,.slice none 0 0])]) (Zpb 25 1048447) 6 ?_ ?_
 ·clear T M
  rintro ac wc ⟨gr2_14,T,M⟩
  refine g_m2 (i:=7) (j:=20) (by kernel_rfl) ?_ ?_
  ·refine gi 1048575 ?_;intro K hK
   refine ow_bs (e:=77) [Zi (-1),Zi 1,Zi 0,Zi 0,Zi 0,Zi 0,Zi 0,Zi 0] M T Z Z Z Z (.cons (T.e 4 Z) (.cons (T.e 3 Z) .nil)) (fun _=>by kernel_rfl) ?_;clear M T;intro gr2_7 wc ac M T
   refine Zso hK _ _ (MA.mk (fun _=>M.mask [false,false,true,true] Z) (M.mask [false,false,true,false] Z)) ?_;clear hK K
   exact H15 _ _ ⟨gr2_14,gr2_7,T.pick [1,0,2,3,6,7,8] Z,M.perm [1,0,2,3] Z Z⟩
  refine gi 2097023 ?_;intro K hK
  refine Zod T Z Z Z Z evf (.cons (T.e 1 Z) (.cons (T.e 6 Z) .nil)) func80 Z Z ?_
  refine Calls.mono (sound5_any 30 30 0 0 _) ?_
  clear T;rintro e wc ⟨rfl,hb⟩ ac T
  replace M:=M.call hb;clear hb
  refine Zso hK _ _ (MA.mk (fun _=>M.mask [false,true,true] Z) (M.mask [false,true,false] Z)) ?_;clear hK K
  exact H14 _ _ ⟨gr2_14,T.pick [1,0,3,4,5,6,8] Z,M⟩
 intro H11
 refine g_have (fun ac wc=>∃ (gr2_7:Nat),Tm ac 27 [(10,.slice (some ⟨gr2_7,0,none⟩) 2 2),(21,.agg #[Zi 30,Zi 30]),(20,.agg #[Zi 30,Zi 30,Zi 0,Zi 0]),(16,.agg #[Zi 13,Zi 15,Zi 0,Zi 0]),(13,.agg #[Zi 20,Zi 20,Zi 0,Zi 0]),(3,.agg #[Zi 20,Zi (-2),Zi 4,Zi 2]),(22,.agg #[Zi 0,Zi 0]),(0,Zj g1)]∧Mem w noEx wc [(gr2_7,.cells [Zi (-1),Zi 1,Zi 0,Zi 0,Zi 0,Zi 0,Zi 0,Zi 0]),(g2,.cells [Zi 0,Zi 0]),(g1,.cells [Zi 0,Zi 0,Zi 0,Zi 0,.slice none 0 0])]) (Zpb 25 1032191) 6 ?_ ?_
 ·clear T M
  rintro ac wc ⟨gr2_7,T,M⟩
  refine g_m2 (i:=14) (j:=20) (by kernel_rfl) ?_ ?_
  ·refine gi 1048575 ?_;intro K hK
   refine ow_bs (e:=77) [Zi 20,Zi 20,Zi 0,Zi 0,Zi 13,Zi 15,Zi 0,Zi 0] M T Z Z Z Z (.cons (T.e 4 Z) (.cons (T.e 3 Z) .nil)) (fun _=>by kernel_rfl) ?_;clear M T;intro gr2_14 wc ac M T
   refine Zso hK _ _ (MA.mk (fun _=>M.mask [false,false,true,true] Z) (M.mask [false,false,true,false] Z)) ?_;clear hK K
   exact H15 _ _ ⟨gr2_14,gr2_7,T.pick [0,1,2,3,6,7,8] Z,M⟩
  refine gi 2080767 ?_;intro K hK
  refine Zod T Z Z Z Z evf (.cons (T.e 1 Z) (.cons (T.e 6 Z) .nil)) func80 Z Z ?_
  refine Calls.mono (sound5_any 30 30 0 0 _) ?_
  clear T;rintro e wc ⟨rfl,hb⟩ ac T
  replace M:=M.call hb;clear hb
  refine Zso hK _ _ (MA.mk (fun _=>M.mask [false,true,true] Z) (M.mask [false,true,false] Z)) ?_;clear hK K
  exact H13 _ _ ⟨gr2_7,T.pick [1,0,3,4,5,6,8] Z,M⟩
 intro H10
 refine g_have (fun ac wc=>∃ (gr2_14 gr2_7:Nat),Tm ac 27 [(17,.slice (some ⟨gr2_14,0,none⟩) 2 2),(10,.slice (some ⟨gr2_7,0,none⟩) 2 2),(18,.agg #[Zi 30,Zi 30]),(3,.agg #[Zi 20,Zi (-2),Zi 4,Zi 2]),(22,.agg #[Zi 0,Zi 0]),(19,.agg #[Zi 0,Zi 0]),(0,Zj g1)]∧Mem w noEx wc [(gr2_14,.cells [Zi 20,Zi 20,Zi 0,Zi 0,Zi 13,Zi 15,Zi 0,Zi 0]),(gr2_7,.cells [Zi (-1),Zi 1,Zi 0,Zi 0,Zi 0,Zi 0,Zi 0,Zi 0]),(g2,.cells [Zi 0,Zi 0]),(g1,.cells [Zi 0,Zi 0,Zi 0,Zi 0,.slice none 0 0])]) (Zpb 25 655359) 7 ?_ ?_
 ·clear T M
  rintro ac wc ⟨gr2_14,gr2_7,T,M⟩
  refine gw 17 786431 ?_;intro K hK
  refine Zod T Z Z Z Z evf (.cons (T.e 2 Z) (.cons (T.e 5 Z) .nil)) func80 Z Z ?_
  refine Calls.mono (sound5_any 30 30 0 0 _) ?_
  clear T;rintro e wc ⟨rfl,hb⟩ ac T
  replace M:=M.call hb;clear hb
  refine Zso hK _ _ (MA.mk (fun _=>M.mask [false,false,true,true] Z) (M.mask [false,false,true,false] Z)) ?_;clear hK K
  exact H12 _ _ ⟨gr2_14,gr2_7,T.pick [1,2,0,4,5,7] Z,M⟩
 intro H9
 refine g_have (fun ac wc=>∃ (gr2_14:Nat),Tm ac 27 [(17,.slice (some ⟨gr2_14,0,none⟩) 2 2),(20,.agg #[Zi 30,Zi 30,Zi 0,Zi 0]),(9,.agg #[Zi 0,Zi 0,Zi 0,Zi 0]),(6,.agg #[Zi (-1),Zi 1,Zi 0,Zi 0]),(3,.agg #[Zi 20,Zi (-2),Zi 4,Zi 2]),(22,.agg #[Zi 0,Zi 0]),(0,Zj g1)]∧Mem w noEx wc [(gr2_14,.cells [Zi 20,Zi 20,Zi 0,Zi 0,Zi 13,Zi 15,Zi 0,Zi 0]),(g2,.cells [Zi 0,Zi 0]),(g1,.cells [Zi 0,Zi 0,Zi 0,Zi 0,.slice none 0 0])]) (Zpb 25 786303) 7 ?_ ?_
 ·clear T M
  rintro ac wc ⟨gr2_14,T,M⟩
  refine g_m2 (i:=7) (j:=18) (by kernel_rfl) ?_ ?_
  ·refine gi 786431 ?_;intro K hK
   refine ow_bs (e:=77) [Zi (-1),Zi 1,Zi 0,Zi 0,Zi 0,Zi 0,Zi 0,Zi 0] M T Z Z Z Z (.cons (T.e 3 Z) (.cons (T.e 2 Z) .nil)) (fun _=>by kernel_rfl) ?_;clear M T;intro gr2_7 wc ac M T
   refine Zso hK _ _ (MA.mk (fun _=>M.mask [false,false,true,true] Z) (M.mask [false,false,true,false] Z)) ?_;clear hK K
   exact H12 _ _ ⟨gr2_14,gr2_7,T.pick [1,0,2,5,6,7] Z,M.perm [1,0,2,3] Z Z⟩
  refine gi 1048447 ?_;intro K hK
  refine Zod T Z Z Z Z evf (.cons evc (.cons evc .nil)) func32 Z Z ?_
  refine Calls.mono (to5_any 30 30 _) ?_
  clear T;rintro e wc ⟨rfl,hb⟩ ac T
  replace M:=M.call hb;clear hb
  refine Zso hK _ _ (MA.mk (fun _=>M.mask [false,true,true] Z) (M.mask [false,true,false] Z)) ?_;clear hK K
  exact H11 _ _ ⟨gr2_14,T.pick [1,0,2,3,4,5,6,7] Z,M⟩
 intro H8
 refine g_have (fun ac wc=>∃ (gr2_7:Nat),Tm ac 27 [(10,.slice (some ⟨gr2_7,0,none⟩) 2 2),(20,.agg #[Zi 30,Zi 30,Zi 0,Zi 0]),(16,.agg #[Zi 13,Zi 15,Zi 0,Zi 0]),(13,.agg #[Zi 20,Zi 20,Zi 0,Zi 0]),(3,.agg #[Zi 20,Zi (-2),Zi 4,Zi 2]),(22,.agg #[Zi 0,Zi 0]),(0,Zj g1)]∧Mem w noEx wc [(gr2_7,.cells [Zi (-1),Zi 1,Zi 0,Zi 0,Zi 0,Zi 0,Zi 0,Zi 0]),(g2,.cells [Zi 0,Zi 0]),(g1,.cells [Zi 0,Zi 0,Zi 0,Zi 0,.slice none 0 0])]) (Zpb 25 770047) 7 ?_ ?_
 ·clear T M
  rintro ac wc ⟨gr2_7,T,M⟩
  refine g_m2 (i:=14) (j:=18) (by kernel_rfl) ?_ ?_
  ·refine gi 786431 ?_;intro K hK
   refine ow_bs (e:=77) [Zi 20,Zi 20,Zi 0,Zi 0,Zi 13,Zi 15,Zi 0,Zi 0] M T Z Z Z Z (.cons (T.e 3 Z) (.cons (T.e 2 Z) .nil)) (fun _=>by kernel_rfl) ?_;clear M T;intro gr2_14 wc ac M T
   refine Zso hK _ _ (MA.mk (fun _=>M.mask [false,false,true,true] Z) (M.mask [false,false,true,false] Z)) ?_;clear hK K
   exact H12 _ _ ⟨gr2_14,gr2_7,T.pick [0,1,2,5,6,7] Z,M⟩
  refine gi 1032191 ?_;intro K hK
  refine Zod T Z Z Z Z evf (.cons evc (.cons evc .nil)) func32 Z Z ?_
  refine Calls.mono (to5_any 30 30 _) ?_
  clear T;rintro e wc ⟨rfl,hb⟩ ac T
  replace M:=M.call hb;clear hb
  refine Zso hK _ _ (MA.mk (fun _=>M.mask [false,true,true] Z) (M.mask [false,true,false] Z)) ?_;clear hK K
  exact H10 _ _ ⟨gr2_7,T.pick [1,0,2,3,4,5,6,7] Z,M⟩
 intro H7
 refine g_have (fun ac wc=>∃ (gr2_7 gr2_14:Nat),Tm ac 27 [(10,.slice (some ⟨gr2_7,0,none⟩) 2 2),(17,.slice (some ⟨gr2_14,0,none⟩) 2 2),(3,.agg #[Zi 20,Zi (-2),Zi 4,Zi 2]),(22,.agg #[Zi 0,Zi 0]),(19,.agg #[Zi 0,Zi 0]),(0,Zj g1)]∧Mem w noEx wc [(gr2_7,.cells [Zi (-1),Zi 1,Zi 0,Zi 0,Zi 0,Zi 0,Zi 0,Zi 0]),(gr2_14,.cells [Zi 20,Zi 20,Zi 0,Zi 0,Zi 13,Zi 15,Zi 0,Zi 0]),(g2,.cells [Zi 0,Zi 0]),(g1,.cells [Zi 0,Zi 0,Zi 0,Zi 0,.slice none 0 0])]) (Zpb 25 622591) 8 ?_ ?_
 ·clear T M
  rintro ac wc ⟨gr2_7,gr2_14,T,M⟩
  refine gw 15 655359 ?_;intro K hK
  refine Zod T Z Z Z Z evf (.cons evc (.cons evc .nil)) func32 Z Z ?_
  refine Calls.mono (to5_any 30 30 _) ?_
  clear T;rintro e wc ⟨rfl,hb⟩ ac T
  replace M:=M.call hb;clear hb
  refine Zso hK _ _ (MA.mk (fun _=>M.mask [false,false,true,true] Z) (M.mask [false,false,true,false] Z)) ?_;clear hK K
  exact H9 _ _ ⟨gr2_14,gr2_7,T.pick [2,1,0,3,4,5,6] Z,M.perm [1,0,2,3] Z Z⟩
 intro H6
 refine g_have (fun ac wc=>∃ (gr2_14:Nat),Tm ac 27 [(18,.agg #[Zi 30,Zi 30]),(17,.slice (some ⟨gr2_14,0,none⟩) 2 2),(9,.agg #[Zi 0,Zi 0,Zi 0,Zi 0]),(6,.agg #[Zi (-1),Zi 1,Zi 0,Zi 0]),(3,.agg #[Zi 20,Zi (-2),Zi 4,Zi 2]),(22,.agg #[Zi 0,Zi 0]),(19,.agg #[Zi 0,Zi 0]),(0,Zj g1)]∧Mem w noEx wc [(gr2_14,.cells [Zi 20,Zi 20,Zi 0,Zi 0,Zi 13,Zi 15,Zi 0,Zi 0]),(g2,.cells [Zi 0,Zi 0]),(g1,.cells [Zi 0,Zi 0,Zi 0,Zi 0,.slice none 0 0])]) (Zpb 25 655231) 8 ?_ ?_
 ·clear T M
  rintro ac wc ⟨gr2_14,T,M⟩
  refine g_m2 (i:=7) (j:=17) (by kernel_rfl) ?_ ?_
  ·refine gi 655359 ?_;intro K hK
   refine ow_bs (e:=77) [Zi (-1),Zi 1,Zi 0,Zi 0,Zi 0,Zi 0,Zi 0,Zi 0] M T Z Z Z Z (.cons (T.e 3 Z) (.cons (T.e 2 Z) .nil)) (fun _=>by kernel_rfl) ?_;clear M T;intro gr2_7 wc ac M T
   refine Zso hK _ _ (MA.mk (fun _=>M.mask [false,false,true,true] Z) (M.mask [false,false,true,false] Z)) ?_;clear hK K
   exact H9 _ _ ⟨gr2_14,gr2_7,T.pick [2,0,1,5,6,7,8] Z,M.perm [1,0,2,3] Z Z⟩
  refine gi 786303 ?_;intro K hK
  refine Zod T Z Z Z Z evf (.cons (T.e 0 Z) (.cons (T.e 6 Z) .nil)) func80 Z Z ?_
  refine Calls.mono (sound5_any 30 30 0 0 _) ?_
  clear T;rintro e wc ⟨rfl,hb⟩ ac T
  replace M:=M.call hb;clear hb
  refine Zso hK _ _ (MA.mk (fun _=>M.mask [false,true,true] Z) (M.mask [false,true,false] Z)) ?_;clear hK K
  exact H8 _ _ ⟨gr2_14,T.pick [2,0,3,4,5,6,8] Z,M⟩
 intro H5
 refine g_have (fun ac wc=>∃ (gr2_7:Nat),Tm ac 27 [(10,.slice (some ⟨gr2_7,0,none⟩) 2 2),(18,.agg #[Zi 30,Zi 30]),(16,.agg #[Zi 13,Zi 15,Zi 0,Zi 0]),(13,.agg #[Zi 20,Zi 20,Zi 0,Zi 0]),(3,.agg #[Zi 20,Zi (-2),Zi 4,Zi 2]),(22,.agg #[Zi 0,Zi 0]),(19,.agg #[Zi 0,Zi 0]),(0,Zj g1)]∧Mem w noEx wc [(gr2_7,.cells [Zi (-1),Zi 1,Zi 0,Zi 0,Zi 0,Zi 0,Zi 0,Zi 0]),(g2,.cells [Zi 0,Zi 0]),(g1,.cells [Zi 0,Zi 0,Zi 0,Zi 0,.slice none 0 0])]) (Zpb 25 638975) 8 ?_ ?_
 ·clear T M
  rintro ac wc ⟨gr2_7,T,M⟩
  refine g_m2 (i:=14) (j:=17) (by kernel_rfl) ?_ ?_
  ·refine gi 655359 ?_;intro K hK
   refine ow_bs (e:=77) [Zi 20,Zi 20,Zi 0,Zi 0,Zi 13,Zi 15,Zi 0,Zi 0] M T Z Z Z Z (.cons (T.e 3 Z) (.cons (T.e 2 Z) .nil)) (fun _=>by kernel_rfl) ?_;clear M T;intro gr2_14 wc ac M T
   refine Zso hK _ _ (MA.mk (fun _=>M.mask [false,false,true,true] Z) (M.mask [false,false,true,false] Z)) ?_;clear hK K
   exact H9 _ _ ⟨gr2_14,gr2_7,T.pick [0,1,2,5,6,7,8] Z,M⟩
  refine gi 770047 ?_;intro K hK
  refine Zod T Z Z Z Z evf (.cons (T.e 1 Z) (.cons (T.e 6 Z) .nil)) func80 Z Z ?_
  refine Calls.mono (sound5_any 30 30 0 0 _) ?_
  clear T;rintro e wc ⟨rfl,hb⟩ ac T
  replace M:=M.call hb;clear hb
  refine Zso hK _ _ (MA.mk (fun _=>M.mask [false,true,true] Z) (M.mask [false,true,false] Z)) ?_;clear hK K
  exact H7 _ _ ⟨gr2_7,T.pick [1,0,3,4,5,6,8] Z,M⟩
 intro H4
 refine g_have (fun ac wc=>∃ (gr2_7:Nat),Tm ac 27 [(10,.slice (some ⟨gr2_7,0,none⟩) 2 2),(16,.agg #[Zi 13,Zi 15,Zi 0,Zi 0]),(13,.agg #[Zi 20,Zi 20,Zi 0,Zi 0]),(3,.agg #[Zi 20,Zi (-2),Zi 4,Zi 2]),(22,.agg #[Zi 0,Zi 0]),(19,.agg #[Zi 0,Zi 0]),(0,Zj g1)]∧Mem w noEx wc [(gr2_7,.cells [Zi (-1),Zi 1,Zi 0,Zi 0,Zi 0,Zi 0,Zi 0,Zi 0]),(g2,.cells [Zi 0,Zi 0]),(g1,.cells [Zi 0,Zi 0,Zi 0,Zi 0,.slice none 0 0])]) (Zpb 25 606207) 9 ?_ ?_
 ·clear T M
  rintro ac wc ⟨gr2_7,T,M⟩
  refine g_m2 (i:=14) (j:=15) (by kernel_rfl) ?_ ?_
  ·refine gi 622591 ?_;intro K hK
   refine ow_bs (e:=77) [Zi 20,Zi 20,Zi 0,Zi 0,Zi 13,Zi 15,Zi 0,Zi 0] M T Z Z Z Z (.cons (T.e 2 Z) (.cons (T.e 1 Z) .nil)) (fun _=>by kernel_rfl) ?_;clear M T;intro gr2_14 wc ac M T
   refine Zso hK _ _ (MA.mk (fun _=>M.mask [false,false,true,true] Z) (M.mask [false,false,true,false] Z)) ?_;clear hK K
   exact H6 _ _ ⟨gr2_7,gr2_14,T.pick [1,0,4,5,6,7] Z,M.perm [1,0,2,3] Z Z⟩
  refine gi 638975 ?_;intro K hK
  refine Zod T Z Z Z Z evf (.cons evc (.cons evc .nil)) func32 Z Z ?_
  refine Calls.mono (to5_any 30 30 _) ?_
  clear T;rintro e wc ⟨rfl,hb⟩ ac T
  replace M:=M.call hb;clear hb
  refine Zso hK _ _ (MA.mk (fun _=>M.mask [false,true,true] Z) (M.mask [false,true,false] Z)) ?_;clear hK K
  exact H4 _ _ ⟨gr2_7,T.pick [1,0,2,3,4,5,6,7] Z,M⟩
 intro H3
 refine g_have (fun ac wc=>∃ (gr2_7:Nat),Tm ac 27 [(10,.slice (some ⟨gr2_7,0,none⟩) 2 2),(14,.agg #[Zi 13,Zi 15]),(13,.agg #[Zi 20,Zi 20,Zi 0,Zi 0]),(3,.agg #[Zi 20,Zi (-2),Zi 4,Zi 2]),(22,.agg #[Zi 0,Zi 0]),(19,.agg #[Zi 0,Zi 0]),(15,.agg #[Zi 0,Zi 0]),(0,Zj g1)]∧Mem w noEx wc [(gr2_7,.cells [Zi (-1),Zi 1,Zi 0,Zi 0,Zi 0,Zi 0,Zi 0,Zi 0]),(g2,.cells [Zi 0,Zi 0]),(g1,.cells [Zi 0,Zi 0,Zi 0,Zi 0,.slice none 0 0])]) (Zpb 25 598015) 10 ?_ ?_
 ·clear T M
  rintro ac wc ⟨gr2_7,T,M⟩
  refine gw 13 606207 ?_;intro K hK
  refine Zod T Z Z Z Z evf (.cons (T.e 1 Z) (.cons (T.e 6 Z) .nil)) func80 Z Z ?_
  refine Calls.mono (sound5_any 13 15 0 0 _) ?_
  clear T;rintro e wc ⟨rfl,hb⟩ ac T
  replace M:=M.call hb;clear hb
  refine Zso hK _ _ (MA.mk (fun _=>M.mask [false,true,true] Z) (M.mask [false,true,false] Z)) ?_;clear hK K
  exact H3 _ _ ⟨gr2_7,T.pick [1,0,3,4,5,6,8] Z,M⟩
 intro H2
 refine g_have (fun ac wc=>∃ (gr2_7:Nat),Tm ac 27 [(10,.slice (some ⟨gr2_7,0,none⟩) 2 2),(13,.agg #[Zi 20,Zi 20,Zi 0,Zi 0]),(3,.agg #[Zi 20,Zi (-2),Zi 4,Zi 2]),(22,.agg #[Zi 0,Zi 0]),(19,.agg #[Zi 0,Zi 0]),(15,.agg #[Zi 0,Zi 0]),(0,Zj g1)]∧Mem w noEx wc [(gr2_7,.cells [Zi (-1),Zi 1,Zi 0,Zi 0,Zi 0,Zi 0,Zi 0,Zi 0]),(g2,.cells [Zi 0,Zi 0]),(g1,.cells [Zi 0,Zi 0,Zi 0,Zi 0,.slice none 0 0])]) (Zpb 25 595967) 11 ?_ ?_
 ·clear T M
  rintro ac wc ⟨gr2_7,T,M⟩
  refine gw 11 598015 ?_;intro K hK
  refine Zod T Z Z Z Z evf (.cons evc (.cons evc .nil)) func32 Z Z ?_
  refine Calls.mono (to5_any 13 15 _) ?_
  clear T;rintro e wc ⟨rfl,hb⟩ ac T
  replace M:=M.call hb;clear hb
  refine Zso hK _ _ (MA.mk (fun _=>M.mask [false,true,true] Z) (M.mask [false,true,false] Z)) ?_;clear hK K
  exact H2 _ _ ⟨gr2_7,T.pick [1,0,2,3,4,5,6,7] Z,M⟩
 intro H1
 refine g_have (fun ac wc=>∃ (gr2_7:Nat),Tm ac 27 [(11,.agg #[Zi 20,Zi 20]),(10,.slice (some ⟨gr2_7,0,none⟩) 2 2),(3,.agg #[Zi 20,Zi (-2),Zi 4,Zi 2]),(22,.agg #[Zi 0,Zi 0]),(19,.agg #[Zi 0,Zi 0]),(15,.agg #[Zi 0,Zi 0]),(12,.agg #[Zi 0,Zi 0]),(0,Zj g1)]∧Mem w noEx wc [(gr2_7,.cells [Zi (-1),Zi 1,Zi 0,Zi 0,Zi 0,Zi 0,Zi 0,Zi 0]),(g2,.cells [Zi 0,Zi 0]),(g1,.cells [Zi 0,Zi 0,Zi 0,Zi 0,.slice none 0 0])]) (Zpb 25 594943) 12 ?_ ?_
 ·clear T M
  rintro ac wc ⟨gr2_7,T,M⟩
  refine gw 10 595967 ?_;intro K hK
  refine Zod T Z Z Z Z evf (.cons (T.e 0 Z) (.cons (T.e 6 Z) .nil)) func80 Z Z ?_
  refine Calls.mono (sound5_any 20 20 0 0 _) ?_
  clear T;rintro e wc ⟨rfl,hb⟩ ac T
  replace M:=M.call hb;clear hb
  refine Zso hK _ _ (MA.mk (fun _=>M.mask [false,true,true] Z) (M.mask [false,true,false] Z)) ?_;clear hK K
  exact H1 _ _ ⟨gr2_7,T.pick [2,0,3,4,5,6,8] Z,M⟩
 intro H0
 refine gq T 2 4 Z (fun B w' hD hl hS=>(Zrr (Mem.nth (show Mem w noEx w' _ from ((MA.lft hS) (hD.wait (i:=2) (m:=24) (by kernel_rfl) hl))) 0 Z) Z (T.e 0 Z) Z)) ?_;intro ac T
 refine gq T 5 36 Z (fun B w' hD hl hS=>(Zrr (Mem.nth (show Mem w noEx w' _ from ((MA.lft hS) (hD.wait (i:=5) (m:=24) (by kernel_rfl) hl))) 0 Z) Z (T.e 1 Z) Z)) ?_;intro ac T
 refine gq T 9 548 Z (fun B w' hD hl hS=>(Zrr (Mem.nth (show Mem w noEx w' _ from ((MA.lft hS) (hD.wait (i:=9) (m:=24) (by kernel_rfl) hl))) 0 Z) Z (T.e 2 Z) Z)) ?_;intro ac T
 refine gq T 12 4644 Z (fun B w' hD hl hS=>(Zrr (Mem.nth (show Mem w noEx w' _ from ((MA.lft hS) (hD.wait (i:=12) (m:=24) (by kernel_rfl) hl))) 0 Z) Z (T.e 3 Z) Z)) ?_;intro ac T
 refine gq T 16 70180 Z (fun B w' hD hl hS=>(Zrr (Mem.nth (show Mem w noEx w' _ from ((MA.lft hS) (hD.wait (i:=16) (m:=24) (by kernel_rfl) hl))) 0 Z) Z (T.e 4 Z) Z)) ?_;intro ac T
 refine gq T 19 594468 Z (fun B w' hD hl hS=>(Zrr (Mem.nth (show Mem w noEx w' _ from ((MA.lft hS) (hD.wait (i:=19) (m:=24) (by kernel_rfl) hl))) 0 Z) Z (T.e 5 Z) Z)) ?_;intro ac T
 refine gw 0 594469 ?_;intro K hK
 refine Zod T Z Z Z Z evf .nil func90 Z Z ?_
 refine Calls.mono (law5_any _) ?_
 clear T;rintro e wc ⟨rfl,hb⟩ ac T
 replace M:=M.call hb;clear hb
 refine Zso hK _ _ (MA.mk (fun _=>M.mask [true,true] Z) (M.mask [true,false] Z)) ?_;clear hK K
 refine gw 1 594471 ?_;intro K hK
 refine Zod T Z Z Z Z evf (.cons evc (.cons evc .nil)) func32 Z Z ?_
 refine Calls.mono (to5_any (-1) 1 _) ?_
 clear T;rintro e wc ⟨rfl,hb⟩ ac T
 replace M:=M.call hb;clear hb
 refine Zso hK _ _ (MA.mk (fun _=>M.mask [true,true] Z) (M.mask [true,false] Z)) ?_;clear hK K
 refine gw 3 594479 ?_;intro K hK
 refine Zod T Z Z Z Z evf (.cons (T.e 0 Z) (.cons (T.e 7 Z) .nil)) func80 Z Z ?_
 refine Calls.mono (sound5_any (-1) 1 0 0 _) ?_
 clear T;rintro e wc ⟨rfl,hb⟩ ac T
 replace M:=M.call hb;clear hb
 refine Zso hK _ _ (MA.mk (fun _=>M.mask [true,true] Z) (M.mask [true,false] Z)) ?_;clear hK K
 refine gw 4 594495 ?_;intro K hK
 refine Zod T Z Z Z Z evf (.cons evc (.cons evc .nil)) func32 Z Z ?_
 refine Calls.mono (to5_any 0 0 _) ?_
 clear T;rintro e wc ⟨rfl,hb⟩ ac T
 replace M:=M.call hb;clear hb
 refine Zso hK _ _ (MA.mk (fun _=>M.mask [true,true] Z) (M.mask [true,false] Z)) ?_;clear hK K
 refine gw 6 594559 ?_;intro K hK
 refine Zod T Z Z Z Z evf (.cons (T.e 0 Z) (.cons (T.e 8 Z) .nil)) func80 Z Z ?_
 refine Calls.mono (sound5_any 0 0 0 0 _) ?_
 clear T;rintro e wc ⟨rfl,hb⟩ ac T
 replace M:=M.call hb;clear hb
 refine Zso hK _ _ (MA.mk (fun _=>M.mask [true,true] Z) (M.mask [true,false] Z)) ?_;clear hK K
 refine g_m2 (i:=7) (j:=8) (by kernel_rfl) ?_ ?_
 ·refine gi 594687 ?_;intro K hK
  refine ow_bs (e:=77) [Zi (-1),Zi 1,Zi 0,Zi 0,Zi 0,Zi 0,Zi 0,Zi 0] M T Z Z Z Z (.cons (T.e 2 Z) (.cons (T.e 0 Z) .nil)) (fun _=>by kernel_rfl) ?_;clear M T;intro gr2_7 wc ac M T
  refine Zso hK _ _ (MA.mk (fun _=>M.mask [false,true,true] Z) (M.mask [false,true,false] Z)) ?_;clear hK K
  refine gw 8 594943 ?_;intro K hK
  refine Zod T Z Z Z Z evf (.cons evc (.cons evc .nil)) func32 Z Z ?_
  refine Calls.mono (to5_any 20 20 _) ?_
  clear T;rintro e wc ⟨rfl,hb⟩ ac T
  replace M:=M.call hb;clear hb
  refine Zso hK _ _ (MA.mk (fun _=>M.mask [false,true,true] Z) (M.mask [false,true,false] Z)) ?_;clear hK K
  exact H0 _ _ ⟨gr2_7,T.pick [0,1,6,7,8,9,10,14] Z,M⟩
 refine gi 594815 ?_;intro K hK
 refine Zod T Z Z Z Z evf (.cons evc (.cons evc .nil)) func32 Z Z ?_
 refine Calls.mono (to5_any 20 20 _) ?_
 clear T;rintro e wc ⟨rfl,hb⟩ ac T
 replace M:=M.call hb;clear hb
 refine Zso hK _ _ (MA.mk (fun _=>M.mask [true,true] Z) (M.mask [true,false] Z)) ?_;clear hK K
 refine g_m2 (i:=7) (j:=10) (by kernel_rfl) ?_ ?_
 ·refine gi 594943 ?_;intro K hK
  refine ow_bs (e:=77) [Zi (-1),Zi 1,Zi 0,Zi 0,Zi 0,Zi 0,Zi 0,Zi 0] M T Z Z Z Z (.cons (T.e 3 Z) (.cons (T.e 1 Z) .nil)) (fun _=>by kernel_rfl) ?_;clear M T;intro gr2_7 wc ac M T
  refine Zso hK _ _ (MA.mk (fun _=>M.mask [false,true,true] Z) (M.mask [false,true,false] Z)) ?_;clear hK K
  exact H0 _ _ ⟨gr2_7,T.pick [1,0,6,7,8,9,10,14] Z,M⟩
 refine gi 595839 ?_;intro K hK
 refine Zod T Z Z Z Z evf (.cons (T.e 0 Z) (.cons (T.e 9 Z) .nil)) func80 Z Z ?_
 refine Calls.mono (sound5_any 20 20 0 0 _) ?_
 clear T;rintro e wc ⟨rfl,hb⟩ ac T
 replace M:=M.call hb;clear hb
 refine Zso hK _ _ (MA.mk (fun _=>M.mask [true,true] Z) (M.mask [true,false] Z)) ?_;clear hK K
 refine g_m2 (i:=7) (j:=11) (by kernel_rfl) ?_ ?_
 ·refine gi 595967 ?_;intro K hK
  refine ow_bs (e:=77) [Zi (-1),Zi 1,Zi 0,Zi 0,Zi 0,Zi 0,Zi 0,Zi 0] M T Z Z Z Z (.cons (T.e 4 Z) (.cons (T.e 2 Z) .nil)) (fun _=>by kernel_rfl) ?_;clear M T;intro gr2_7 wc ac M T
  refine Zso hK _ _ (MA.mk (fun _=>M.mask [false,true,true] Z) (M.mask [false,true,false] Z)) ?_;clear hK K
  exact H1 _ _ ⟨gr2_7,T.pick [0,1,7,8,9,10,15] Z,M⟩
 refine gi 597887 ?_;intro K hK
 refine Zod T Z Z Z Z evf (.cons evc (.cons evc .nil)) func32 Z Z ?_
 refine Calls.mono (to5_any 13 15 _) ?_
 clear T;rintro e wc ⟨rfl,hb⟩ ac T
 replace M:=M.call hb;clear hb
 refine Zso hK _ _ (MA.mk (fun _=>M.mask [true,true] Z) (M.mask [true,false] Z)) ?_;clear hK K
 refine g_m2 (i:=7) (j:=13) (by kernel_rfl) ?_ ?_
 ·refine gi 598015 ?_;intro K hK
  refine ow_bs (e:=77) [Zi (-1),Zi 1,Zi 0,Zi 0,Zi 0,Zi 0,Zi 0,Zi 0] M T Z Z Z Z (.cons (T.e 5 Z) (.cons (T.e 3 Z) .nil)) (fun _=>by kernel_rfl) ?_;clear M T;intro gr2_7 wc ac M T
  refine Zso hK _ _ (MA.mk (fun _=>M.mask [false,true,true] Z) (M.mask [false,true,false] Z)) ?_;clear hK K
  exact H2 _ _ ⟨gr2_7,T.pick [0,1,2,8,9,10,11,16] Z,M⟩
 refine gi 606079 ?_;intro K hK
 refine Zod T Z Z Z Z evf (.cons (T.e 0 Z) (.cons (T.e 10 Z) .nil)) func80 Z Z ?_
 refine Calls.mono (sound5_any 13 15 0 0 _) ?_
 clear T;rintro e wc ⟨rfl,hb⟩ ac T
 replace M:=M.call hb;clear hb
 refine Zso hK _ _ (MA.mk (fun _=>M.mask [true,true] Z) (M.mask [true,false] Z)) ?_;clear hK K
 refine g_m3 (i:=7) (j:=14) (k:=15) (by kernel_rfl) ?_ ?_ ?_
 ·refine gi 606207 ?_;intro K hK
  refine ow_bs (e:=77) [Zi (-1),Zi 1,Zi 0,Zi 0,Zi 0,Zi 0,Zi 0,Zi 0] M T Z Z Z Z (.cons (T.e 6 Z) (.cons (T.e 4 Z) .nil)) (fun _=>by kernel_rfl) ?_;clear M T;intro gr2_7 wc ac M T
  refine Zso hK _ _ (MA.mk (fun _=>M.mask [false,true,true] Z) (M.mask [false,true,false] Z)) ?_;clear hK K
  exact H3 _ _ ⟨gr2_7,T.pick [0,1,3,9,10,11,17] Z,M⟩
 ·refine gi 622463 ?_;intro K hK
  refine ow_bs (e:=77) [Zi 20,Zi 20,Zi 0,Zi 0,Zi 13,Zi 15,Zi 0,Zi 0] M T Z Z Z Z (.cons (T.e 2 Z) (.cons (T.e 0 Z) .nil)) (fun _=>by kernel_rfl) ?_;clear M T;intro gr2_14 wc ac M T
  refine Zso hK _ _ (MA.mk (fun _=>M.mask [false,true,true] Z) (M.mask [false,true,false] Z)) ?_;clear hK K
  refine g_m2 (i:=7) (j:=15) (by kernel_rfl) ?_ ?_
  ·refine gi 622591 ?_;intro K hK
   refine ow_bs (e:=77) [Zi (-1),Zi 1,Zi 0,Zi 0,Zi 0,Zi 0,Zi 0,Zi 0] M T Z Z Z Z (.cons (T.e 7 Z) (.cons (T.e 5 Z) .nil)) (fun _=>by kernel_rfl) ?_;clear M T;intro gr2_7 wc ac M T
   refine Zso hK _ _ (MA.mk (fun _=>M.mask [false,false,true,true] Z) (M.mask [false,false,true,false] Z)) ?_;clear hK K
   exact H6 _ _ ⟨gr2_7,gr2_14,T.pick [0,1,10,11,12,18] Z,M⟩
  refine gi 655231 ?_;intro K hK
  refine Zod T Z Z Z Z evf (.cons evc (.cons evc .nil)) func32 Z Z ?_
  refine Calls.mono (to5_any 30 30 _) ?_
  clear T;rintro e wc ⟨rfl,hb⟩ ac T
  replace M:=M.call hb;clear hb
  refine Zso hK _ _ (MA.mk (fun _=>M.mask [false,true,true] Z) (M.mask [false,true,false] Z)) ?_;clear hK K
  exact H5 _ _ ⟨gr2_14,T.pick [0,1,6,8,10,11,12,18] Z,M⟩
 refine gi 638847 ?_;intro K hK
 refine Zod T Z Z Z Z evf (.cons evc (.cons evc .nil)) func32 Z Z ?_
 refine Calls.mono (to5_any 30 30 _) ?_
 clear T;rintro e wc ⟨rfl,hb⟩ ac T
 replace M:=M.call hb;clear hb
 refine Zso hK _ _ (MA.mk (fun _=>M.mask [true,true] Z) (M.mask [true,false] Z)) ?_;clear hK K
 refine g_m3 (i:=7) (j:=14) (k:=17) (by kernel_rfl) ?_ ?_ ?_
 ·refine gi 638975 ?_;intro K hK
  refine ow_bs (e:=77) [Zi (-1),Zi 1,Zi 0,Zi 0,Zi 0,Zi 0,Zi 0,Zi 0] M T Z Z Z Z (.cons (T.e 7 Z) (.cons (T.e 5 Z) .nil)) (fun _=>by kernel_rfl) ?_;clear M T;intro gr2_7 wc ac M T
  refine Zso hK _ _ (MA.mk (fun _=>M.mask [false,true,true] Z) (M.mask [false,true,false] Z)) ?_;clear hK K
  exact H4 _ _ ⟨gr2_7,T.pick [0,1,2,4,10,11,12,18] Z,M⟩
 ·refine gi 655231 ?_;intro K hK
  refine ow_bs (e:=77) [Zi 20,Zi 20,Zi 0,Zi 0,Zi 13,Zi 15,Zi 0,Zi 0] M T Z Z Z Z (.cons (T.e 3 Z) (.cons (T.e 1 Z) .nil)) (fun _=>by kernel_rfl) ?_;clear M T;intro gr2_14 wc ac M T
  refine Zso hK _ _ (MA.mk (fun _=>M.mask [false,true,true] Z) (M.mask [false,true,false] Z)) ?_;clear hK K
  exact H5 _ _ ⟨gr2_14,T.pick [1,0,6,8,10,11,12,18] Z,M⟩
 refine gi 769919 ?_;intro K hK
 refine Zod T Z Z Z Z evf (.cons (T.e 0 Z) (.cons (T.e 11 Z) .nil)) func80 Z Z ?_
 refine Calls.mono (sound5_any 30 30 0 0 _) ?_
 clear T;rintro e wc ⟨rfl,hb⟩ ac T
 replace M:=M.call hb;clear hb
 refine Zso hK _ _ (MA.mk (fun _=>M.mask [true,true] Z) (M.mask [true,false] Z)) ?_;clear hK K
 refine g_m3 (i:=7) (j:=14) (k:=18) (by kernel_rfl) ?_ ?_ ?_
 ·refine gi 770047 ?_;intro K hK
  refine ow_bs (e:=77) [Zi (-1),Zi 1,Zi 0,Zi 0,Zi 0,Zi 0,Zi 0,Zi 0] M T Z Z Z Z (.cons (T.e 8 Z) (.cons (T.e 6 Z) .nil)) (fun _=>by kernel_rfl) ?_;clear M T;intro gr2_7 wc ac M T
  refine Zso hK _ _ (MA.mk (fun _=>M.mask [false,true,true] Z) (M.mask [false,true,false] Z)) ?_;clear hK K
  exact H7 _ _ ⟨gr2_7,T.pick [0,1,3,5,11,12,19] Z,M⟩
 ·refine gi 786303 ?_;intro K hK
  refine ow_bs (e:=77) [Zi 20,Zi 20,Zi 0,Zi 0,Zi 13,Zi 15,Zi 0,Zi 0] M T Z Z Z Z (.cons (T.e 4 Z) (.cons (T.e 2 Z) .nil)) (fun _=>by kernel_rfl) ?_;clear M T;intro gr2_14 wc ac M T
  refine Zso hK _ _ (MA.mk (fun _=>M.mask [false,true,true] Z) (M.mask [false,true,false] Z)) ?_;clear hK K
  exact H8 _ _ ⟨gr2_14,T.pick [0,1,7,9,11,12,19] Z,M⟩
 refine gi 1032063 ?_;intro K hK
 refine Zod T Z Z Z Z evf (.cons evc (.cons evc .nil)) func32 Z Z ?_
 refine Calls.mono (to5_any 30 30 _) ?_
 clear T;rintro e wc ⟨rfl,hb⟩ ac T
 replace M:=M.call hb;clear hb
 refine Zso hK _ _ (MA.mk (fun _=>M.mask [true,true] Z) (M.mask [true,false] Z)) ?_;clear hK K
 refine g_m3 (i:=7) (j:=14) (k:=20) (by kernel_rfl) ?_ ?_ ?_
 ·refine gi 1032191 ?_;intro K hK
  refine ow_bs (e:=77) [Zi (-1),Zi 1,Zi 0,Zi 0,Zi 0,Zi 0,Zi 0,Zi 0] M T Z Z Z Z (.cons (T.e 9 Z) (.cons (T.e 7 Z) .nil)) (fun _=>by kernel_rfl) ?_;clear M T;intro gr2_7 wc ac M T
  refine Zso hK _ _ (MA.mk (fun _=>M.mask [false,true,true] Z) (M.mask [false,true,false] Z)) ?_;clear hK K
  exact H10 _ _ ⟨gr2_7,T.pick [0,1,2,4,6,12,13,20] Z,M⟩
 ·refine gi 1048447 ?_;intro K hK
  refine ow_bs (e:=77) [Zi 20,Zi 20,Zi 0,Zi 0,Zi 13,Zi 15,Zi 0,Zi 0] M T Z Z Z Z (.cons (T.e 5 Z) (.cons (T.e 3 Z) .nil)) (fun _=>by kernel_rfl) ?_;clear M T;intro gr2_14 wc ac M T
  refine Zso hK _ _ (MA.mk (fun _=>M.mask [false,true,true] Z) (M.mask [false,true,false] Z)) ?_;clear hK K
  exact H11 _ _ ⟨gr2_14,T.pick [0,1,2,8,10,12,13,20] Z,M⟩
 refine gi 2080639 ?_;intro K hK
 refine Zod T Z Z Z Z evf (.cons (T.e 0 Z) (.cons (T.e 12 Z) .nil)) func80 Z Z ?_
 refine Calls.mono (sound5_any 30 30 0 0 _) ?_
 clear T;rintro e wc ⟨rfl,hb⟩ ac T
 replace M:=M.call hb;clear hb
 refine Zso hK _ _ (MA.mk (fun _=>M.mask [true,true] Z) (M.mask [true,false] Z)) ?_;clear hK K
 refine g_m3 (i:=7) (j:=14) (k:=21) (by kernel_rfl) ?_ ?_ ?_
 ·refine gi 2080767 ?_;intro K hK
  refine ow_bs (e:=77) [Zi (-1),Zi 1,Zi 0,Zi 0,Zi 0,Zi 0,Zi 0,Zi 0] M T Z Z Z Z (.cons (T.e 10 Z) (.cons (T.e 8 Z) .nil)) (fun _=>by kernel_rfl) ?_;clear M T;intro gr2_7 wc ac M T
  refine Zso hK _ _ (MA.mk (fun _=>M.mask [false,true,true] Z) (M.mask [false,true,false] Z)) ?_;clear hK K
  exact H13 _ _ ⟨gr2_7,T.pick [0,1,3,5,7,13,21] Z,M⟩
 ·refine gi 2097023 ?_;intro K hK
  refine ow_bs (e:=77) [Zi 20,Zi 20,Zi 0,Zi 0,Zi 13,Zi 15,Zi 0,Zi 0] M T Z Z Z Z (.cons (T.e 6 Z) (.cons (T.e 4 Z) .nil)) (fun _=>by kernel_rfl) ?_;clear M T;intro gr2_14 wc ac M T
  refine Zso hK _ _ (MA.mk (fun _=>M.mask [false,true,true] Z) (M.mask [false,true,false] Z)) ?_;clear hK K
  exact H14 _ _ ⟨gr2_14,T.pick [0,1,3,9,11,13,21] Z,M⟩
 refine gi 4177791 ?_;intro K hK
 refine ow_bs (e:=77) [Zi 30,Zi 30,Zi 0,Zi 0,Zi 30,Zi 30,Zi 0,Zi 0] M T Z Z Z Z (.cons (T.e 2 Z) (.cons (T.e 0 Z) .nil)) (fun _=>by kernel_rfl) ?_;clear M T;intro gr2_21 wc ac M T
 refine Zso hK _ _ (MA.mk (fun _=>M.mask [false,true,true] Z) (M.mask [false,true,false] Z)) ?_;clear hK K
 refine g_m2 (i:=7) (j:=14) (by kernel_rfl) ?_ ?_
 ·refine gi 4177919 ?_;intro K hK
  refine ow_bs (e:=77) [Zi (-1),Zi 1,Zi 0,Zi 0,Zi 0,Zi 0,Zi 0,Zi 0] M T Z Z Z Z (.cons (T.e 11 Z) (.cons (T.e 9 Z) .nil)) (fun _=>by kernel_rfl) ?_;clear M T;intro gr2_7 wc ac M T
  refine Zso hK _ _ (MA.mk (fun _=>M.mask [false,false,true,true] Z) (M.mask [false,false,true,false] Z)) ?_;clear hK K
  exact H16 _ _ ⟨gr2_7,gr2_21,T.pick [0,1,6,8,14,22] Z,M⟩
 refine gi 4194175 ?_;intro K hK
 refine ow_bs (e:=77) [Zi 20,Zi 20,Zi 0,Zi 0,Zi 13,Zi 15,Zi 0,Zi 0] M T Z Z Z Z (.cons (T.e 7 Z) (.cons (T.e 5 Z) .nil)) (fun _=>by kernel_rfl) ?_;clear M T;intro gr2_14 wc ac M T
 refine Zso hK _ _ (MA.mk (fun _=>M.mask [false,false,true,true] Z) (M.mask [false,false,true,false] Z)) ?_;clear hK K
 exact H17 _ _ ⟨gr2_14,gr2_21,T.pick [0,1,10,12,14,22] Z,M⟩
theorem trembling_any  (w:World)  :
  Calls prog 7 #[] w fun e w'=>e=.returned (.bool true)∧Below w.heap.size w w':=by
 refine Zpx noEx func7 Z 82 Z [] Z Z (Mem.init w _) ?_
 intro ac wc T M
 refine Zsr ?_
 refine lq T (Zra Z evc) ?_;intro ac T
 replace T:=T.pick [] rfl
 refine Zln ?_
 refine Zsr ?_
 refine Zl2 ?_
 refine Zod T Z Z Z Z evf .nil func24 Z Z ?_
 refine Calls.mono (full5_any _) ?_
 clear T;rintro e wc ⟨Au1,cu1,Bu1,du1,Iu1,rfl,SAu1,SBu1,N⟩ ac T
 obtain ⟨b1u1,o1u1,SAu1⟩:=SAu1
 replace SAu1:=SAu1 w noEx
 obtain ⟨b2u1,o2u1,SBu1⟩:=SBu1
 replace SBu1:=SBu1 w noEx
 replace M:=(M.join N).swapI
 clear N
 replace M:Mem w noEx wc (Iu1):=M
 refine Zl2 ?_
 refine Zod T Z Z Z Z evf (.cons (T.e 0 Z) (.cons evc (.cons evc .nil))) func23 Z Z ?_
 refine Calls.mono (Beat_x _ _ _ _ _ (SAu1.rd M (List.Sublist.refl _)) (SBu1.rd M (List.Sublist.refl _))) ?_
 clear T;rintro e wc ⟨Au2,cu2,Iu2,rfl,Su2,N⟩ ac T
 obtain ⟨bu2,ou2,Su2⟩:=Su2
 replace Su2:=Su2 w noEx
 replace M:=(M.join N).swapI
 clear N
 replace M:Mem w noEx wc ((Iu1++Iu2)):=M
 refine Zg5 T (Zq (Zrm Z (T.e 0 Z))) Z (Ze 0 Z Z Z) Z (Ze 1 Z Z Z) Z (Za 1 Z Z) Z (Za 1 Z Z) Z ?_;intro ac T
 replace T:=T.pick [0,1] rfl
 refine Zln ?_
 refine Zsr ?_
 refine Zl2 ?_
 refine Zod T Z Z Z Z evf .nil func26 Z Z ?_
 refine Calls.mono (less5_any _) ?_
 clear T;rintro e wc ⟨Au3,cu3,Bu3,du3,Iu3,rfl,SAu3,SBu3,N⟩ ac T
 obtain ⟨b1u3,o1u3,SAu3⟩:=SAu3
 replace SAu3:=SAu3 w noEx
 obtain ⟨b2u3,o2u3,SBu3⟩:=SBu3
 replace SBu3:=SBu3 w noEx
 replace M:=(M.join N).swapI
 clear N
 replace M:Mem w noEx wc ((Iu1++Iu2++Iu3)):=M
 refine Zl2 ?_
 refine Zod T Z Z Z Z evf (.cons (T.e 0 Z) .nil) func25 Z Z ?_
 refine Calls.mono (Match_x _ _ _ _ _ (SAu3.rd M (Zsq _ _)) (SBu3.rd M (Zsq _ _))) ?_
 clear T;rintro e wc ⟨Au4,cu4,Iu4,rfl,Su4,N⟩ ac T
 obtain ⟨bu4,ou4,Su4⟩:=Su4
 replace Su4:=Su4 w noEx
 replace M:=(M.join N).swapI
 clear N
 replace M:Mem w noEx wc ((Iu1++Iu2++Iu3++Iu4)):=M
 refine Zg5 T (Zq (Zrm Z (T.e 0 Z))) Z (Ze 0 Z Z Z) Z (Ze 1 Z Z Z) Z (Za 1 Z Z) Z (Za 1 Z Z) Z ?_;intro ac T
 replace T:=T.pick [0,1,7,8] rfl
 refine Zln ?_
 refine Zsr ?_
 refine Zl2 ?_
 refine Zod T Z Z Z Z evf .nil func24 Z Z ?_
 refine Calls.mono (full5_any _) ?_
 clear T;rintro e wc ⟨Au5,cu5,Bu5,du5,Iu5,rfl,SAu5,SBu5,N⟩ ac T
 obtain ⟨b1u5,o1u5,SAu5⟩:=SAu5
 replace SAu5:=SAu5 w noEx
 obtain ⟨b2u5,o2u5,SBu5⟩:=SBu5
 replace SBu5:=SBu5 w noEx
 replace M:=(M.join N).swapI
 clear N
 replace M:Mem w noEx wc ((Iu1++Iu2++Iu3++Iu4++Iu5)):=M
 refine Zl2 ?_
 refine Zod T Z Z Z Z evf (.cons (T.e 0 Z) (.cons evc (.cons evc .nil))) func27 Z Z ?_
 refine Calls.mono (Strokes_x _ _ _ _ _ (SAu5.rd M (Zsq _ _)) (SBu5.rd M (Zsq _ _))) ?_
 clear T;rintro e wc ⟨rfl,hb⟩ ac T
 replace M:=M.call hb;clear hb
 refine Zg5 T (Zq (Zrm Z (T.e 0 Z))) Z (Ze 0 Z Z Z) Z (Ze 1 Z Z Z) Z (Za 1 Z Z) Z (Za 1 Z Z) Z ?_;intro ac T
 replace T:=T.pick [0,1,7,8,9,10] rfl
 refine Zln ?_
 refine Zsr ?_
 refine Zl2 ?_
 refine Zod T Z Z Z Z evf .nil func29 Z Z ?_
 refine Calls.mono (scale5_any _) ?_
 clear T;rintro e wc ⟨Au7,cu7,LLu7,Iu7,hRu7,rfl,Su7,Eu7,N⟩ ac T
 obtain ⟨bu7,ou7,Su7⟩:=Su7
 replace Su7:=Su7 w noEx
 replace M:=(M.join N).swapI
 clear N
 replace M:Mem w noEx wc ((Iu1++Iu2++Iu3++Iu4++Iu5++Iu7)):=M
 refine Zl2 ?_
 refine ow_bs (e:=3) [Zi 0,Zi 1] M T Z Z Z Z (.cons evc (.cons evc .nil)) (fun _=>by kernel_rfl) ?_;clear M T;intro g1 wc ac M T
 refine Zl2 ?_
 refine Zod T Z Z Z Z evf (.cons (T.e 1 Z) (.cons (T.e 0 Z) .nil)) func28 Z Z ?_
 refine Calls.mono (Tremolo_x _ _ LLu7 _ _ _ hRu7 (Su7.rd M (.cons _ (Zsq _ _))) (fun x hx=>by obtain ⟨b9,o9,h9⟩:=Eu7 x hx;exact (h9 w noEx).rd M (.cons _ (Zsq _ _))) (M.rdOwn (Zne (i:=0) rfl) rfl rfl)) ?_
 clear T;rintro e wc ⟨Au8,cu8,Iu8,rfl,Su8,N⟩ ac T
 obtain ⟨bu8,ou8,Su8⟩:=Su8
 replace Su8:=Su8 w noEx
 replace M:=(M.join N).swapI
 clear N
 replace M:Mem w noEx wc ((g1,.cells [Zi 0,Zi 1])::(Iu1++Iu2++Iu3++Iu4++Iu5++Iu7++Iu8)):=M
 refine Zg5 T (Zq (Zrm Z (T.e 0 Z))) Z (Ze 0 Z Z Z) Z (Ze 1 Z Z Z) Z (Za 1 Z Z) Z (Za 1 Z Z) Z ?_;intro ac T
 refine wpList_nil ?_
 replace T:=T.pick [0,1,8,9,10,11,12,13] rfl
 replace M:=M.mask [false] rfl
 replace M:Mem w noEx wc ((Iu1++Iu2++Iu3++Iu4++Iu5++Iu7++Iu8)):=M
 refine nm_then ?_
 refine Zsr ?_
 refine Zl2 ?_
 refine Zod T Z Z Z Z evf .nil func26 Z Z ?_
 refine Calls.mono (less5_any _) ?_
 clear T;rintro e wc ⟨Au9,cu9,Bu9,du9,Iu9,rfl,SAu9,SBu9,N⟩ ac T
 obtain ⟨b1u9,o1u9,SAu9⟩:=SAu9
 replace SAu9:=SAu9 w noEx
 obtain ⟨b2u9,o2u9,SBu9⟩:=SBu9
 replace SBu9:=SBu9 w noEx
 replace M:=(M.join N).swapI
 clear N
 replace M:Mem w noEx wc ((Iu1++Iu2++Iu3++Iu4++Iu5++Iu7++Iu8++Iu9)):=M
 refine Zl2 ?_
 refine Zod T Z Z Z Z evf (.cons (T.e 0 Z) .nil) func30 Z Z ?_
 refine Calls.mono (Short_x _ _ _ _ _ (SAu9.rd M (Zsq _ _)) (SBu9.rd M (Zsq _ _))) ?_
 clear T;rintro e wc ⟨Au10,cu10,Iu10,rfl,Su10,N⟩ ac T
 obtain ⟨bu10,ou10,Su10⟩:=Su10
 replace Su10:=Su10 w noEx
 replace M:=(M.join N).swapI
 clear N
 replace M:Mem w noEx wc ((Iu1++Iu2++Iu3++Iu4++Iu5++Iu7++Iu8++Iu9++Iu10)):=M
 refine Zg5 T (Zq (Zrm Z (T.e 0 Z))) Z (Ze 0 Z Z Z) Z (Ze 1 Z Z Z) Z (Za 1 Z Z) Z (Za 1 Z Z) Z ?_;intro ac T
 replace T:=T.pick [0,1,7,8,9,10,11,12,13,14] rfl
 refine Zln ?_
 refine Zsr ?_
 refine Zg8 (v2:=(.bool true)) (v5:=(.bool true)) T (Zq (Zrm Z (T.e 8 Z))) Z (fun _ T=>Zq (Zrq (rn_eql Z (T.e 0 Z) evc) (by simp))) Z (Zm 0 Z Z) Z (fun _ T=>Zw (Zwy Z Z (T.e 0 Z) Z) (Zrm Z (T.e 9 Z))) Z (fun _ T=>Zw (Zwy Z Z (T.e 1 Z) Z) (Zrq (rn_eql Z (T.e 0 Z) evc) (by simp))) Z (fun _ T=>Zq (Zr1 Z (T.e 2 Z) Z (T.e 0 Z))) Z (Zm 0 Z Z) Z (fun _ T=>Zw (Zwy Z Z (T.e 0 Z) Z) (Zrm Z (T.e 11 Z))) Z ?_;intro ac T
 refine Zg8 (v1:=(.bool true)) (v5:=(.bool true)) T (Zw (Zwy Z Z (T.e 1 Z) Z) (Zrq (rn_eql Z (T.e 0 Z) evc) (by simp))) Z (fun _ T=>Zq (Zr1 Z (T.e 2 Z) Z (T.e 0 Z))) Z (Zm 0 Z Z) Z (fun _ T=>Zw (Zwy Z Z (T.e 0 Z) Z) (Zrm Z (T.e 13 Z))) Z (fun _ T=>Zw (Zwy Z Z (T.e 1 Z) Z) (Zrq (rn_eql Z (T.e 0 Z) evc) (by simp))) Z (fun _ T=>Zq (Zr1 Z (T.e 2 Z) Z (T.e 0 Z))) Z (Zm 0 Z Z) Z (fun _ T=>Zw (Zwy Z Z (T.e 0 Z) Z) (Zrm Z (T.e 15 Z))) Z ?_;intro ac T
 refine Zg8 (v1:=(.bool true)) (v5:=(.bool true)) T (Zw (Zwy Z Z (T.e 1 Z) Z) (Zrq (rn_eql Z (T.e 0 Z) evc) (by simp))) Z (fun _ T=>Zq (Zr1 Z (T.e 2 Z) Z (T.e 0 Z))) Z (Zm 0 Z Z) Z (fun _ T=>Zw (Zwy Z Z (T.e 0 Z) Z) (Zrm Z (T.e 24 Z))) Z (fun _ T=>Zw (Zwy Z Z (T.e 1 Z) Z) (Zrq (rn_eql Z (T.e 0 Z) evc) (by simp))) Z (fun _ T=>Zq (Zr1 Z (T.e 2 Z) Z (T.e 0 Z))) Z (Zm 0 Z Z) Z (fun _ T=>Zw (Zwy Z Z (T.e 0 Z) Z) (Zrm Z (T.e 32 Z))) Z ?_;intro ac T
 refine l_w (Zwy Z Z (T.e 1 Z) Z) ?_;intro K hK
 refine Zod T Z Z Z Z evf (.cons evc (.cons evc .nil)) func32 Z Z ?_
 refine Calls.mono (to5_any 9 10 _) ?_
 clear T;rintro e wc ⟨rfl,hb⟩ ac T
 replace M:=M.call hb;clear hb
 refine Zso hK _ _ ?_;clear hK K
 refine l_w (Zwy Z Z (T.e 2 Z) Z) ?_;intro K hK
 refine Zod T Z Z Z Z evf (.cons evc (.cons evc .nil)) func32 Z Z ?_
 refine Calls.mono (to5_any 8 10 _) ?_
 clear T;rintro e wc ⟨rfl,hb⟩ ac T
 replace M:=M.call hb;clear hb
 refine Zso hK _ _ ?_;clear hK K
 refine l_w (Zwy Z Z (T.e 3 Z) Z) ?_;intro K hK
 refine Zod T Z Z Z Z evf (.cons evc (.cons evc .nil)) func32 Z Z ?_
 refine Calls.mono (to5_any 7 10 _) ?_
 clear T;rintro e wc ⟨rfl,hb⟩ ac T
 replace M:=M.call hb;clear hb
 refine Zso hK _ _ ?_;clear hK K
 refine l_w (Zwy Z Z (T.e 4 Z) Z) ?_;intro K hK
 refine ow_bs (e:=26) [Zi 9,Zi 10,Zi 8,Zi 10,Zi 7,Zi 10] M T Z Z Z Z (.cons (T.e 2 Z) (.cons (T.e 1 Z) (.cons (T.e 0 Z) .nil))) (fun _=>by kernel_rfl) ?_;clear M T;intro g2 wc ac M T
 refine Zso hK _ _ ?_;clear hK K
 refine l_w (Zwy Z Z (T.e 5 Z) Z) ?_;intro K hK
 refine Zod T Z Z Z Z evf (.cons (T.e 4 Z) (.cons (T.e 0 Z) .nil)) func31 Z Z ?_
 refine Calls.mono (sameRanges_same _ _ _ _ _ _ [(9,10),(8,10),(7,10)] _ (Su2.rd M (.cons _ (subL (subL (subL (subL (subL (subL (subL (Zsq _ _)))))))))) (M.rdOwn (Zne (i:=0) Z) Z Z) (by omega) (by omega)) ?_
 clear T;rintro e wc ⟨rfl,hb⟩ ac T
 replace M:=M.call hb;clear hb
 refine Zso hK _ _ ?_;clear hK K
 refine Zg3 T (Zq (Zr1 Z (T.e 6 Z) Z (T.e 0 Z))) Z (Zm 0 Z Z) Z (fun _ T=>Zw (Zwy Z Z (T.e 0 Z) Z) (Zrm Z (T.e 38 Z))) Z ?_;intro ac T
 refine l_w (Zwy Z Z (T.e 1 Z) Z) ?_;intro K hK
 refine ow_bs (e:=3) [Zi 0,Zi (-1)] M T Z Z Z Z (.cons evc (.cons evc .nil)) (fun _=>by kernel_rfl) ?_;clear M T;intro g3 wc ac M T
 refine Zso hK _ _ ?_;clear hK K
 refine l_w (Zwy Z Z (T.e 2 Z) Z) ?_;intro K hK
 refine Zod T Z Z Z Z evf (.cons (T.e 1 Z) (.cons (T.e 0 Z) .nil)) func33 Z Z ?_
 refine Calls.mono (sameInts_eq _ _ _ _ _ _ [0,-1] _ (Su4.rd M (.cons _ (.cons _ (subL (subL (subL (subL (subL (Zsq _ _))))))))) (M.rdOwn (Zne (i:=0) Z) Z Z) (by omega) (by omega)) ?_
 clear T;rintro e wc ⟨rfl,hb⟩ ac T
 replace M:=M.call hb;clear hb
 refine Zso hK _ _ ?_;clear hK K
 refine Zg3 T (Zq (Zr1 Z (T.e 3 Z) Z (T.e 0 Z))) Z (Zm 0 Z Z) Z (fun _ T=>Zw (Zwy Z Z (T.e 0 Z) Z) (Zrm Z (T.e 39 Z))) Z ?_;intro ac T
 refine l_w (Zwy Z Z (T.e 1 Z) Z) ?_;intro K hK
 refine ow_bs (e:=3) [Zi 1,Zi 3] M T Z Z Z Z (.cons evc (.cons evc .nil)) (fun _=>by kernel_rfl) ?_;clear M T;intro g4 wc ac M T
 refine Zso hK _ _ ?_;clear hK K
 refine l_w (Zwy Z Z (T.e 2 Z) Z) ?_;intro K hK
 refine Zod T Z Z Z Z evf (.cons (T.e 1 Z) (.cons (T.e 0 Z) .nil)) func33 Z Z ?_
 refine Calls.mono (sameInts_eq _ _ _ _ _ _ [1,3] _ (Su8.rd M (.cons _ (.cons _ (.cons _ (subL (subL (Zsq _ _))))))) (M.rdOwn (Zne (i:=0) Z) Z Z) (by omega) (by omega)) ?_
 clear T;rintro e wc ⟨rfl,hb⟩ ac T
 replace M:=M.call hb;clear hb
 refine Zso hK _ _ ?_;clear hK K
 refine Zg3 T (Zq (Zr1 Z (T.e 3 Z) Z (T.e 0 Z))) Z (Zm 0 Z Z) Z (fun _ T=>Zw (Zwy Z Z (T.e 0 Z) Z) (Zrm Z (T.e 42 Z))) Z ?_;intro ac T
 refine l_w (Zwy Z Z (T.e 1 Z) Z) ?_;intro K hK
 refine ow_bs (e:=3) [Zi 1] M T Z Z Z Z (.cons evc .nil) (fun _=>by kernel_rfl) ?_;clear M T;intro g5 wc ac M T
 refine Zso hK _ _ ?_;clear hK K
 refine l_w (Zwy Z Z (T.e 2 Z) Z) ?_;intro K hK
 refine Zod T Z Z Z Z evf (.cons (T.e 1 Z) (.cons (T.e 0 Z) .nil)) func33 Z Z ?_
 refine Calls.mono (sameInts_eq _ _ _ _ _ _ [1] _ (Su10.rd M (.cons _ (.cons _ (.cons _ (.cons _ (Zsq _ _)))))) (M.rdOwn (Zne (i:=0) Z) Z Z) (by omega) (by omega)) ?_
 clear T;rintro e wc ⟨rfl,hb⟩ ac T
 replace M:=M.call hb;clear hb
 refine Zso hK _ _ ?_;clear hK K
 refine Zg2 T (Zq (Zr1 Z (T.e 3 Z) Z (T.e 0 Z))) Z (Za 0 Z Z) Z ?_;intro ac T
 refine wpList_nil ?_
 replace T:=T.pick [0] rfl
 replace M:=M.mask [false,false,false,false] rfl
 replace M:Mem w noEx wc ((Iu1++Iu2++Iu3++Iu4++Iu5++Iu7++Iu8++Iu9++Iu10)):=M
 refine Znr ?_
 refine rt_1 T Z (T.e 0 Z) ?_
 exact ⟨rfl,M.below⟩
theorem rn_quo {P:Program} {op:Oper} {a:Act} {w:World} {ty ty':TypeId} {x y:Operand} {p q:Int} (ho:op.op=.binOp .quo ty x y ty') (hx:a.eval x=Zi p) (hy:a.eval y=Zi q) (hq:q≠0) (hb : -9223372036854775808≤p.tdiv q∧p.tdiv q≤9223372036854775807):Runs P op a (Zi (p.tdiv q)) w:=by
 refine rn_bin ho hx hy ?_
 rw [eqGuard_quo,binOp_quo]
 unfold Op.intDiv
 rw [if_neg (by simpa using hq)]
 show Result.ok (Value.int .i64 (IntKind.i64.wrap (p.tdiv q))) w=_
 rw [IntWalk.i64_in _ hb]
def mostD (notes:Int):Int:=min 5 ((5:Int).tdiv (max 1 notes))
theorem tdiv_bd {q:Int} (h:1≤q):0≤(5:Int).tdiv q∧(5:Int).tdiv q≤5∧(5:Int).tdiv q * q≤5:=by
 rw [Int.tdiv_eq_ediv_of_nonneg (by omega)]
 refine ⟨Int.ediv_nonneg (by omega) (by omega),?_,Int.ediv_mul_le 5 (by omega)⟩
 have h1:=Int.ediv_mul_le 5 (show q≠0 by omega)
 have h2:0≤5 / q:=Int.ediv_nonneg (by omega) (by omega)
 have h3:5 / q * 1≤5 / q * q:=Int.mul_le_mul_of_nonneg_left h h2
 omega
theorem mostD_bd (notes:Int):0≤mostD notes∧mostD notes≤5∧∀ k:Int,0≤k∧k≤notes→mostD notes * k≤5:=by
 have h:=tdiv_bd (q:=max 1 notes) (by omega)
 unfold mostD
 refine ⟨by omega,by omega,fun k hk=>?_⟩
 have e:min 5 ((5:Int).tdiv (max 1 notes))=(5:Int).tdiv (max 1 notes):=by omega
 rw [e]
 exact Int.le_trans (Int.mul_le_mul_of_nonneg_left (by omega) h.1) h.2.2
theorem step_bd {notes st k:Int} (hs : -mostD notes≤st∧st≤mostD notes) (hk:0≤k∧k≤notes) : -5≤st * k∧st * k≤5:=by
 have h:=(mostD_bd notes).2.2 k hk
 have h1:st * k≤mostD notes * k:=Int.mul_le_mul_of_nonneg_right hs.2 hk.1
 have h2 : -mostD notes * k≤st * k:=Int.mul_le_mul_of_nonneg_right hs.1 hk.1
 rw [Int.neg_mul] at h2
 omega
structure Lw.made (l:Lw) (notes:Int):Prop where
 first:5≤l.first∧l.first≤25
 step : -mostD notes≤l.step∧l.step≤mostD notes
 span:1≤l.span∧l.span≤8
 press:0≤l.press∧l.press≤3
def LawPost (bp:Nat) (notes:Int) (w:World) (e:Ending) (w':World):Prop:=∃ (l:Lw) (s':Int),l.made notes∧u64ok s'∧e=.returned (.agg #[Zi l.first,Zi l.step,Zi l.span,Zi l.press])∧w.grownBy w' (some bp)∧Bk w' bp #[.int .u64 s']
def SoundPost (bp:Nat) (w:World) (e:Ending) (w':World):Prop:=∃ (x:Snd) (s':Int),x.good∧u64ok s'∧e=.returned (.agg #[Zi x.t0,Zi x.t1,Zi x.s0,Zi x.s1])∧w.grownBy w' (some bp)∧Bk w' bp #[.int .u64 s']
theorem lawOf_any (s:Int) (bp:Nat) (notes:Int) (w:World) (hn:0≤notes∧notes≤1000) (hp:Bk w bp #[.int .u64 s]) (hs:u64ok s) :
   Calls prog 34 #[Zj bp,Zi notes] w (LawPost bp notes w):=by
 have hq:=tdiv_bd (q:=max 1 notes) (by omega)
 refine Zpx (fun b=>b=bp) func34 Z 27 Z [Zj bp,Zi notes] Z Z (Mem.initEx (p:=.cells [.int .u64 s]) hp) ?_
 intro ac wc T M
 refine Zsr ?_
 refine Zl2 ?_
 refine Zoa M T Z Z Z Z ?_;clear M T;intro g1 wc ac M T
 refine Zln ?_
 refine Zsr ?_
 refine lq T (Zrm Z (T.e 1 Z)) ?_;intro ac T
 refine Zl2 ?_
 refine Zod T Z Z Z Z evf (.cons (T.e 0 Z) (.cons evc (.cons evc .nil))) func36 Z Z ?_
 refine Calls.mono (within_pot _ bp 5 25 _ (by omega) (by omega) (by omega) (M.nth 1 Z) hs) ?_
 clear T;rintro e wc ⟨xu1,su1,hxu1,hsu1,rfl,hgr,hbk⟩ ac T
 replace M:=M.callC (cs':=[.int .u64 su1]) (.tail .head) hgr hbk
 clear hgr hbk
 refine lq T (Zrm Z (T.e 3 Z)) ?_;intro ac T
 refine Zl2 ?_
 refine Zod T Z Z Z Z evf (.cons (T.e 0 Z) (.cons evc (.cons evc .nil))) func36 Z Z ?_
 refine Calls.mono (within_pot _ bp 1 8 _ (by omega) (by omega) (by omega) (M.nth 1 Z) hsu1) ?_
 clear T;rintro e wc ⟨xu2,su2,hxu2,hsu2,rfl,hgr,hbk⟩ ac T
 replace M:=M.callC (cs':=[.int .u64 su2]) (.tail .head) hgr hbk
 clear hgr hbk
 refine lq T (Zrm Z (T.e 5 Z)) ?_;intro ac T
 refine Zl2 ?_
 refine Zod T Z Z Z Z evf (.cons (T.e 0 Z) (.cons evc .nil)) func35 Z Z ?_
 refine Calls.mono (upto_any _ bp 3 _ (by omega) (by omega) (M.nth 1 Z) hsu2) ?_
 clear T;rintro e wc ⟨xu3,su3,hxu3,hsu3,rfl,hgr,hbk⟩ ac T
 replace M:=M.callC (cs':=[.int .u64 su3]) (.tail .head) hgr hbk
 clear hgr hbk
 refine lq (v:=(.agg #[Zi xu1,Zi 0,Zi xu2,Zi xu3])) T (rn_build Z (.cons (T.e 4 Z) (.cons (T.e 2 Z) (.cons (T.e 0 Z) .nil))) (fun _=>by kernel_rfl)) ?_;intro ac T
 refine Zl2 ?_
 refine Zoa M T Z Z Z Z ?_;clear M T;intro g2 wc ac M T
 refine Zl2 ?_
 refine Zot M T Z Z (T.e 0 Z) (T.e 1 Z) Z .head Z Z ?_;clear M T;intro wc ac M T
 replace T:=T.pick [0,8,9,10] rfl
 refine Zln ?_
 refine wp_seq ?_
 refine Zsr ?_
 refine Zg5 T (Zq (Zrm Z (T.e 3 Z))) Z (fun _ T=>Zq (rn_max2 Z evc (T.e 0 Z))) Z (fun _ T=>Zq (rn_quo Z evc (T.e 0 Z) (by omega) (by omega))) Z (fun _ T=>Zq (rn_min2 Z evc (T.e 0 Z))) Z (Za 0 Z Z) Z ?_;intro ac T
 replace T:=T.pick [0,5,6,7] rfl
 refine Zln ?_
 refine Zsr ?_
 refine Zg2 T (Zq (Zrm Z (T.e 0 Z))) Z (fun _ T=>Zq (rn_gtr Z (T.e 0 Z) evc)) Z ?_;intro ac T
 replace T:=T.pick [0,2,3,4,5] rfl
 refine Zln ?_
 refine wp_if (T.e 0 Z) ?_ ?_
 ·intro h1
  refine wp_region_lit ?_
  refine Zg4 T (Zq (Zrm Z (T.e 4 Z))) Z (Zm 2 Z Z) Z (fun _ T=>Zq (rn_neg Z (T.e 0 Z) (by omega))) Z (Zm 4 Z Z) Z ?_;intro ac T
  refine Zl2 ?_
  refine Zod T Z Z Z Z evf (.cons (T.e 3 Z) (.cons (T.e 1 Z) (.cons (T.e 0 Z) .nil))) func36 Z Z ?_
  refine Calls.mono (within_pot _ bp (-(min 5 (Int.tdiv 5 (max 1 notes)))) (min 5 (Int.tdiv 5 (max 1 notes))) _ (by omega) (by omega) (by omega) (M.nth 2 Z) hsu3) ?_
  clear T;rintro e wc ⟨xu4,su4,hxu4,hsu4,rfl,hgr,hbk⟩ ac T
  replace M:=M.callC (cs':=[.int .u64 su4]) (.tail (.tail .head)) hgr hbk
  clear hgr hbk
  refine lq (v:=(.pointer (some ⟨g2,1,none⟩))) T (Zrg 1 Z (T.e 7 Z)) ?_;intro ac T
  refine Zl2 ?_
  refine Zot M T Z Z (T.e 0 Z) (T.e 1 Z) Z .head Z Z ?_;clear M T;intro wc ac M T
  replace T:=T.pick [8,9] rfl
  refine Zln ?_
  refine Zsr ?_
  refine lq T (Zrr (Mem.nth M 0 Z) Z (T.e 0 Z) Z) ?_;intro ac T
  refine Zl2 ?_
  refine Zot M T Z Z (T.e 2 Z) (T.e 0 Z) Z (.tail .head) Z Z ?_;clear M T;intro wc ac M T
  refine wpList_nil ?_
  replace T:=T.pick [2] rfl
  replace M:=M.mask [false,true,true] rfl
  refine Znr ?_
  refine rt_c M T Z (T.e 0 Z) (Zne (i:=0) Z) Z ?_
  exact ⟨⟨xu1,xu4,xu2,xu3⟩,_,⟨by (try dsimp only);omega,by (try dsimp only);unfold mostD;omega,by (try dsimp only);omega,by (try dsimp only);omega⟩,hsu4,Z,M.grown,M.nth 1 Z⟩
 intro h1
 refine Zsk ?_
 refine Zsr ?_
 refine lq T (Zrr (Mem.nth M 0 Z) Z (T.e 2 Z) Z) ?_;intro ac T
 refine Zl2 ?_
 refine Zot M T Z Z (T.e 4 Z) (T.e 0 Z) Z (.tail .head) Z Z ?_;clear M T;intro wc ac M T
 refine wpList_nil ?_
 replace T:=T.pick [4] rfl
 replace M:=M.mask [false,true,true] rfl
 refine Znr ?_
 refine rt_c M T Z (T.e 0 Z) (Zne (i:=0) Z) Z ?_
 exact ⟨⟨xu1,0,xu2,xu3⟩,_,⟨by (try dsimp only);omega,by (try dsimp only);unfold mostD;omega,by (try dsimp only);omega,by (try dsimp only);omega⟩,hsu3,Z,M.grown,M.nth 1 Z⟩
theorem soundOf_any (s:Int) (bp:Nat) (tone wide:Int) (w:World) (ht : -1000≤tone∧tone≤1000) (hw:0≤wide∧wide≤40) (hp:Bk w bp #[.int .u64 s]) (hs:u64ok s) :
  Calls prog 37 #[Zj bp,Zi tone,Zi wide] w (SoundPost bp w):=by
 refine Zpx (fun b=>b=bp) func37 Z 24 Z [Zj bp,Zi tone,Zi wide] Z Z (Mem.initEx (p:=.cells [.int .u64 s]) hp) ?_
 intro ac wc T M
 refine Zsr ?_
 refine Zl2 ?_
 refine Zoa M T Z Z Z Z ?_;clear M T;intro g1 wc ac M T
 refine Zln ?_
 refine Zsr ?_
 refine Zg3 T (Zq (Zrm Z (T.e 2 Z))) Z (fun _ T=>Zq (rn_min2 Z evc (T.e 0 Z))) Z (fun _ T=>Zq (rn_max2 Z evc (T.e 0 Z))) Z ?_;intro ac T
 refine l_q (v:=(Zi (max (-30) (min 30 tone)))) (T.pick [0,1,2,3,4,6] Z) Z Z Z Z (Zra Z (T.e 0 Z)) ?_;intro ac T
 replace T:=T.pick [0,4,5,6] rfl
 refine Zln ?_
 refine Zsr ?_
 refine Zg3 T (Zq (Zrm Z (T.e 2 Z))) Z (Zm 1 Z Z) Z (Zm 5 Z Z) Z ?_;intro ac T
 refine Zl2 ?_
 refine Zod T Z Z Z Z evf (.cons (T.e 2 Z) (.cons (T.e 1 Z) (.cons evc (.cons evc (.cons (T.e 0 Z) .nil))))) func64 Z Z ?_
 refine Calls.mono (near_pot _ bp (max (-30) (min 30 tone)) (-30) 30 wide _ (by omega) (by omega) (by omega) (by omega) (by omega) (by omega) (M.nth 1 Z) hs) ?_
 clear T;rintro e wc ⟨xu1,yu1,su1,hxu1,hsu1,rfl,hgr,hbk⟩ ac T
 replace M:=M.callC (cs':=[.int .u64 su1]) (.tail .head) hgr hbk
 clear hgr hbk
 refine Zg3 T (Zq (Zrm Z (T.e 6 Z))) Z (Zm 7 Z Z) Z (Zm 8 Z Z) Z ?_;intro ac T
 refine Zl2 ?_
 refine Zod T Z Z Z Z evf (.cons (T.e 0 Z) (.cons evc (.cons evc .nil))) func36 Z Z ?_
 refine Calls.mono (within_pot _ bp (-2) 2 _ (by omega) (by omega) (by omega) (M.nth 1 Z) hsu1) ?_
 clear T;rintro e wc ⟨xu2,su2,hxu2,hsu2,rfl,hgr,hbk⟩ ac T
 replace M:=M.callC (cs':=[.int .u64 su2]) (.tail .head) hgr hbk
 clear hgr hbk
 refine Zl2 ?_
 refine ow_bs (e:=3) [Zi 0,Zi 0,Zi xu2] M T Z Z Z Z (.cons evc (.cons evc (.cons (T.e 0 Z) .nil))) (fun _=>by kernel_rfl) ?_;clear M T;intro g2 wc ac M T
 refine Zl2 ?_
 refine Zod T Z Z Z Z evf (.cons (T.e 3 Z) (.cons (T.e 0 Z) .nil)) func97 Z Z ?_
 refine Calls.mono (of_any _ bp _ 3 3 [0,0,xu2] _ (M.rdOwn (Zne (i:=0) Z) Z Z) (M.nee 0 2 Z Z Z) (by decide) (by decide) (M.nth 2 Z) hsu2) ?_
 clear T;rintro e wc ⟨xu3,su3,hxu3,hsu3,rfl,hgr,hbk⟩ ac T
 replace M:=M.callC (cs':=[.int .u64 su3]) (.tail (.tail .head)) hgr hbk
 clear hgr hbk
 simp only [Zx7,Zx8,or_false] at hxu3
 refine Zg2 T (Zq (Zrm Z (T.e 13 Z))) Z (fun _ T=>Zq (rn_min2 Z (T.e 0 Z) evc)) Z ?_;intro ac T
 refine Zl2 ?_
 refine Zod T Z Z Z Z evf (.cons (T.e 7 Z) (.cons (T.e 2 Z) (.cons evc (.cons evc (.cons (T.e 0 Z) .nil))))) func64 Z Z ?_
 refine Calls.mono (near_pot _ bp xu3 (-3) 3 (min wide 1) _ (by omega) (by omega) (by omega) (by omega) (by omega) (by omega) (M.nth 2 Z) hsu3) ?_
 clear T;rintro e wc ⟨xu4,yu4,su4,hxu4,hsu4,rfl,hgr,hbk⟩ ac T
 replace M:=M.callC (cs':=[.int .u64 su4]) (.tail (.tail .head)) hgr hbk
 clear hgr hbk
 refine lq (v:=(.agg #[Zi xu1,Zi yu1,Zi xu4,Zi yu4])) T (rn_build Z (.cons (T.e 9 Z) (.cons (T.e 0 Z) .nil)) (fun _=>by kernel_rfl)) ?_;intro ac T
 refine Zl2 ?_
 refine Zot M T Z Z (T.e 15 Z) (T.e 0 Z) Z (.tail .head) Z Z ?_;clear M T;intro wc ac M T
 refine wpList_nil ?_
 replace T:=T.pick [15] rfl
 replace M:=M.mask [false,true,true] rfl
 refine Znr ?_
 refine rt_c M T Z (T.e 0 Z) (Zne (i:=0) Z) Z ?_
 exact ⟨⟨xu1,yu1,xu4,yu4⟩,_,⟨by (try dsimp only);omega,by (try dsimp only);omega⟩,hsu4,Z,M.grown,M.nth 1 Z⟩
theorem Mem.joinW {w0 w w':World} {ex:Nat→Prop} {L L' I:List (Nat×BA)} {g:Nat} {p p':BA} (M:Mem w0 ex w L) (hu:Upd L g p p' L') (N:Mem w (fun b=>b=g) w' (I++[(g,p')])):Mem w0 ex w' (I++L'):=by
 have hg:=M.blk _ hu.mem
 have hgl:=BA.lt hg.2
 have hnd:=N.nd
 rw [List.map_append] at hnd
 obtain ⟨n1,n2,n3⟩:=List.nodup_append.1 hnd
 have hI:∀ q∈I,w.heap.size≤q.1:=fun q hq=>by
  rcases (N.blk q (List.mem_append_left _ hq)).1 with h | h
  ·exact h
  ·exact absurd h (n3 q.1 (List.mem_map.2 ⟨q,hq,Z⟩) g (by simp))
 refine ⟨N.os.trans M.os,N.tape.trans M.tape,N.output.trans M.output,Nat.le_trans M.size N.size,fun b hb hx=>?_,fun q hq=>?_,?_⟩
 ·refine (N.block b (Nat.lt_of_lt_of_le hb M.size) fun e=>?_).trans (M.block b hb hx)
  have e:b=g:=e
  subst e
  rcases hg.1 with h | h
  ·have h:w0.heap.size≤b:=h
   omega
  ·exact hx h
 ·rcases List.mem_append.1 hq with hq | hq
  ·exact ⟨.inl (Nat.le_trans M.size (hI q hq)),(N.blk q (List.mem_append_left _ hq)).2⟩
  ·rcases hu.all M.nd q hq with rfl | ⟨h1,h2⟩
   ·exact ⟨hg.1,(N.blk _ (List.mem_append_right _ Zz2)).2⟩
   ·have h3:=M.blk q h1
    exact ⟨h3.1,BA.same h3.2 N.size (N.block _ (BA.lt h3.2) h2)⟩
 ·rw [List.map_append,hu.keys]
  refine List.nodup_append.2 ⟨n1,M.nd,fun a ha b hb e=>?_⟩
  obtain ⟨q,hq,rfl⟩:=List.mem_map.1 ha
  obtain ⟨r,hr,rfl⟩:=List.mem_map.1 hb
  have h1:=hI q hq
  have h2:=BA.lt (M.blk r hr).2
  omega
structure Bx.made (b:Bx) (lo hi:Int):Prop where
 law:b.law.made 3
 note:0≤b.note∧b.note≤3
 nlo:(b.lows.length:Int)≤lo
 nhi:(b.highs.length:Int)≤hi
 good:b.good
theorem boxMade {b:Bx} {j:Jb} {lo hi:Int} (hl:b.law.made 3) (hn:0≤b.note∧b.note≤3) (hlo:(b.lows.length:Int)≤lo∧b.lows.length≤4) (hhi:(b.highs.length:Int)≤hi∧b.highs.length≤5) (gl:∀ x∈b.lows,x.good) (gh:∀ x∈b.highs,x.good) (hme:0≤b.me∧b.me≤1)
  (hj:j.made 0 1) (e:b.t0=j.t0∧b.t1=j.t1∧b.r0=j.r0∧b.r1=j.r1∧b.u0=j.u0∧b.u1=j.u1∧b.d0=j.d0∧b.d1=j.d1∧b.a0=j.a0∧b.a1=j.a1∧b.b0=j.b0∧b.b1=j.b1∧b.le=j.le):b.made lo hi:=by
 have gj:=hj.good
 have hs:=step_bd (notes:=3) hl.step hn
 have h1:=hl.first
 have h2:=hl.step
 have h3:=hl.span
 have h4:=hl.press
 have h5:=mostD_bd 3
 dsimp only at h1 h2 h3 h4 hs
 refine ⟨hl,hn,hlo.1,hhi.1,⟨⟨by dsimp only;omega,by dsimp only;omega,by dsimp only;omega,by dsimp only;omega⟩,by omega,by unfold Bx.due;omega,⟨hlo.2,gl⟩,⟨hhi.2,gh⟩,check_of_good ?_⟩⟩
 obtain ⟨e1,e2,e3,e4,e5,e6,e7,e8,e9,e10,e11,e12,e13⟩:=e
 have k1:=gj.t
 have k2:=gj.r
 have k3:=gj.u
 have k4:=gj.d
 have k5:=gj.a
 have k6:=gj.b
 have k7:=gj.le
 exact ⟨by show (-60:Int)≤0∧(0:Int)≤0∧(0:Int)≤60;omega,by show 0≤b.t0∧b.t0≤b.t1∧b.t1≤100;omega,by show 0≤b.r0∧b.r0≤b.r1∧b.r1≤100;omega,by show 0≤b.u0∧b.u0≤b.u1∧b.u1≤12;omega,by show 0≤b.d0∧b.d0≤b.d1∧b.d1≤12;omega,by show 0≤b.a0∧b.a0≤b.a1∧b.a1≤12;omega,by show 0≤b.b0∧b.b0≤b.b1∧b.b1≤12;omega,by show 0≤b.le∧b.le≤100;omega,by show ([]:List (Int×Int)).length≤4;simp,fun p hp=>(by cases hp),by show 0≤b.span∧b.span≤60;omega,by show 0≤b.me∧b.me≤6;omega⟩
def BoxOfPost (bp:Nat) (lo hi:Int) (w:World) (e:Ending) (w':World):Prop :=
 ∃ (b:Bx) (A:Option Addr) (c:Nat) (B:Option Addr) (d:Nat) (s:Int) (I:List (Nat×BA)),e=.returned (bxV b A c B d)∧b.made lo hi∧u64ok s∧(∃ b1 o1,∀ (w:World) (ex:Nat→Prop),Sp w ex I A b.lows.length 4 b1 o1 (sc b.lows))∧(∃ b1 o1,∀ (w:World) (ex:Nat→Prop),Sp w ex I B b.highs.length 4 b1 o1 (sc b.highs))∧Mem w (fun b=>b=bp) w' (I++[(bp,.cells [.int .u64 s])])
theorem boxOf_any (s:Int) (bp:Nat) (nlo nhi wide:Int) (w:World) (hlo:0≤nlo∧nlo≤40) (hhi:0≤nhi∧nhi≤40) (hw:0≤wide∧wide≤40) (hp:Bk w bp #[.int .u64 s]) (hs:u64ok s) :
   Calls prog 8 #[Zj bp,Zi nlo,Zi nhi,Zi wide] w (BoxOfPost bp nlo nhi w):=by
 refine Zpx (fun b=>b=bp) func8 Z 115 Z [Zj bp,Zi nlo,Zi nhi,Zi wide] Z Z (Mem.initEx (p:=.cells [.int .u64 s]) hp) ?_
 intro ac wc T M
 refine Zsr ?_
 refine Zl2 ?_
 refine Zoa M T Z Z Z Z ?_;clear M T;intro g1 wc ac M T
 refine Zln ?_
 refine Zsr ?_
 refine lq T (Zrm Z (T.e 1 Z)) ?_;intro ac T
 refine Zl2 ?_
 refine Zod T Z Z Z Z evf (.cons (T.e 0 Z) (.cons evc .nil)) func34 Z Z ?_
 refine Calls.mono (lawOf_any _ bp 3 _ (by omega) (M.nth 1 Z) hs) ?_
 clear T;rintro e wc ⟨lu1,su1,hlu1,hsu1,rfl,hgr,hbk⟩ ac T
 replace M:=M.callC (cs':=[.int .u64 su1]) (.tail .head) hgr hbk
 clear hgr hbk
 have hlfu1:=hlu1.first
 have hlsu1:=hlu1.step
 have hlpu1:=hlu1.span
 have hlqu1:=hlu1.press
 have hmdu1:=mostD_bd 3
 refine lq T (Zrm Z (T.e 3 Z)) ?_;intro ac T
 refine Zl2 ?_
 refine Zod T Z Z Z Z evf (.cons (T.e 0 Z) (.cons evc .nil)) func35 Z Z ?_
 refine Calls.mono (upto_any _ bp 3 _ (by omega) (by omega) (M.nth 1 Z) hsu1) ?_
 clear T;rintro e wc ⟨xu2,su2,hxu2,hsu2,rfl,hgr,hbk⟩ ac T
 replace M:=M.callC (cs':=[.int .u64 su2]) (.tail .head) hgr hbk
 clear hgr hbk
 have hst:=step_bd (notes:=3) (k:=xu2) hlu1.step (by omega)
 refine lq T (Zrm Z (T.e 5 Z)) ?_;intro ac T
 refine Zl2 ?_
 refine Zod T Z Z Z Z evf (.cons (T.e 0 Z) (.cons evc .nil)) func35 Z Z ?_
 refine Calls.mono (upto_any _ bp 1 _ (by omega) (by omega) (M.nth 1 Z) hsu2) ?_
 clear T;rintro e wc ⟨xu3,su3,hxu3,hsu3,rfl,hgr,hbk⟩ ac T
 replace M:=M.callC (cs':=[.int .u64 su3]) (.tail .head) hgr hbk
 clear hgr hbk
 refine lq (v:=(.agg #[Zi lu1.first,Zi lu1.step,Zi lu1.span,Zi lu1.press,Zi xu2,.slice none 0 0,.slice none 0 0,Zi 0,Zi 0,Zi 0,Zi 0,Zi 0,Zi 0,Zi 0,Zi 0,Zi 0,Zi 0,Zi 0,Zi 0,Zi 0,Zi xu3])) T (rn_build Z (.cons (T.e 4 Z) (.cons (T.e 2 Z) (.cons (T.e 0 Z) .nil))) (fun _=>by kernel_rfl)) ?_;intro ac T
 refine Zl2 ?_
 refine Zoa M T Z Z Z Z ?_;clear M T;intro g2 wc ac M T
 refine Zl2 ?_
 refine Zot M T Z Z (T.e 0 Z) (T.e 1 Z) Z .head Z Z ?_;clear M T;intro wc ac M T
 replace T:=T.pick [0,8,9,10,11,12] rfl
 refine Zln ?_
 refine Zsr ?_
 refine Zg8 (v1:=(Zj g2)) (v2:=(Zj g2)) (v4:=(Zj g2)) (v5:=(.pointer (some ⟨g2,1,none⟩))) (v7:=(.pointer (some ⟨g2,4,none⟩))) T (Zq (Zrg 0 Z (T.e 0 Z))) Z (Zf 0 0 Z Z) Z (Zo M 0 0 Z Z Z Z) Z (Zf 0 3 Z Z) Z (Zf 1 0 Z Z) Z (Zo M 0 0 Z Z Z Z) Z (Zf 4 6 Z Z) Z (Zo M 0 0 Z Z Z Z) Z ?_;intro ac T
 refine Zg3 T (Zq (rn_mul Z (T.e 2 Z) (T.e 0 Z) (by omega))) Z (fun _ T=>Zq (rn_add Z (T.e 6 Z) (T.e 0 Z) (by omega))) Z (Za 0 Z Z) Z ?_;intro ac T
 replace T:=T.pick [0,11,12,13,14,15,16] rfl
 refine Zln ?_
 refine Zsr ?_
 refine lq T (Zra Z evc) ?_;intro ac T
 refine Zln ?_
 refine wp_seq ?_
 refine Zsr ?_
 refine Zg3 T (Zq (Zrm Z (T.e 4 Z))) Z (Zm 6 Z Z) Z (fun _ T=>Zq (rn_min2 Z (T.e 0 Z) evc)) Z ?_;intro ac T
 refine Zl2 ?_
 refine Zod T Z Z Z Z evf (.cons (T.e 2 Z) (.cons (T.e 0 Z) .nil)) func35 Z Z ?_
 refine Calls.mono (upto_any _ bp (min nlo 4) _ (by omega) (by omega) (M.nth 2 Z) hsu3) ?_
 clear T;rintro e wc ⟨xu4,su4,hxu4,hsu4,rfl,hgr,hbk⟩ ac T
 replace M:=M.callC (cs':=[.int .u64 su4]) (.tail (.tail .head)) hgr hbk
 clear hgr hbk
 refine lq T (Zra Z (T.e 0 Z)) ?_;intro ac T
 replace T:=T.pick [0,5,6,7,8,9,11,12] rfl
 refine Zln ?_
 refine wp_block ?_
 refine wp_loop_n (fun mz ac wc=>∃ (i:Int) (ol:List Snd) (A3:Option Addr) (c3:Nat) (tn:List Int) (A4:Option Addr) (c4:Nat) (s:Int) (Ii Io:List (Nat×BA)),mz=i.toNat∧(0≤i)∧((ol.length:Int)+i=xu4)∧(tn.length=ol.length)∧(∀ z∈ol,z.good)∧(∀ z∈tn,-6≤z∧z≤6)∧(u64ok s)∧(Sl 77 4 (.slice A3 ol.length c3) ol.length (sc ol) Io)∧(Sl 3 1 (.slice A4 tn.length c4) tn.length (ic tn) Ii)∧Tm ac 115 [(0,Zj bp),(2,Zi nhi),(3,Zi wide),(8,Zj g1),(9,Zj g2),(10,Zi (lu1.first+(lu1.step * xu2))),(11,.slice A4 tn.length c4),(12,Zi i)]∧Mem w (fun b=>b=bp) wc ((g2,.cells [Zi lu1.first,Zi lu1.step,Zi lu1.span,Zi lu1.press,Zi xu2,.slice A3 ol.length c3,.slice none 0 0,Zi 0,Zi 0,Zi 0,Zi 0,Zi 0,Zi 0,Zi 0,Zi 0,Zi 0,Zi 0,Zi 0,Zi 0,Zi 0,Zi xu3])::(g1,.cells Zb0)::(bp,.cells [.int .u64 s])::(Ii++Io))) ?_ ?_
 ·exact ⟨_,_,[],none,0,[],none,0,_,[],[],Z,(by omega),(by simp),Z,(fun z hz=>by cases hz),(fun z hz=>by cases hz),hsu4,(Sl.nil _ _),(Sl.nil _ _),T.pick [5,6,7,4,3,2,1,0] Z,M.mask [true,true,true] Z⟩
 clear T M
 rintro mz ac wc ⟨i,ol,A3,c3,tn,A4,c4,s,Ii,Io,hmm1,hi,hol,htl,hgo,htn,hs,hsl,hsm,T,M⟩
 refine wp_seq ?_
 refine Zsr ?_
 refine Zg2 T (Zq (Zrm Z (T.e 7 Z))) Z (fun _ T=>Zq (rn_gtr Z (T.e 0 Z) evc)) Z ?_;intro ac T
 replace T:=T.pick [0,2,3,4,5,6,7,8,9] rfl
 refine Zln ?_
 refine wp_if (T.e 0 Z) ?_ ?_
 ·intro h1
  refine Zsk ?_
  refine wp_seq ?_
  refine wp_block ?_
  refine Zsr ?_
  refine lq T (Zrm Z (T.e 1 Z)) ?_;intro ac T
  refine Zl2 ?_
  refine Zod T Z Z Z Z evf (.cons (T.e 0 Z) (.cons evc (.cons evc .nil))) func36 Z Z ?_
  refine Calls.mono (within_pot _ bp (-6) 6 _ (by omega) (by omega) (by omega) (M.nth 2 Z) hs) ?_
  clear T;rintro e wc ⟨xu5,su5,hxu5,hsu5,rfl,hgr,hbk⟩ ac T
  replace M:=M.callC (cs':=[.int .u64 su5]) (.tail (.tail .head)) hgr hbk
  clear hgr hbk
  refine lq T (Zra Z (T.e 0 Z)) ?_;intro ac T
  replace T:=T.pick [0,4,5,6,7,8,9,10,11] rfl
  refine Zln ?_
  refine Zgs M (M.perm [1] Z Z) 15 (by kernel_rfl) Z (by kernel_rfl) ?_
  clear M;intro wc M
  refine g_addG 5 (M.perm [0,1,2] Z Z) ?_
  refine g_addG 13 (M.perm [0,1] Z Z) ?_
  refine Zgq (v:=(.pointer (some ⟨g2,5,none⟩))) T 0 1 Z (fun _=>(Zrg 5 Z (T.e 5 Z))) ?_;intro ac T
  refine gq T 1 3 Z (fun B w' hD hl hS=>(Zro (Mem.nth (show Mem w (fun b=>b=bp) w' _ from ((MA.lft hS) (hD.wait (i:=1) (m:=13) (by kernel_rfl) hl))) 0 Z) Z (T.e 0 Z) Z)) ?_;intro ac T
  refine Zgq T 2 7 Z (fun _=>(Zrm Z (T.e 3 Z))) ?_;intro ac T
  refine Zgq T 3 15 Z (fun _=>(Zrm Z (T.e 3 Z))) ?_;intro ac T
  refine Zgq T 4 31 Z (fun _=>(Zrm Z (T.e 7 Z))) ?_;intro ac T
  refine Zgq T 8 287 Z (fun _=>(Zrm Z (T.e 12 Z))) ?_;intro ac T
  refine Zgq T 9 799 Z (fun _=>(Zrm Z (T.e 6 Z))) ?_;intro ac T
  refine g_m2 (i:=5) (j:=10) (by kernel_rfl) ?_ ?_
  ·refine gi 831 ?_;intro K hK
   refine Zod T Z Z Z Z evf (.cons (T.e 4 Z) (.cons (T.e 3 Z) (.cons (T.e 2 Z) .nil))) func37 Z Z ?_
   refine Calls.mono (soundOf_any _ bp xu5 wide _ (by omega) (by omega) (M.nth 2 Z) hsu5) ?_
   clear T;rintro e wc ⟨xur8_5,sur8_5,hxur8_5,hsur8_5,rfl,hgr,hbk⟩ ac T
   replace M:=M.callC (cs':=[.int .u64 sur8_5]) (.tail (.tail .head)) hgr hbk
   clear hgr hbk
   refine Zso hK _ _ (MA.mk (fun _=>M.perm [0,1] Z Z) (MA.mk (fun h=>(no_of (by kernel_rfl) h).elim) (M.perm [1] Z Z))) ?_;clear hK K
   refine g_m2 (i:=6) (j:=10) (by kernel_rfl) ?_ ?_
   ·refine gi 895 ?_;intro K hK
    refine ow_bs (e:=77) [Zi xur8_5.t0,Zi xur8_5.t1,Zi xur8_5.s0,Zi xur8_5.s1] M T Z Z Z Z (.cons (T.e 0 Z) .nil) (fun _=>by kernel_rfl) ?_;clear M T;intro gr8_6 wc ac M T
    refine Zso hK _ _ (MA.mk (fun _=>M.perm [1,2] Z Z) (MA.mk (fun h=>(no_of (by kernel_rfl) h).elim) (M.perm [2] Z Z))) ?_;clear hK K
    refine g_m2 (i:=7) (j:=10) (by kernel_rfl) ?_ ?_
    ·refine gi 1023 ?_;intro K hK
     refine ow_app (((gr8_6,.cells [Zi xur8_5.t0,Zi xur8_5.t1,Zi xur8_5.s0,Zi xur8_5.s1])::(g2,.cells [Zi lu1.first,Zi lu1.step,Zi lu1.span,Zi lu1.press,Zi xu2,.slice A3 ol.length c3,.slice none 0 0,Zi 0,Zi 0,Zi 0,Zi 0,Zi 0,Zi 0,Zi 0,Zi 0,Zi 0,Zi 0,Zi 0,Zi 0,Zi 0,Zi xu3])::(g1,.cells Zb0)::(bp,.cells [.int .u64 sur8_5])::Ii)) Tryz.info77 hsl M (by first | rfl | simp) T Z Z Z Z underlying24 Z Z Z (by omega) (T.e 7 Z) (T.e 0 Z) (Zne (i:=0) Z) Z Z ?_;clear M T;intro ga1 cga1 wc ac M T
     refine Zso hK _ _ (MA.mk (fun _=>M.perm [2,3] Z Z) (MA.mk (fun h=>(no_of (by kernel_rfl) h).elim) (M.perm [3] Z Z))) ?_;clear hK K
     refine Zgq (v:=(.pointer (some ⟨g2,5,none⟩))) T 12 5119 Z (fun _=>(Zrg 5 Z (T.e 15 Z))) ?_;intro ac T
     refine gw 10 6143 ?_;intro K hK
     refine ow_bs (e:=3) [Zi xu5] M T Z Z Z Z (.cons (T.e 4 Z) .nil) (fun _=>by kernel_rfl) ?_;clear M T;intro gr8_10 wc ac M T
     refine Zso hK _ _ (MA.mk (fun _=>M.perm [3,4] Z Z) (MA.mk (fun h=>(no_of (by kernel_rfl) h).elim) (M.perm [4] Z Z))) ?_;clear hK K
     refine gw 11 8191 ?_;intro K hK
     refine ow_app ([(gr8_10,.cells [Zi xu5]),(ga1,.row 77 4 (ol.length+1) ((sc ol)++[Zi xur8_5.t0,Zi xur8_5.t1,Zi xur8_5.s0,Zi xur8_5.s1]) cga1),(gr8_6,.cells [Zi xur8_5.t0,Zi xur8_5.t1,Zi xur8_5.s0,Zi xur8_5.s1]),(g2,.cells [Zi lu1.first,Zi lu1.step,Zi lu1.span,Zi lu1.press,Zi xu2,.slice A3 ol.length c3,.slice none 0 0,Zi 0,Zi 0,Zi 0,Zi 0,Zi 0,Zi 0,Zi 0,Zi 0,Zi 0,Zi 0,Zi 0,Zi 0,Zi 0,Zi xu3]),(g1,.cells Zb0),(bp,.cells [.int .u64 sur8_5])]) Tryz.info3 hsm M (by first | rfl | simp) T Z Z Z Z underlying31 Z Z Z (by omega) (T.e 6 Z) (T.e 0 Z) (Zne (i:=0) Z) Z Z ?_;clear M T;intro ga2 cga2 wc ac M T
     refine Zso hK _ _ (MA.mk (fun _=>M.mask [false,false,false,false,true,true,false] Z) (MA.mk (fun h=>(no_of (by kernel_rfl) h).elim) (M.mask [false,false,false,false,false,true,false] Z))) ?_;clear hK K
     refine gw 13 16383 ?_;intro K hK
     refine Zos M T Z Z (T.e 2 Z) (T.e 3 Z) Z (.tail (.tail (.tail (.tail .head)))) Z (by simp) Z (by kernel_rfl) ?_;clear M T;intro wc ac M T
     refine Zso hK _ _ (MA.mk (fun h=>(no_of (by kernel_rfl) h).elim) (MA.mk (fun h=>(no_of (by kernel_rfl) h).elim) (M.mask [false,false,false,false,false,true,false] Z))) ?_;clear hK K
     refine g_q (v:=(.slice (some ⟨ga2,0,none⟩) (tn.length+1) cga2)) (T:=T.pick [0,1,2,3,4,5,6,7,8,9,10,11,12,13,14,15,16,17,18,19,21] Z) (i:=14) Z (by kernel_rfl) (by kernel_rfl:(Zpb 15 16383).setIfInBounds 14 true=Zpb 15 32767) (si_and (si_G Z) (si_and (si_G Z) si_U)) (fun _ _ _ h=>h) Z Z Z Z (fun _ _ _ _ _=>(Zra Z (T.e 0 Z))) ?_;intro ac T
     refine Zgd (by kernel_rfl) ?_
     replace T:=T.pick [0,15,16,17,18,19,20,21] rfl
     replace M:=M.mask [true,false,true,false,true,true,true] rfl
     refine Znb ?_
     refine nm_then ?_
     refine wp_region_lit ?_
     refine Zg2 T (Zq (Zrm Z (T.e 7 Z))) Z (fun _ T=>Zq (rn_sub Z (T.e 0 Z) evc (by omega))) Z ?_;intro ac T
     refine l_q (v:=(Zi (i - 1))) (T.pick [0,1,2,3,4,5,6,7,8] Z) Z Z Z Z (Zra Z (T.e 0 Z)) ?_;intro ac T
     replace T:=T.pick [0,3,4,5,6,7,8,9] rfl
     refine Zln ?_
     have e9a:ol.length+1=(ol++[xur8_5]).length:=by simp
     have e8a:((sc ol)++[Zi xur8_5.t0,Zi xur8_5.t1,Zi xur8_5.s0,Zi xur8_5.s1])=sc (ol++[xur8_5]):=by rw [← sc_snoc]
     rw [e9a,e8a] at M
     (try rw [e9a] at T)
     have e9b:tn.length+1=(tn++[xu5]).length:=by simp
     have e8b:((ic tn)++[Zi xu5])=ic (tn++[xu5]):=by rw [← ic_snoc]
     rw [e9b,e8b] at M
     (try rw [e9b] at T)
     exact ⟨_,by omega,(i - 1),(ol++[xur8_5]),_,_,(tn++[xu5]),_,_,sur8_5,[(ga2,.row 3 1 (tn++[xu5]).length (ic (tn++[xu5])) cga2)],[(ga1,.row 77 4 (ol++[xur8_5]).length (sc (ol++[xur8_5])) cga1)],rfl,(by omega),(by simp only [Zx3,Zx1,Zx2];omega),(by simp only [Zx3,Zx1,Zx2];omega),(fun z hz=>by rcases List.mem_append.1 hz with h9 | h9;exact hgo z h9;simp only [Zx7,Zx8,or_false] at h9;subst h9;exact hxur8_5),(fun z hz=>by rcases List.mem_append.1 hz with h9 | h9;exact htn z h9;simp only [Zx7,Zx8,or_false] at h9;subst h9;omega),hsur8_5,(Sl.row _ _ _ _ _ _),(Sl.row _ _ _ _ _ _),T.pick [2,3,4,5,6,7,1,0] rfl,M.perm [2,3,4,0,1] rfl rfl⟩
    refine gi 1919 ?_;intro K hK
    refine ow_bs (e:=3) [Zi xu5] M T Z Z Z Z (.cons (T.e 2 Z) .nil) (fun _=>by kernel_rfl) ?_;clear M T;intro gr8_10 wc ac M T
    refine Zso hK _ _ (MA.mk (fun _=>M.perm [2,3] Z Z) (MA.mk (fun h=>(no_of (by kernel_rfl) h).elim) (M.perm [3] Z Z))) ?_;clear hK K
    refine gw 7 2047 ?_;intro K hK
    refine ow_app (((gr8_10,.cells [Zi xu5])::(gr8_6,.cells [Zi xur8_5.t0,Zi xur8_5.t1,Zi xur8_5.s0,Zi xur8_5.s1])::(g2,.cells [Zi lu1.first,Zi lu1.step,Zi lu1.span,Zi lu1.press,Zi xu2,.slice A3 ol.length c3,.slice none 0 0,Zi 0,Zi 0,Zi 0,Zi 0,Zi 0,Zi 0,Zi 0,Zi 0,Zi 0,Zi 0,Zi 0,Zi 0,Zi 0,Zi xu3])::(g1,.cells Zb0)::(bp,.cells [.int .u64 sur8_5])::Ii)) Tryz.info77 hsl M (by first | rfl | simp) T Z Z Z Z underlying24 Z Z Z (by omega) (T.e 8 Z) (T.e 1 Z) (Zne (i:=1) Z) Z Z ?_;clear M T;intro ga3 cga3 wc ac M T
    refine Zso hK _ _ (MA.mk (fun _=>M.perm [3,4] Z Z) (MA.mk (fun h=>(no_of (by kernel_rfl) h).elim) (M.perm [4] Z Z))) ?_;clear hK K
    refine Zgq (v:=(.pointer (some ⟨g2,5,none⟩))) T 12 6143 Z (fun _=>(Zrg 5 Z (T.e 16 Z))) ?_;intro ac T
    refine gw 11 8191 ?_;intro K hK
    refine ow_app ([(ga3,.row 77 4 (ol.length+1) ((sc ol)++[Zi xur8_5.t0,Zi xur8_5.t1,Zi xur8_5.s0,Zi xur8_5.s1]) cga3),(gr8_10,.cells [Zi xu5]),(gr8_6,.cells [Zi xur8_5.t0,Zi xur8_5.t1,Zi xur8_5.s0,Zi xur8_5.s1]),(g2,.cells [Zi lu1.first,Zi lu1.step,Zi lu1.span,Zi lu1.press,Zi xu2,.slice A3 ol.length c3,.slice none 0 0,Zi 0,Zi 0,Zi 0,Zi 0,Zi 0,Zi 0,Zi 0,Zi 0,Zi 0,Zi 0,Zi 0,Zi 0,Zi 0,Zi xu3]),(g1,.cells Zb0),(bp,.cells [.int .u64 sur8_5])]) Tryz.info3 hsm M (by first | rfl | simp) T Z Z Z Z underlying31 Z Z Z (by omega) (T.e 6 Z) (T.e 2 Z) (Zne (i:=1) Z) Z Z ?_;clear M T;intro ga4 cga4 wc ac M T
    refine Zso hK _ _ (MA.mk (fun _=>M.mask [false,false,false,false,true,true,false] Z) (MA.mk (fun h=>(no_of (by kernel_rfl) h).elim) (M.mask [false,false,false,false,false,true,false] Z))) ?_;clear hK K
    refine gw 13 16383 ?_;intro K hK
    refine Zos M T Z Z (T.e 1 Z) (T.e 2 Z) Z (.tail (.tail (.tail (.tail .head)))) Z (by simp) Z (by kernel_rfl) ?_;clear M T;intro wc ac M T
    refine Zso hK _ _ (MA.mk (fun h=>(no_of (by kernel_rfl) h).elim) (MA.mk (fun h=>(no_of (by kernel_rfl) h).elim) (M.mask [false,false,false,false,false,true,false] Z))) ?_;clear hK K
    refine g_q (v:=(.slice (some ⟨ga4,0,none⟩) (tn.length+1) cga4)) (T:=T.pick [0,1,2,3,4,5,6,7,8,9,10,11,12,13,14,15,16,17,18,19,21] Z) (i:=14) Z (by kernel_rfl) (by kernel_rfl:(Zpb 15 16383).setIfInBounds 14 true=Zpb 15 32767) (si_and (si_G Z) (si_and (si_G Z) si_U)) (fun _ _ _ h=>h) Z Z Z Z (fun _ _ _ _ _=>(Zra Z (T.e 0 Z))) ?_;intro ac T
    refine Zgd (by kernel_rfl) ?_
    replace T:=T.pick [0,15,16,17,18,19,20,21] rfl
    replace M:=M.mask [true,true,false,false,true,true,true] rfl
    refine Znb ?_
    refine nm_then ?_
    refine wp_region_lit ?_
    refine Zg2 T (Zq (Zrm Z (T.e 7 Z))) Z (fun _ T=>Zq (rn_sub Z (T.e 0 Z) evc (by omega))) Z ?_;intro ac T
    refine l_q (v:=(Zi (i - 1))) (T.pick [0,1,2,3,4,5,6,7,8] Z) Z Z Z Z (Zra Z (T.e 0 Z)) ?_;intro ac T
    replace T:=T.pick [0,3,4,5,6,7,8,9] rfl
    refine Zln ?_
    have e9a:ol.length+1=(ol++[xur8_5]).length:=by simp
    have e8a:((sc ol)++[Zi xur8_5.t0,Zi xur8_5.t1,Zi xur8_5.s0,Zi xur8_5.s1])=sc (ol++[xur8_5]):=by rw [← sc_snoc]
    rw [e9a,e8a] at M
    (try rw [e9a] at T)
    have e9b:tn.length+1=(tn++[xu5]).length:=by simp
    have e8b:((ic tn)++[Zi xu5])=ic (tn++[xu5]):=by rw [← ic_snoc]
    rw [e9b,e8b] at M
    (try rw [e9b] at T)
    exact ⟨_,by omega,(i - 1),(ol++[xur8_5]),_,_,(tn++[xu5]),_,_,sur8_5,[(ga4,.row 3 1 (tn++[xu5]).length (ic (tn++[xu5])) cga4)],[(ga3,.row 77 4 (ol++[xur8_5]).length (sc (ol++[xur8_5])) cga3)],rfl,(by omega),(by simp only [Zx3,Zx1,Zx2];omega),(by simp only [Zx3,Zx1,Zx2];omega),(fun z hz=>by rcases List.mem_append.1 hz with h9 | h9;exact hgo z h9;simp only [Zx7,Zx8,or_false] at h9;subst h9;exact hxur8_5),(fun z hz=>by rcases List.mem_append.1 hz with h9 | h9;exact htn z h9;simp only [Zx7,Zx8,or_false] at h9;subst h9;omega),hsur8_5,(Sl.row _ _ _ _ _ _),(Sl.row _ _ _ _ _ _),T.pick [2,3,4,5,6,7,1,0] rfl,M.perm [2,3,4,0,1] rfl rfl⟩
   refine gi 1855 ?_;intro K hK
   refine ow_bs (e:=3) [Zi xu5] M T Z Z Z Z (.cons (T.e 1 Z) .nil) (fun _=>by kernel_rfl) ?_;clear M T;intro gr8_10 wc ac M T
   refine Zso hK _ _ (MA.mk (fun _=>M.perm [1,2] Z Z) (MA.mk (fun h=>(no_of (by kernel_rfl) h).elim) (M.perm [2] Z Z))) ?_;clear hK K
   refine gw 6 1919 ?_;intro K hK
   refine ow_bs (e:=77) [Zi xur8_5.t0,Zi xur8_5.t1,Zi xur8_5.s0,Zi xur8_5.s1] M T Z Z Z Z (.cons (T.e 1 Z) .nil) (fun _=>by kernel_rfl) ?_;clear M T;intro gr8_6 wc ac M T
   refine Zso hK _ _ (MA.mk (fun _=>M.perm [2,3] Z Z) (MA.mk (fun h=>(no_of (by kernel_rfl) h).elim) (M.perm [3] Z Z))) ?_;clear hK K
   refine gw 7 2047 ?_;intro K hK
   refine ow_app (((gr8_6,.cells [Zi xur8_5.t0,Zi xur8_5.t1,Zi xur8_5.s0,Zi xur8_5.s1])::(gr8_10,.cells [Zi xu5])::(g2,.cells [Zi lu1.first,Zi lu1.step,Zi lu1.span,Zi lu1.press,Zi xu2,.slice A3 ol.length c3,.slice none 0 0,Zi 0,Zi 0,Zi 0,Zi 0,Zi 0,Zi 0,Zi 0,Zi 0,Zi 0,Zi 0,Zi 0,Zi 0,Zi 0,Zi xu3])::(g1,.cells Zb0)::(bp,.cells [.int .u64 sur8_5])::Ii)) Tryz.info77 hsl M (by first | rfl | simp) T Z Z Z Z underlying24 Z Z Z (by omega) (T.e 8 Z) (T.e 0 Z) (Zne (i:=0) Z) Z Z ?_;clear M T;intro ga5 cga5 wc ac M T
   refine Zso hK _ _ (MA.mk (fun _=>M.perm [3,4] Z Z) (MA.mk (fun h=>(no_of (by kernel_rfl) h).elim) (M.perm [4] Z Z))) ?_;clear hK K
   refine Zgq (v:=(.pointer (some ⟨g2,5,none⟩))) T 12 6143 Z (fun _=>(Zrg 5 Z (T.e 16 Z))) ?_;intro ac T
   refine gw 11 8191 ?_;intro K hK
   refine ow_app ([(ga5,.row 77 4 (ol.length+1) ((sc ol)++[Zi xur8_5.t0,Zi xur8_5.t1,Zi xur8_5.s0,Zi xur8_5.s1]) cga5),(gr8_6,.cells [Zi xur8_5.t0,Zi xur8_5.t1,Zi xur8_5.s0,Zi xur8_5.s1]),(gr8_10,.cells [Zi xu5]),(g2,.cells [Zi lu1.first,Zi lu1.step,Zi lu1.span,Zi lu1.press,Zi xu2,.slice A3 ol.length c3,.slice none 0 0,Zi 0,Zi 0,Zi 0,Zi 0,Zi 0,Zi 0,Zi 0,Zi 0,Zi 0,Zi 0,Zi 0,Zi 0,Zi 0,Zi xu3]),(g1,.cells Zb0),(bp,.cells [.int .u64 sur8_5])]) Tryz.info3 hsm M (by first | rfl | simp) T Z Z Z Z underlying31 Z Z Z (by omega) (T.e 6 Z) (T.e 3 Z) (Zne (i:=2) Z) Z Z ?_;clear M T;intro ga6 cga6 wc ac M T
   refine Zso hK _ _ (MA.mk (fun _=>M.mask [false,false,false,false,true,true,false] Z) (MA.mk (fun h=>(no_of (by kernel_rfl) h).elim) (M.mask [false,false,false,false,false,true,false] Z))) ?_;clear hK K
   refine gw 13 16383 ?_;intro K hK
   refine Zos M T Z Z (T.e 1 Z) (T.e 2 Z) Z (.tail (.tail (.tail (.tail .head)))) Z (by simp) Z (by kernel_rfl) ?_;clear M T;intro wc ac M T
   refine Zso hK _ _ (MA.mk (fun h=>(no_of (by kernel_rfl) h).elim) (MA.mk (fun h=>(no_of (by kernel_rfl) h).elim) (M.mask [false,false,false,false,false,true,false] Z))) ?_;clear hK K
   refine g_q (v:=(.slice (some ⟨ga6,0,none⟩) (tn.length+1) cga6)) (T:=T.pick [0,1,2,3,4,5,6,7,8,9,10,11,12,13,14,15,16,17,18,19,21] Z) (i:=14) Z (by kernel_rfl) (by kernel_rfl:(Zpb 15 16383).setIfInBounds 14 true=Zpb 15 32767) (si_and (si_G Z) (si_and (si_G Z) si_U)) (fun _ _ _ h=>h) Z Z Z Z (fun _ _ _ _ _=>(Zra Z (T.e 0 Z))) ?_;intro ac T
   refine Zgd (by kernel_rfl) ?_
   replace T:=T.pick [0,15,16,17,18,19,20,21] rfl
   replace M:=M.mask [true,true,false,false,true,true,true] rfl
   refine Znb ?_
   refine nm_then ?_
   refine wp_region_lit ?_
   refine Zg2 T (Zq (Zrm Z (T.e 7 Z))) Z (fun _ T=>Zq (rn_sub Z (T.e 0 Z) evc (by omega))) Z ?_;intro ac T
   refine l_q (v:=(Zi (i - 1))) (T.pick [0,1,2,3,4,5,6,7,8] Z) Z Z Z Z (Zra Z (T.e 0 Z)) ?_;intro ac T
   replace T:=T.pick [0,3,4,5,6,7,8,9] rfl
   refine Zln ?_
   have e9a:ol.length+1=(ol++[xur8_5]).length:=by simp
   have e8a:((sc ol)++[Zi xur8_5.t0,Zi xur8_5.t1,Zi xur8_5.s0,Zi xur8_5.s1])=sc (ol++[xur8_5]):=by rw [← sc_snoc]
   rw [e9a,e8a] at M
   (try rw [e9a] at T)
   have e9b:tn.length+1=(tn++[xu5]).length:=by simp
   have e8b:((ic tn)++[Zi xu5])=ic (tn++[xu5]):=by rw [← ic_snoc]
   rw [e9b,e8b] at M
   (try rw [e9b] at T)
   exact ⟨_,by omega,(i - 1),(ol++[xur8_5]),_,_,(tn++[xu5]),_,_,sur8_5,[(ga6,.row 3 1 (tn++[xu5]).length (ic (tn++[xu5])) cga6)],[(ga5,.row 77 4 (ol++[xur8_5]).length (sc (ol++[xur8_5])) cga5)],rfl,(by omega),(by simp only [Zx3,Zx1,Zx2];omega),(by simp only [Zx3,Zx1,Zx2];omega),(fun z hz=>by rcases List.mem_append.1 hz with h9 | h9;exact hgo z h9;simp only [Zx7,Zx8,or_false] at h9;subst h9;exact hxur8_5),(fun z hz=>by rcases List.mem_append.1 hz with h9 | h9;exact htn z h9;simp only [Zx7,Zx8,or_false] at h9;subst h9;omega),hsur8_5,(Sl.row _ _ _ _ _ _),(Sl.row _ _ _ _ _ _),T.pick [2,3,4,5,6,7,1,0] rfl,M.perm [2,3,4,0,1] rfl rfl⟩
  refine gi 1823 ?_;intro K hK
  refine ow_bs (e:=3) [Zi xu5] M T Z Z Z Z (.cons (T.e 0 Z) .nil) (fun _=>by kernel_rfl) ?_;clear M T;intro gr8_10 wc ac M T
  refine Zso hK _ _ (MA.mk (fun _=>M.perm [1,2] Z Z) (MA.mk (fun _=>M.perm [1,2,3] Z Z) (M.perm [2] Z Z))) ?_;clear hK K
  refine gw 5 1855 ?_;intro K hK
  refine Zod T Z Z Z Z evf (.cons (T.e 5 Z) (.cons (T.e 4 Z) (.cons (T.e 3 Z) .nil))) func37 Z Z ?_
  refine Calls.mono (soundOf_any _ bp xu5 wide _ (by omega) (by omega) (M.nth 3 Z) hsu5) ?_
  clear T;rintro e wc ⟨xur8_5,sur8_5,hxur8_5,hsur8_5,rfl,hgr,hbk⟩ ac T
  replace M:=M.callC (cs':=[.int .u64 sur8_5]) (.tail (.tail (.tail .head))) hgr hbk
  clear hgr hbk
  refine Zso hK _ _ (MA.mk (fun _=>M.perm [1,2] Z Z) (MA.mk (fun h=>(no_of (by kernel_rfl) h).elim) (M.perm [2] Z Z))) ?_;clear hK K
  refine gw 6 1919 ?_;intro K hK
  refine ow_bs (e:=77) [Zi xur8_5.t0,Zi xur8_5.t1,Zi xur8_5.s0,Zi xur8_5.s1] M T Z Z Z Z (.cons (T.e 0 Z) .nil) (fun _=>by kernel_rfl) ?_;clear M T;intro gr8_6 wc ac M T
  refine Zso hK _ _ (MA.mk (fun _=>M.perm [2,3] Z Z) (MA.mk (fun h=>(no_of (by kernel_rfl) h).elim) (M.perm [3] Z Z))) ?_;clear hK K
  refine gw 7 2047 ?_;intro K hK
  refine ow_app (((gr8_6,.cells [Zi xur8_5.t0,Zi xur8_5.t1,Zi xur8_5.s0,Zi xur8_5.s1])::(gr8_10,.cells [Zi xu5])::(g2,.cells [Zi lu1.first,Zi lu1.step,Zi lu1.span,Zi lu1.press,Zi xu2,.slice A3 ol.length c3,.slice none 0 0,Zi 0,Zi 0,Zi 0,Zi 0,Zi 0,Zi 0,Zi 0,Zi 0,Zi 0,Zi 0,Zi 0,Zi 0,Zi 0,Zi xu3])::(g1,.cells Zb0)::(bp,.cells [.int .u64 sur8_5])::Ii)) Tryz.info77 hsl M (by first | rfl | simp) T Z Z Z Z underlying24 Z Z Z (by omega) (T.e 8 Z) (T.e 0 Z) (Zne (i:=0) Z) Z Z ?_;clear M T;intro ga7 cga7 wc ac M T
  refine Zso hK _ _ (MA.mk (fun _=>M.perm [3,4] Z Z) (MA.mk (fun h=>(no_of (by kernel_rfl) h).elim) (M.perm [4] Z Z))) ?_;clear hK K
  refine Zgq (v:=(.pointer (some ⟨g2,5,none⟩))) T 12 6143 Z (fun _=>(Zrg 5 Z (T.e 16 Z))) ?_;intro ac T
  refine gw 11 8191 ?_;intro K hK
  refine ow_app ([(ga7,.row 77 4 (ol.length+1) ((sc ol)++[Zi xur8_5.t0,Zi xur8_5.t1,Zi xur8_5.s0,Zi xur8_5.s1]) cga7),(gr8_6,.cells [Zi xur8_5.t0,Zi xur8_5.t1,Zi xur8_5.s0,Zi xur8_5.s1]),(gr8_10,.cells [Zi xu5]),(g2,.cells [Zi lu1.first,Zi lu1.step,Zi lu1.span,Zi lu1.press,Zi xu2,.slice A3 ol.length c3,.slice none 0 0,Zi 0,Zi 0,Zi 0,Zi 0,Zi 0,Zi 0,Zi 0,Zi 0,Zi 0,Zi 0,Zi 0,Zi 0,Zi 0,Zi xu3]),(g1,.cells Zb0),(bp,.cells [.int .u64 sur8_5])]) Tryz.info3 hsm M (by first | rfl | simp) T Z Z Z Z underlying31 Z Z Z (by omega) (T.e 6 Z) (T.e 4 Z) (Zne (i:=2) Z) Z Z ?_;clear M T;intro ga8 cga8 wc ac M T
  refine Zso hK _ _ (MA.mk (fun _=>M.mask [false,false,false,false,true,true,false] Z) (MA.mk (fun h=>(no_of (by kernel_rfl) h).elim) (M.mask [false,false,false,false,false,true,false] Z))) ?_;clear hK K
  refine gw 13 16383 ?_;intro K hK
  refine Zos M T Z Z (T.e 1 Z) (T.e 2 Z) Z (.tail (.tail (.tail (.tail .head)))) Z (by simp) Z (by kernel_rfl) ?_;clear M T;intro wc ac M T
  refine Zso hK _ _ (MA.mk (fun h=>(no_of (by kernel_rfl) h).elim) (MA.mk (fun h=>(no_of (by kernel_rfl) h).elim) (M.mask [false,false,false,false,false,true,false] Z))) ?_;clear hK K
  refine g_q (v:=(.slice (some ⟨ga8,0,none⟩) (tn.length+1) cga8)) (T:=T.pick [0,1,2,3,4,5,6,7,8,9,10,11,12,13,14,15,16,17,18,19,21] Z) (i:=14) Z (by kernel_rfl) (by kernel_rfl:(Zpb 15 16383).setIfInBounds 14 true=Zpb 15 32767) (si_and (si_G Z) (si_and (si_G Z) si_U)) (fun _ _ _ h=>h) Z Z Z Z (fun _ _ _ _ _=>(Zra Z (T.e 0 Z))) ?_;intro ac T
  refine Zgd (by kernel_rfl) ?_
  replace T:=T.pick [0,15,16,17,18,19,20,21] rfl
  replace M:=M.mask [true,true,false,false,true,true,true] rfl
  refine Znb ?_
  refine nm_then ?_
  refine wp_region_lit ?_
  refine Zg2 T (Zq (Zrm Z (T.e 7 Z))) Z (fun _ T=>Zq (rn_sub Z (T.e 0 Z) evc (by omega))) Z ?_;intro ac T
  refine l_q (v:=(Zi (i - 1))) (T.pick [0,1,2,3,4,5,6,7,8] Z) Z Z Z Z (Zra Z (T.e 0 Z)) ?_;intro ac T
  replace T:=T.pick [0,3,4,5,6,7,8,9] rfl
  refine Zln ?_
  have e9a:ol.length+1=(ol++[xur8_5]).length:=by simp
  have e8a:((sc ol)++[Zi xur8_5.t0,Zi xur8_5.t1,Zi xur8_5.s0,Zi xur8_5.s1])=sc (ol++[xur8_5]):=by rw [← sc_snoc]
  rw [e9a,e8a] at M
  (try rw [e9a] at T)
  have e9b:tn.length+1=(tn++[xu5]).length:=by simp
  have e8b:((ic tn)++[Zi xu5])=ic (tn++[xu5]):=by rw [← ic_snoc]
  rw [e9b,e8b] at M
  (try rw [e9b] at T)
  exact ⟨_,by omega,(i - 1),(ol++[xur8_5]),_,_,(tn++[xu5]),_,_,sur8_5,[(ga8,.row 3 1 (tn++[xu5]).length (ic (tn++[xu5])) cga8)],[(ga7,.row 77 4 (ol++[xur8_5]).length (sc (ol++[xur8_5])) cga7)],rfl,(by omega),(by simp only [Zx3,Zx1,Zx2];omega),(by simp only [Zx3,Zx1,Zx2];omega),(fun z hz=>by rcases List.mem_append.1 hz with h9 | h9;exact hgo z h9;simp only [Zx7,Zx8,or_false] at h9;subst h9;exact hxur8_5),(fun z hz=>by rcases List.mem_append.1 hz with h9 | h9;exact htn z h9;simp only [Zx7,Zx8,or_false] at h9;subst h9;omega),hsur8_5,(Sl.row _ _ _ _ _ _),(Sl.row _ _ _ _ _ _),T.pick [2,3,4,5,6,7,1,0] rfl,M.perm [2,3,4,0,1] rfl rfl⟩
 intro h1
 refine wp_exit ?_
 refine Zet ?_
 refine Zet ?_
 refine ex_hit ?_
 refine Zns ?_
 refine Zsr ?_
 refine Zg3 T (Zq (Zrm Z (T.e 1 Z))) Z (Zm 3 Z Z) Z (fun _ T=>Zq (rn_min2 Z (T.e 0 Z) evc)) Z ?_;intro ac T
 refine Zl2 ?_
 refine Zod T Z Z Z Z evf (.cons (T.e 2 Z) (.cons (T.e 0 Z) .nil)) func35 Z Z ?_
 refine Calls.mono (upto_any _ bp (min nhi 5) _ (by omega) (by omega) (M.nth 2 Z) hs) ?_
 clear T;rintro e wc ⟨xu6,su6,hxu6,hsu6,rfl,hgr,hbk⟩ ac T
 replace M:=M.callC (cs':=[.int .u64 su6]) (.tail (.tail .head)) hgr hbk
 clear hgr hbk
 refine lq T (Zra Z (T.e 0 Z)) ?_;intro ac T
 replace T:=T.pick [0,6,8,9,10,11,12] rfl
 refine Zln ?_
 refine wp_block ?_
 obtain ⟨bt,ot,St0⟩:=hsm.spV (by rw [ic_length];omega)
 have St:=St0 w (fun b=>b=bp)
 refine wp_loop_n (fun mz ac wc=>∃ (q:Int) (oh:List Snd) (A5:Option Addr) (c5:Nat) (s:Int) (Ih:List (Nat×BA)),mz=q.toNat∧(0≤q)∧((oh.length:Int)+q=xu6)∧(∀ z∈oh,z.good)∧(u64ok s)∧(Sl 77 4 (.slice A5 oh.length c5) oh.length (sc oh) Ih)∧Tm ac 115 [(0,Zj bp),(3,Zi wide),(8,Zj g1),(9,Zj g2),(10,Zi (lu1.first+(lu1.step * xu2))),(11,.slice A4 tn.length c4),(14,Zi q)]∧Mem w (fun b=>b=bp) wc ((g2,.cells [Zi lu1.first,Zi lu1.step,Zi lu1.span,Zi lu1.press,Zi xu2,.slice A3 ol.length c3,.slice A5 oh.length c5,Zi 0,Zi 0,Zi 0,Zi 0,Zi 0,Zi 0,Zi 0,Zi 0,Zi 0,Zi 0,Zi 0,Zi 0,Zi 0,Zi xu3])::(g1,.cells Zb0)::(bp,.cells [.int .u64 s])::(Ii++Io++Ih))) ?_ ?_
 ·exact ⟨_,_,[],none,0,_,[],Z,(by omega),(by simp),(fun z hz=>by cases hz),hsu6,(Sl.nil _ _),T.pick [1,2,3,4,5,6,0] Z,(by simp only [Zx4];exact M)⟩
 clear T M
 rintro mz ac wc ⟨q,oh,A5,c5,s,Ih,hmm2,hi2,hoh,hgh,hs2,hsh,T,M⟩
 refine wp_seq ?_
 refine Zsr ?_
 refine Zg2 T (Zq (Zrm Z (T.e 6 Z))) Z (fun _ T=>Zq (rn_gtr Z (T.e 0 Z) evc)) Z ?_;intro ac T
 replace T:=T.pick [0,2,3,4,5,6,7,8] rfl
 refine Zln ?_
 refine wp_if (T.e 0 Z) ?_ ?_
 ·intro h2
  refine Zsk ?_
  refine wp_seq ?_
  refine wp_block ?_
  refine Zsr ?_
  refine lq T (Zrm Z (T.e 1 Z)) ?_;intro ac T
  refine Zl2 ?_
  refine Zod T Z Z Z Z evf (.cons (T.e 0 Z) (.cons evc (.cons evc .nil))) func36 Z Z ?_
  refine Calls.mono (within_pot _ bp (-5) 5 _ (by omega) (by omega) (by omega) (M.nth 2 Z) hs2) ?_
  clear T;rintro e wc ⟨xu7,su7,hxu7,hsu7,rfl,hgr,hbk⟩ ac T
  replace M:=M.callC (cs':=[.int .u64 su7]) (.tail (.tail .head)) hgr hbk
  clear hgr hbk
  refine lq T (Zra Z (T.e 0 Z)) ?_;intro ac T
  replace T:=T.pick [0,4,5,6,7,8,9,10] rfl
  refine Zln ?_
  refine wp_seq ?_
  refine Zsr ?_
  refine Zg3 T (Zq (Zrm Z (T.e 6 Z))) Z (Zl underlying31 0 Z Z) Z (fun _ T=>Zq (rn_gtr Z (T.e 0 Z) evc)) Z ?_;intro ac T
  replace T:=T.pick [0,3,4,5,6,7,8,9,10] rfl
  refine Zln ?_
  refine wp_if (T.e 0 Z) ?_ ?_
  ·intro h3
   refine Zgs M (M.mask [true,true,false] Z) 21 (by kernel_rfl) Z (by kernel_rfl) ?_
   clear M;intro wc M
   refine g_addG 5 M ?_
   refine Zgq T 0 1 Z (fun _=>(Zrm Z (T.e 7 Z))) ?_;intro ac T
   refine Zgq T 1 3 Z (fun _=>(Zrm Z (T.e 3 Z))) ?_;intro ac T
   refine Zgq T 2 7 Z (fun _=>(Zrm Z (T.e 9 Z))) ?_;intro ac T
   refine Zgq T 3 15 Z (fun _=>(Zrl Z underlying31 (T.e 0 Z))) ?_;intro ac T
   refine Zgq T 4 31 Z (fun _=>(rn_sub Z (T.e 0 Z) evc (by omega))) ?_;intro ac T
   refine Zgq T 8 287 Z (fun _=>(Zrm Z (T.e 7 Z))) ?_;intro ac T
   refine Zgq (v:=(Zj g2)) T 9 799 Z (fun _=>(Zrg 0 Z (T.e 11 Z))) ?_;intro ac T
   refine Zgq (v:=(.pointer (some ⟨g2,2,none⟩))) T 10 1823 Z (fun _=>(Zrg 2 Z (T.e 0 Z))) ?_;intro ac T
   refine gq T 11 3871 Z (fun B w' hD hl hS=>(Zro (Mem.nth (show Mem w (fun b=>b=bp) w' _ from (MA.rgt hS)) 0 Z) Z (T.e 0 Z) Z)) ?_;intro ac T
   refine Zgq T 12 7967 Z (fun _=>(rn_neg Z (T.e 0 Z) (by omega))) ?_;intro ac T
   refine Zgq T 13 16159 Z (fun _=>(rn_sub Z (T.e 0 Z) evc (by omega))) ?_;intro ac T
   refine Zgq (v:=(Zj g2)) T 14 32543 Z (fun _=>(Zrg 0 Z (T.e 16 Z))) ?_;intro ac T
   refine Zgq (v:=(.pointer (some ⟨g2,2,none⟩))) T 15 65311 Z (fun _=>(Zrg 2 Z (T.e 0 Z))) ?_;intro ac T
   refine gq T 16 130847 Z (fun B w' hD hl hS=>(Zro (Mem.nth (show Mem w (fun b=>b=bp) w' _ from (MA.rgt hS)) 0 Z) Z (T.e 0 Z) Z)) ?_;intro ac T
   refine Zgq T 17 261919 Z (fun _=>(rn_add Z (T.e 0 Z) evc (by omega))) ?_;intro ac T
   refine gw 5 261951 ?_;intro K hK
   refine Zod T Z Z Z Z evf (.cons (T.e 13 Z) (.cons (T.e 10 Z) .nil)) func35 Z Z ?_
   refine Calls.mono (upto_any _ bp (((tn.length:Nat):Int) - 1) _ (by omega) (by omega) (M.nth 2 Z) hsu7) ?_
   clear T;rintro e wc ⟨xu8,su8,hxu8,hsu8,rfl,hgr,hbk⟩ ac T
   replace M:=M.callC (cs':=[.int .u64 su8]) (.tail (.tail .head)) hgr hbk
   clear hgr hbk
   obtain ⟨kuu8,hkuu8⟩:∃ k:Nat,xu8=(k:Int):=⟨xu8.toNat,by omega⟩
   obtain ⟨ntu8,hntu8,-⟩:=ic_next (l:=tn) (k:=kuu8) (by omega)
   have hntbu8:=htn _ (List.mem_of_getElem? hntu8)
   refine Zso hK _ _ (MA.mk (fun h=>(no_of (by kernel_rfl) h).elim) (M.mask [true,true,false] Z)) ?_;clear hK K
   refine g_addG 18 M ?_
   refine Zgq T 6 262015 Z (fun _=>(Zri (size:=1) kuu8 Z (T.e 15 Z) (T.e 0 Z) ⟨_,underlying31,by kernel_rfl⟩ hkuu8 (by omega) (St.at0 (by omega)))) ?_;intro ac T
   refine gq T 7 262143 Z (fun B w' hD hl hS=>(rn_cell (Sp.ic0 St (show Mem w (fun b=>b=bp) w' _ from (MA.rgt (MA.rgt hS))) (.cons _ (.cons _ (subL (subL (List.Sublist.refl _))))) hntu8) Z (T.e 0 Z))) ?_;intro ac T
   refine gw 18 524287 ?_;intro K hK
   refine Zod T Z Z Z Z evf (.cons (T.e 12 Z) (.cons (T.e 7 Z) (.cons (T.e 3 Z) .nil))) func36 Z Z ?_
   refine Calls.mono (within_pot _ bp ((-lu1.span) - 3) (lu1.span+3) _ (by omega) (by omega) (by omega) (M.nth 2 Z) hsu8) ?_
   clear T;rintro e wc ⟨xu9,su9,hxu9,hsu9,rfl,hgr,hbk⟩ ac T
   replace M:=M.callC (cs':=[.int .u64 su9]) (.tail (.tail .head)) hgr hbk
   clear hgr hbk
   refine Zso hK _ _ (MA.mk (fun h=>(no_of (by kernel_rfl) h).elim) (MA.mk (fun h=>(no_of (by kernel_rfl) h).elim) (M.mask [true,true,false] Z))) ?_;clear hK K
   refine Zgq T 19 1048575 Z (fun _=>(rn_add Z (T.e 1 Z) (T.e 0 Z) (by omega))) ?_;intro ac T
   refine g_q (v:=(Zi (ntu8+xu9))) (T:=T.pick [0,1,2,3,4,5,6,7,8,9,10,11,12,13,14,15,16,17,18,19,20,22,23,24,25,26,27,28] Z) (i:=20) Z (by kernel_rfl) (by kernel_rfl:(Zpb 21 1048575).setIfInBounds 20 true=Zpb 21 2097151) (si_and (si_G Z) (si_and (si_G Z) si_U)) (fun _ _ _ h=>h) Z Z Z Z (fun _ _ _ _ _=>(Zra Z (T.e 0 Z))) ?_;intro ac T
   refine Zgd (by kernel_rfl) ?_
   replace T:=T.pick [0,22,23,24,25,26,27,28] rfl
   refine nm_then ?_
   refine Zgs M (M.perm [1] Z Z) 12 (by kernel_rfl) Z (by kernel_rfl) ?_
   clear M;intro wc M
   refine g_addG 7 (M.perm [0,1,2] Z Z) ?_
   refine g_addG 11 (M.perm [0,1] Z Z) ?_
   refine Zgq (v:=(.pointer (some ⟨g2,6,none⟩))) T 0 1 Z (fun _=>(Zrg 6 Z (T.e 4 Z))) ?_;intro ac T
   refine gq T 1 3 Z (fun B w' hD hl hS=>(Zro (Mem.nth (show Mem w (fun b=>b=bp) w' _ from ((MA.lft hS) (hD.wait (i:=1) (m:=11) (by kernel_rfl) hl))) 0 Z) Z (T.e 0 Z) Z)) ?_;intro ac T
   refine Zgq T 2 7 Z (fun _=>(Zrm Z (T.e 3 Z))) ?_;intro ac T
   refine Zgq T 3 15 Z (fun _=>(Zrm Z (T.e 3 Z))) ?_;intro ac T
   refine Zgq T 4 31 Z (fun _=>(Zrm Z (T.e 9 Z))) ?_;intro ac T
   refine Zgq T 5 63 Z (fun _=>(rn_add Z (T.e 1 Z) (T.e 0 Z) (by omega))) ?_;intro ac T
   refine Zgq T 6 127 Z (fun _=>(Zrm Z (T.e 8 Z))) ?_;intro ac T
   refine gw 7 255 ?_;intro K hK
   refine Zod T Z Z Z Z evf (.cons (T.e 4 Z) (.cons (T.e 1 Z) (.cons (T.e 0 Z) .nil))) func37 Z Z ?_
   refine Calls.mono (soundOf_any _ bp ((ntu8+xu9)+(lu1.first+(lu1.step * xu2))) wide _ (by omega) (by omega) (M.nth 2 Z) hsu9) ?_
   clear T;rintro e wc ⟨xu10,su10,hxu10,hsu10,rfl,hgr,hbk⟩ ac T
   replace M:=M.callC (cs':=[.int .u64 su10]) (.tail (.tail .head)) hgr hbk
   clear hgr hbk
   refine Zso hK _ _ (MA.mk (fun _=>M.perm [0,1] Z Z) (MA.mk (fun h=>(no_of (by kernel_rfl) h).elim) (M.perm [1] Z Z))) ?_;clear hK K
   refine gw 8 511 ?_;intro K hK
   refine ow_bs (e:=77) [Zi xu10.t0,Zi xu10.t1,Zi xu10.s0,Zi xu10.s1] M T Z Z Z Z (.cons (T.e 0 Z) .nil) (fun _=>by kernel_rfl) ?_;clear M T;intro g3 wc ac M T
   refine Zso hK _ _ (MA.mk (fun _=>M.perm [1,2] Z Z) (MA.mk (fun h=>(no_of (by kernel_rfl) h).elim) (M.perm [2] Z Z))) ?_;clear hK K
   refine gw 9 1023 ?_;intro K hK
   refine ow_app (((g3,.cells [Zi xu10.t0,Zi xu10.t1,Zi xu10.s0,Zi xu10.s1])::(g2,.cells [Zi lu1.first,Zi lu1.step,Zi lu1.span,Zi lu1.press,Zi xu2,.slice A3 ol.length c3,.slice A5 oh.length c5,Zi 0,Zi 0,Zi 0,Zi 0,Zi 0,Zi 0,Zi 0,Zi 0,Zi 0,Zi 0,Zi 0,Zi 0,Zi 0,Zi xu3])::(g1,.cells Zb0)::(bp,.cells [.int .u64 su10])::(Ii++Io))) Tryz.info77 hsh M (by first | rfl | simp) T Z Z Z Z underlying24 Z Z Z (by omega) (T.e 7 Z) (T.e 0 Z) (Zne (i:=0) Z) Z Z ?_;clear M T;intro ga9 cga9 wc ac M T
   refine Zso hK _ _ (MA.mk (fun _=>M.perm [2,3] Z Z) (MA.mk (fun h=>(no_of (by kernel_rfl) h).elim) (M.perm [3] Z Z))) ?_;clear hK K
   refine Zgq (v:=(.pointer (some ⟨g2,6,none⟩))) T 10 2047 Z (fun _=>(Zrg 6 Z (T.e 14 Z))) ?_;intro ac T
   refine gw 11 4095 ?_;intro K hK
   refine Zot M T Z Z (T.e 0 Z) (T.e 1 Z) Z (.tail (.tail .head)) Z Z ?_;clear M T;intro wc ac M T
   refine Zso hK _ _ (MA.mk (fun h=>(no_of (by kernel_rfl) h).elim) (MA.mk (fun h=>(no_of (by kernel_rfl) h).elim) (M.perm [3] Z Z))) ?_;clear hK K
   refine Zgd (by kernel_rfl) ?_
   replace T:=T.pick [12,13,14,15,16,17,18] rfl
   replace M:=M.mask [true,false,true,true,true] rfl
   refine Znb ?_
   refine nm_then ?_
   refine wp_region_lit ?_
   refine Zg2 T (Zq (Zrm Z (T.e 6 Z))) Z (fun _ T=>Zq (rn_sub Z (T.e 0 Z) evc (by omega))) Z ?_;intro ac T
   refine l_q (v:=(Zi (q - 1))) (T.pick [0,1,2,3,4,5,6,7] Z) Z Z Z Z (Zra Z (T.e 0 Z)) ?_;intro ac T
   replace T:=T.pick [0,3,4,5,6,7,8] rfl
   refine Zln ?_
   have e9a:oh.length+1=(oh++[xu10]).length:=by simp
   have e8a:((sc oh)++[Zi xu10.t0,Zi xu10.t1,Zi xu10.s0,Zi xu10.s1])=sc (oh++[xu10]):=by rw [← sc_snoc]
   rw [e9a,e8a] at M
   (try rw [e9a] at T)
   exact ⟨_,by omega,(q - 1),(oh++[xu10]),_,_,su10,[(ga9,.row 77 4 (oh++[xu10]).length (sc (oh++[xu10])) cga9)],rfl,(by omega),(by simp only [Zx3,Zx1,Zx2];omega),(fun z hz=>by rcases List.mem_append.1 hz with h9 | h9;exact hgh z h9;simp only [Zx7,Zx8,or_false] at h9;subst h9;exact hxu10),hsu10,(Sl.row _ _ _ _ _ _),T.pick [1,2,3,4,5,6,0] rfl,(Mem.spin [(g2,.cells [Zi lu1.first,Zi lu1.step,Zi lu1.span,Zi lu1.press,Zi xu2,.slice A3 ol.length c3,.slice (some ⟨ga9,0,none⟩) ((oh++[xu10]).length) cga9,Zi 0,Zi 0,Zi 0,Zi 0,Zi 0,Zi 0,Zi 0,Zi 0,Zi 0,Zi 0,Zi 0,Zi 0,Zi 0,Zi xu3]),(g1,.cells Zb0),(bp,.cells [.int .u64 su10])] [(ga9,.row 77 4 (oh++[xu10]).length (sc (oh++[xu10])) cga9)] (Ii++Io) (M.permT [1,2,3,0] 4 rfl rfl rfl rfl))⟩
  intro h3
  refine Zsk ?_
  refine Zgs M (M.perm [1] Z Z) 12 (by kernel_rfl) Z (by kernel_rfl) ?_
  clear M;intro wc M
  refine g_addG 7 (M.perm [0,1,2] Z Z) ?_
  refine g_addG 11 (M.perm [0,1] Z Z) ?_
  refine Zgq (v:=(.pointer (some ⟨g2,6,none⟩))) T 0 1 Z (fun _=>(Zrg 6 Z (T.e 5 Z))) ?_;intro ac T
  refine gq T 1 3 Z (fun B w' hD hl hS=>(Zro (Mem.nth (show Mem w (fun b=>b=bp) w' _ from ((MA.lft hS) (hD.wait (i:=1) (m:=11) (by kernel_rfl) hl))) 0 Z) Z (T.e 0 Z) Z)) ?_;intro ac T
  refine Zgq T 2 7 Z (fun _=>(Zrm Z (T.e 4 Z))) ?_;intro ac T
  refine Zgq T 3 15 Z (fun _=>(Zrm Z (T.e 4 Z))) ?_;intro ac T
  refine Zgq T 4 31 Z (fun _=>(Zrm Z (T.e 10 Z))) ?_;intro ac T
  refine Zgq T 5 63 Z (fun _=>(rn_add Z (T.e 1 Z) (T.e 0 Z) (by omega))) ?_;intro ac T
  refine Zgq T 6 127 Z (fun _=>(Zrm Z (T.e 9 Z))) ?_;intro ac T
  refine gw 7 255 ?_;intro K hK
  refine Zod T Z Z Z Z evf (.cons (T.e 4 Z) (.cons (T.e 1 Z) (.cons (T.e 0 Z) .nil))) func37 Z Z ?_
  refine Calls.mono (soundOf_any _ bp (xu7+(lu1.first+(lu1.step * xu2))) wide _ (by omega) (by omega) (M.nth 2 Z) hsu7) ?_
  clear T;rintro e wc ⟨xu11,su11,hxu11,hsu11,rfl,hgr,hbk⟩ ac T
  replace M:=M.callC (cs':=[.int .u64 su11]) (.tail (.tail .head)) hgr hbk
  clear hgr hbk
  refine Zso hK _ _ (MA.mk (fun _=>M.perm [0,1] Z Z) (MA.mk (fun h=>(no_of (by kernel_rfl) h).elim) (M.perm [1] Z Z))) ?_;clear hK K
  refine gw 8 511 ?_;intro K hK
  refine ow_bs (e:=77) [Zi xu11.t0,Zi xu11.t1,Zi xu11.s0,Zi xu11.s1] M T Z Z Z Z (.cons (T.e 0 Z) .nil) (fun _=>by kernel_rfl) ?_;clear M T;intro g4 wc ac M T
  refine Zso hK _ _ (MA.mk (fun _=>M.perm [1,2] Z Z) (MA.mk (fun h=>(no_of (by kernel_rfl) h).elim) (M.perm [2] Z Z))) ?_;clear hK K
  refine gw 9 1023 ?_;intro K hK
  refine ow_app (((g4,.cells [Zi xu11.t0,Zi xu11.t1,Zi xu11.s0,Zi xu11.s1])::(g2,.cells [Zi lu1.first,Zi lu1.step,Zi lu1.span,Zi lu1.press,Zi xu2,.slice A3 ol.length c3,.slice A5 oh.length c5,Zi 0,Zi 0,Zi 0,Zi 0,Zi 0,Zi 0,Zi 0,Zi 0,Zi 0,Zi 0,Zi 0,Zi 0,Zi 0,Zi xu3])::(g1,.cells Zb0)::(bp,.cells [.int .u64 su11])::(Ii++Io))) Tryz.info77 hsh M (by first | rfl | simp) T Z Z Z Z underlying24 Z Z Z (by omega) (T.e 7 Z) (T.e 0 Z) (Zne (i:=0) Z) Z Z ?_;clear M T;intro ga10 cga10 wc ac M T
  refine Zso hK _ _ (MA.mk (fun _=>M.perm [2,3] Z Z) (MA.mk (fun h=>(no_of (by kernel_rfl) h).elim) (M.perm [3] Z Z))) ?_;clear hK K
  refine Zgq (v:=(.pointer (some ⟨g2,6,none⟩))) T 10 2047 Z (fun _=>(Zrg 6 Z (T.e 15 Z))) ?_;intro ac T
  refine gw 11 4095 ?_;intro K hK
  refine Zot M T Z Z (T.e 0 Z) (T.e 1 Z) Z (.tail (.tail .head)) Z Z ?_;clear M T;intro wc ac M T
  refine Zso hK _ _ (MA.mk (fun h=>(no_of (by kernel_rfl) h).elim) (MA.mk (fun h=>(no_of (by kernel_rfl) h).elim) (M.perm [3] Z Z))) ?_;clear hK K
  refine Zgd (by kernel_rfl) ?_
  replace T:=T.pick [13,14,15,16,17,18,19] rfl
  replace M:=M.mask [true,false,true,true,true] rfl
  refine Znb ?_
  refine nm_then ?_
  refine wp_region_lit ?_
  refine Zg2 T (Zq (Zrm Z (T.e 6 Z))) Z (fun _ T=>Zq (rn_sub Z (T.e 0 Z) evc (by omega))) Z ?_;intro ac T
  refine l_q (v:=(Zi (q - 1))) (T.pick [0,1,2,3,4,5,6,7] Z) Z Z Z Z (Zra Z (T.e 0 Z)) ?_;intro ac T
  replace T:=T.pick [0,3,4,5,6,7,8] rfl
  refine Zln ?_
  have e9a:oh.length+1=(oh++[xu11]).length:=by simp
  have e8a:((sc oh)++[Zi xu11.t0,Zi xu11.t1,Zi xu11.s0,Zi xu11.s1])=sc (oh++[xu11]):=by rw [← sc_snoc]
  rw [e9a,e8a] at M
  (try rw [e9a] at T)
  exact ⟨_,by omega,(q - 1),(oh++[xu11]),_,_,su11,[(ga10,.row 77 4 (oh++[xu11]).length (sc (oh++[xu11])) cga10)],rfl,(by omega),(by simp only [Zx3,Zx1,Zx2];omega),(fun z hz=>by rcases List.mem_append.1 hz with h9 | h9;exact hgh z h9;simp only [Zx7,Zx8,or_false] at h9;subst h9;exact hxu11),hsu11,(Sl.row _ _ _ _ _ _),T.pick [1,2,3,4,5,6,0] rfl,(Mem.spin [(g2,.cells [Zi lu1.first,Zi lu1.step,Zi lu1.span,Zi lu1.press,Zi xu2,.slice A3 ol.length c3,.slice (some ⟨ga10,0,none⟩) ((oh++[xu11]).length) cga10,Zi 0,Zi 0,Zi 0,Zi 0,Zi 0,Zi 0,Zi 0,Zi 0,Zi 0,Zi 0,Zi 0,Zi 0,Zi 0,Zi xu3]),(g1,.cells Zb0),(bp,.cells [.int .u64 su11])] [(ga10,.row 77 4 (oh++[xu11]).length (sc (oh++[xu11])) cga10)] (Ii++Io) (M.permT [1,2,3,0] 4 rfl rfl rfl rfl))⟩
 intro h2
 refine wp_exit ?_
 refine Zet ?_
 refine Zet ?_
 refine ex_hit ?_
 refine nm_then ?_
 refine Zsr ?_
 refine lq T (Zrm Z (T.e 1 Z)) ?_;intro ac T
 refine Zl2 ?_
 refine Zod T Z Z Z Z evf (.cons (T.e 0 Z) (.cons evc (.cons evc .nil))) func38 Z Z ?_
 refine Calls.mono (jobOf_any _ bp 0 1 _ (by omega) (by omega) (by omega) (by omega) (M.nth 2 Z) hs2) ?_
 clear T;rintro e wc ⟨ju12,Au12,cu12,su12,Iu12,rfl,hmu12,hsu12,hslu12,N⟩ ac T
 obtain ⟨bu12,ou12,SVu12⟩:=hslu12.spV (rc_length _)
 have Su12:=SVu12 w (fun b=>b=bp)
 replace M:=(M.joinW (.tail (.tail .head)) N).swapI
 replace M:=M.mask [true,true,true] rfl
 clear N hslu12
 have hgu12:=hmu12.good
 have hfewu12:=hgu12.few
 have hpu12:=hgu12.p
 have hmeu12:=hgu12.me
 refine Zl2 ?_
 refine Zoa M T Z Z Z Z ?_;clear M T;intro g5 wc ac M T
 refine Zl2 ?_
 refine Zot M T Z Z (T.e 0 Z) (T.e 1 Z) Z .head Z Z ?_;clear M T;intro wc ac M T
 replace T:=T.pick [0,6,7] rfl
 refine Zln ?_
 refine wp_seq ?_
 refine Zgs M (M.mask [true,false,true,true] Z) 14 (by kernel_rfl) Z (by kernel_rfl) ?_
 clear M;intro wc M
 refine g_addG 9 M ?_
 refine Zgq (v:=(Zj g5)) T 0 1 Z (fun _=>(Zrg 0 Z (T.e 0 Z))) ?_;intro ac T
 refine Zgq (v:=(.pointer (some ⟨g5,2,none⟩))) T 1 3 Z (fun _=>(Zrg 2 Z (T.e 0 Z))) ?_;intro ac T
 refine gq T 2 7 Z (fun B w' hD hl hS=>(Zrr (Mem.nth (show Mem w (fun b=>b=bp) w' _ from ((MA.lft hS) (hD.wait (i:=2) (m:=9) (by kernel_rfl) hl))) 0 Z) Z (T.e 0 Z) Z)) ?_;intro ac T
 refine Zgq (v:=(Zj g5)) T 3 15 Z (fun _=>(Zrg 0 Z (T.e 3 Z))) ?_;intro ac T
 refine Zgq (v:=(.pointer (some ⟨g5,4,none⟩))) T 4 31 Z (fun _=>(Zrg 4 Z (T.e 0 Z))) ?_;intro ac T
 refine gq T 5 63 Z (fun B w' hD hl hS=>(Zrr (Mem.nth (show Mem w (fun b=>b=bp) w' _ from (MA.rgt hS)) 0 Z) Z (T.e 0 Z) Z)) ?_;intro ac T
 refine Zgq (v:=(.pointer (some ⟨g5,6,none⟩))) T 6 127 Z (fun _=>(Zrg 6 Z (T.e 6 Z))) ?_;intro ac T
 refine gq T 7 255 Z (fun B w' hD hl hS=>(Zrr (Mem.nth (show Mem w (fun b=>b=bp) w' _ from (MA.rgt hS)) 0 Z) Z (T.e 0 Z) Z)) ?_;intro ac T
 refine Zgq (v:=(.pointer (some ⟨g2,7,none⟩))) T 8 511 Z (fun _=>(Zrg 7 Z (T.e 10 Z))) ?_;intro ac T
 refine gw 9 1023 ?_;intro K hK
 refine Zot M T Z Z (T.e 0 Z) (T.e 6 Z) Z (.tail .head) Z Z ?_;clear M T;intro wc ac M T
 refine Zso hK _ _ (MA.mk (fun h=>(no_of (by kernel_rfl) h).elim) (M.mask [true,false,true,true] Z)) ?_;clear hK K
 refine Zgq (v:=(.pointer (some ⟨g2,9,none⟩))) T 10 2047 Z (fun _=>(Zrg 9 Z (T.e 11 Z))) ?_;intro ac T
 refine gw 11 4095 ?_;intro K hK
 refine Zot M T Z Z (T.e 0 Z) (T.e 4 Z) Z (.tail .head) Z Z ?_;clear M T;intro wc ac M T
 refine Zso hK _ _ (MA.mk (fun h=>(no_of (by kernel_rfl) h).elim) (M.mask [true,false,true,true] Z)) ?_;clear hK K
 refine Zgq (v:=(.pointer (some ⟨g2,11,none⟩))) T 12 8191 Z (fun _=>(Zrg 11 Z (T.e 12 Z))) ?_;intro ac T
 refine gw 13 16383 ?_;intro K hK
 refine Zot M T Z Z (T.e 0 Z) (T.e 3 Z) Z (.tail .head) Z Z ?_;clear M T;intro wc ac M T
 refine Zso hK _ _ (MA.mk (fun h=>(no_of (by kernel_rfl) h).elim) (M.mask [true,false,true,true] Z)) ?_;clear hK K
 refine Zgd (by kernel_rfl) ?_
 replace T:=T.pick [12,13] rfl
 replace M:=M.mask [false,true,true,true] rfl
 replace M:Mem w (fun b=>b=bp) wc ((g2,.cells [Zi lu1.first,Zi lu1.step,Zi lu1.span,Zi lu1.press,Zi xu2,.slice A3 ol.length c3,.slice A5 oh.length c5,Zi ju12.t0,Zi ju12.t1,Zi ju12.r0,Zi ju12.r1,Zi ju12.u0,Zi ju12.u1,Zi ju12.d0,Zi ju12.d1,Zi ju12.a0,Zi ju12.a1,Zi ju12.b0,Zi ju12.b1,Zi ju12.le,Zi xu3])::(g1,.cells Zb0)::(bp,.cells [.int .u64 su12])::(Ii++Io++Ih++Iu12)):=M
 refine nm_then ?_
 refine Zsr ?_
 refine lq T (Zrr (Mem.nth M 0 Z) Z (T.e 1 Z) Z) ?_;intro ac T
 refine Zl2 ?_
 refine Zot M T Z Z (T.e 1 Z) (T.e 0 Z) Z (.tail .head) Z Z ?_;clear M T;intro wc ac M T
 refine wpList_nil ?_
 replace T:=T.pick [1] rfl
 replace M:=M.mask [false,true,true] rfl
 replace M:Mem w (fun b=>b=bp) wc ((g1,.cells [Zi lu1.first,Zi lu1.step,Zi lu1.span,Zi lu1.press,Zi xu2,.slice A3 ol.length c3,.slice A5 oh.length c5,Zi ju12.t0,Zi ju12.t1,Zi ju12.r0,Zi ju12.r1,Zi ju12.u0,Zi ju12.u1,Zi ju12.d0,Zi ju12.d1,Zi ju12.a0,Zi ju12.a1,Zi ju12.b0,Zi ju12.b1,Zi ju12.le,Zi xu3])::(bp,.cells [.int .u64 su12])::(Ii++Io++Ih++Iu12)):=M
 refine Znr ?_
 refine rt_c M T Z (T.e 0 Z) (Zne (i:=0) Z) Z ?_
 obtain ⟨bs1,os1,hS1⟩:=hsl.spV (sc_length _)
 obtain ⟨bs2,os2,hS2⟩:=hsh.spV (sc_length _)
 have hmd:=boxMade (b:=({ first:=lu1.first,step:=lu1.step,span:=lu1.span,press:=lu1.press,note:=xu2,lows:=ol,highs:=oh,t0:=ju12.t0,t1:=ju12.t1,r0:=ju12.r0,r1:=ju12.r1,u0:=ju12.u0,u1:=ju12.u1,d0:=ju12.d0,d1:=ju12.d1,a0:=ju12.a0,a1:=ju12.a1,b0:=ju12.b0,b1:=ju12.b1,le:=ju12.le,me:=xu3 }:Bx)) (lo:=nlo) (hi:=nhi) (j:=ju12) hlu1 (by dsimp only;omega) (by dsimp only;omega) (by dsimp only;omega) hgo hgh (by dsimp only;omega) hmu12 ⟨rfl,rfl,rfl,rfl,rfl,rfl,rfl,rfl,rfl,rfl,rfl,rfl,rfl⟩
 refine ⟨_,A3,c3,A5,c5,_,Io++Ih,Z,hmd,hsu12,⟨bs1,os1,fun w ex=>(hS1 w ex).mono (Zsl _ _)⟩,⟨bs2,os2,fun w ex=>(hS2 w ex).mono (Zsq _ _)⟩,Mem.swapI (I:=[(bp,.cells [.int .u64 su12])]) (L:=Io++Ih) ?_⟩
 have M9:Mem w (fun b=>b=bp) wc ((bp,.cells [.int .u64 su12])::(Ii++Io++Ih++Iu12)):=M.permT [1] 2 rfl rfl rfl rfl
 refine M9.sub (.cons_cons _ ?_)
 refine List.Sublist.trans ?_ (Zsl _ _)
 rw [List.append_assoc]
 exact Zsq _ _
end Go.Proofs.YtaikhendogcflaaGreatDoor


/-
  Walks of functions,and plain laws (texts put together). No condition.
-/
import Derived.Deep.DeepMust
import Derived.Deep.DeepFit
import Derived.Shelf.Abstract
import Derived.Shelf.RegionOpen
import Derived.OwnWalkIn
import Derived.TacticsInMore
import Derived.LoopNIn
import Derived.LoopIn
import Derived.Test.YtaikhendogcflaaGreatDoorMVoiceTexts1
set_option maxRecDepth 100000
set_option maxHeartbeats 1000000
set_option linter.unusedSimpArgs false
set_option linter.unusedVariables false
namespace Go.Proofs.YtaikhendogcflaaGreatDoor
open Go.Proofs.Tryz
open Go.RowKit
def mstep (a x:Int×Int):Int×Int:=(if a.1 < x.1 then x.1 else a.1,if x.2 < a.2 then x.2 else a.2)
def meetL (f:Int×Int) (l:List (Int×Int)):Int×Int:=l.foldl mstep f
theorem meetL_snoc (f:Int×Int) (l:List (Int×Int)) (k:Nat) (x0 x1:Int) (h:l.drop k=(x0,x1)::l.drop (k+1)):meetL f (l.take (k+1))=mstep (meetL f (l.take k)) (x0,x1):=by
 have hk:k < l.length:=by
  rcases Nat.lt_or_ge k l.length with h' | h'
  ·exact h'
  ·rw [List.drop_of_length_le h'] at h;cases h
 rw [List.drop_eq_getElem_cons hk] at h
 injection h with h _
 rw [List.take_succ_eq_append_getElem hk,meetL,List.foldl_append,h]
 rfl
theorem meet_any (f0 f1:Int) (A:Option Addr) (n c:Nat) (l:List (Int×Int)) (w:World) (hr:Rd w w.heap.size 2 A n (rc l)) (hn:n≤9223372036854775807) :
  Calls prog 234 #[R2 f0 f1,.slice A n c] w fun e w'=>e=.returned (R2 (meetL (f0,f1) l).1 (meetL (f0,f1) l).2)∧Below w.heap.size w w':=by
 have HL:=Lib.hid hr.len2
 have HR:=Lib.hid hr
 clear hr
 have q0:Bk ((w.alloc (.cells #[.int .i64 f0,.int .i64 f1] 26)).alloc (.cells #[.int .i64 0,.int .i64 0] 26)) w.heap.size #[.int .i64 f0,.int .i64 f1]:=(Bk.new w _ _).alloc _
 have q1:Bk ((w.alloc (.cells #[.int .i64 f0,.int .i64 f1] 26)).alloc (.cells #[.int .i64 0,.int .i64 0] 26)) (w.heap.size+1) #[.int .i64 0,.int .i64 0]:=by simpa using Bk.new (w.alloc (.cells #[.int .i64 f0,.int .i64 f1] 26)) 26 #[.int .i64 0,.int .i64 0]
 go_enter func234,Tryz.ntmps234
 go_wp2
 go_loopw [9] (fun i wr=>∃ (k:Nat) (m0 m1:Int),k≤n∧i=.int .i64 k∧Hid (meetL (f0,f1) (l.take k)=(m0,m1))∧Bk wr w.heap.size #[.int .i64 m0,.int .i64 m1]∧Bk wr (w.heap.size+1) #[.int .i64 0,.int .i64 0]∧Below w.heap.size w wr) (fun i _=>n - (intOf i).toNat)
 case atStart=>exact ⟨0,f0,f1,Nat.zero_le _,rfl,rfl,q0,q1,by (repeat' (first | (with_reducible exact Below.refl _ _) | (with_reducible refine Below.alloc ?_ ?_ _) | (with_reducible refine Below.setCell ?_ ?_ _) | (with_reducible refine Below.drew ?_) | ((with_reducible refine Below.trans ?_ (Below.mono (by assumption) ?_))) | go_size))⟩
 case round =>
  clear q0 q1
  obtain ⟨k,m0,m1,hk,rfl,he,q0,q1,hb⟩:=hrel
  have hz:=q0.lt
  have hz1:=q1.lt
  have c0:=q0.cell
  have c1:=q1.cell
  have g0:=q0.frozen
  have g1:=q1.frozen
  by_cases hlt:k < n
  ·obtain ⟨b,o,x0,x1,rfl,hbb,hd,d0,d1⟩:=(HR.out.below hb).at2 hlt
   have HD:=Lib.hid hd
   clear hd
   have hb1:b < wr.heap.size:=by omega
   go_wp2
   go_roundw
   case rel=>exact ⟨k+1,_,_,by omega,by go_num,by (show meetL _ _=_;rw [meetL_snoc _ _ _ _ _ HD.out,he.out];try rfl),by first | exact q0.put2.alloc _ | exact (q0.alloc _).put2,by first | exact ((q1.far (by simp) _).far (by simp) _).alloc _ | exact ((q1.alloc _).far (by simp) _).far (by simp) _,by (repeat' (first | (with_reducible exact Below.refl _ _) | (with_reducible refine Below.alloc ?_ ?_ _) | (with_reducible refine Below.setCell ?_ ?_ _) | (with_reducible refine Below.drew ?_) | ((with_reducible refine Below.trans ?_ (Below.mono (by assumption) ?_))) | go_size))⟩
   case measure=>simp [intOf];omega
  ·go_wp2
   refine ret_blk 4 26 (by rfl) (by rfl) _ (by rfl) _ q1.put2 _ underlying26 (by rfl) (by kernel_rfl) ?_
   have e:l.take k=l:=List.take_of_length_le (by have:=HL.out;omega)
   have he:=he.out
   rw [e] at he
   rw [he]
   exact ⟨rfl,by (repeat' (first | (with_reducible exact Below.refl _ _) | (with_reducible refine Below.alloc ?_ ?_ _) | (with_reducible refine Below.setCell ?_ ?_ _) | (with_reducible refine Below.drew ?_) | ((with_reducible refine Below.trans ?_ (Below.mono (by assumption) ?_))) | go_size))⟩
def strictL (wi:Int) (l:List (Int×Int)):List (Int×Int):=l.map fun s=>(-wi - s.1,wi - s.2)
def looseL (wi:Int) (l:List (Int×Int)):List (Int×Int):=l.map fun s=>(-wi - s.2,wi - s.1)
def winOf (wi:Int):List (Int×Int)→Int×Int
 | []=>(-wi,wi)
 | f::r=>meetL f r
def winS (j:Jb):Int×Int:=winOf j.wi (strictL j.wi j.sh)
def winL (j:Jb):Int×Int:=winOf j.wi (looseL j.wi j.sh)
structure Jb.ok (j:Jb):Prop where
 wi : -1000≤j.wi∧j.wi≤1000
 sh:∀ p∈j.sh,-1000≤p.1∧p.1≤1000∧-1000≤p.2∧p.2≤1000
 few:j.sh.length≤4
theorem windows_nil (j:Jb) (A:Option Addr) (c:Nat) (w:World) (hj:j.ok) (hs:j.sh=[]) :
   Calls prog 205 #[jobV j A c] w fun e w'=>e=.returned (.tuple #[R2 (winS j).1 (winS j).2,R2 (winL j).1 (winL j).2])∧Below w.heap.size w w':=by
 obtain ⟨p0,p1,t0,t1,r0,r1,u0,u1,d0,d1,a0,a1,b0,b1,le,sh,wi,me⟩:=j
 simp only at hs
 subst hs
 have hw:=hj.wi
 simp only at hw
 clear hj
 go_enter func205,Tryz.ntmps205
 go_wp2
 refine wp_region_G (fun L W=>Bk W (w.heap.size+3) #[.int .i64 (-wi),.int .i64 wi]∧(L.getD 2 true=false→Bk W (w.heap.size+1) #[.int .i64 0,.int .i64 0])∧(L.getD 2 true=true→Bk W (w.heap.size+1) #[.int .i64 (-wi),.int .i64 wi])∧(L.getD 3 true=false→Bk W (w.heap.size+2) #[.int .i64 0,.int .i64 0])∧(L.getD 3 true=true→Bk W (w.heap.size+2) #[.int .i64 (-wi),.int .i64 wi])∧Below w.heap.size w W) 4 (by kernel_rfl) (by kernel_rfl) ?s0 ?r0
 case s0=>(exact ⟨by (repeat' (first | (with_reducible refine Bk.drew ?_) | ((with_reducible refine Bk.newAt _ _ _ _ ?_);(simp;done)) | (with_reducible refine Bk.alloc ?_ _))),fun _=>by (repeat' (first | (with_reducible refine Bk.drew ?_) | ((with_reducible refine Bk.newAt _ _ _ _ ?_);(simp;done)) | (with_reducible refine Bk.alloc ?_ _))),fun h=>(no_of h (by kernel_rfl)).elim,fun _=>by (repeat' (first | (with_reducible refine Bk.drew ?_) | ((with_reducible refine Bk.newAt _ _ _ _ ?_);(simp;done)) | (with_reducible refine Bk.alloc ?_ _))),fun h=>(no_of h (by kernel_rfl)).elim,by (repeat' (first | (with_reducible exact Below.refl _ _) | (with_reducible refine Below.alloc ?_ ?_ _) | (with_reducible refine Below.setCell ?_ ?_ _) | (with_reducible refine Below.drew ?_) | ((with_reducible refine Below.trans ?_ (Below.mono (by assumption) ?_))) | go_size))⟩)
 intro W0
 refine wpG_take (i:=0) (v:=?v1) Z (by kernel_rfl) (by intro L w;simp only [getD_set_ne true (show (0:Nat)≠2 from by decide),getD_set_ne true (show (0:Nat)≠3 from by decide)]) (fun _ _ _ h=>h) (Or.inl ⟨by rfl,?y1⟩) ?r1
 case y1=>(intro w' hy;obtain ⟨L,hD,hl,hS⟩:=hy;have qc:=hS.1.cell;clear hS hD hl;go_simp;(try with_reducible rfl))
 (try simp only [Act.put,Zz3,Zz4,Zz5,Zz6,Zz7,Zz8])
 refine wpG_take (i:=1) (v:=?v2) Z (by kernel_rfl) (by intro L w;simp only [getD_set_ne true (show (1:Nat)≠2 from by decide),getD_set_ne true (show (1:Nat)≠3 from by decide)]) (fun _ _ _ h=>h) (Or.inl ⟨by rfl,?y2⟩) ?r2
 case y2=>(intro w' hy;obtain ⟨L,hD,hl,hS⟩:=hy;have qc:=hS.1.cell;clear hS hD hl;go_simp;(try with_reducible rfl))
 (try simp only [Act.put,Zz3,Zz4,Zz5,Zz6,Zz7,Zz8])
 refine wpG_step (i:=2) (by kernel_rfl) Z (by rfl) ?r3
 intro hS K hK
 (have h4:=hS.1;have h1:=hS.2.1 (by kernel_rfl);have h2:=hS.2.2.2.1 (by kernel_rfl);have hb:=hS.2.2.2.2.2;clear hS;have qc:=h1.cell;have qf:=h1.frozen;go_simp;refine hK.out _ _ ⟨h4.far2 (by omega),fun h=>(no_of (by kernel_rfl) h).elim,fun _=>h1.put2,fun _=>h2.far2 (by omega),fun h=>(no_of h (by kernel_rfl)).elim,bl_set2 hb (by omega)⟩ ?_;clear h4 h1 h2 hb qc qf)
 clear hK K;intro W3
 (try simp only [Act.put,Zz3,Zz4,Zz5,Zz6,Zz7,Zz8])
 refine wpG_step (i:=3) (by kernel_rfl) Z (by rfl) ?r4
 intro hS K hK
 (have h4:=hS.1;have h1:=hS.2.2.1 (by kernel_rfl);have h2:=hS.2.2.2.1 (by kernel_rfl);have hb:=hS.2.2.2.2.2;clear hS;have qc:=h2.cell;have qf:=h2.frozen;go_simp;refine hK.out _ _ ⟨h4.far2 (by omega),fun h=>(no_of (by kernel_rfl) h).elim,fun _=>h1.far2 (by omega),fun h=>(no_of (by kernel_rfl) h).elim,fun _=>h2.put2,bl_set2 hb (by omega)⟩ ?_;clear h4 h1 h2 hb qc qf)
 clear hK K;intro W4
 (try simp only [Act.put,Zz3,Zz4,Zz5,Zz6,Zz7,Zz8])
 refine wpG_end (by kernel_rfl) ?_
 intro W
  hS
 go_wp2
 refine ret_blk2 2 3 26 26 (by rfl) (by rfl) _ _ (by rfl) (by rfl) _ _ (hS.2.2.1 (by kernel_rfl)) (hS.2.2.2.2.1 (by kernel_rfl)) _ _ underlying26 (by rfl) (by kernel_rfl) underlying26 (by rfl) (by kernel_rfl) ?_
 exact ⟨rfl,hS.2.2.2.2.2⟩
theorem Tryz.infoRangeW:(prog.info? 26).map (fun i=>(i.zero,i.size,i.bytes))=some (some (.agg #[.int .i64 0,.int .i64 0]),2,16):=by kernel_rfl
theorem rc_take_succ (l:List (Int×Int)) (k:Nat) (x0 x1:Int) (h:l.drop k=(x0,x1)::l.drop (k+1)):rc (l.take (k+1))=rc (l.take k)++[.int .i64 x0,.int .i64 x1]:=by
 have hk:k < l.length:=by
  rcases Nat.lt_or_ge k l.length with h' | h'
  ·exact h'
  ·rw [List.drop_of_length_le h'] at h;cases h
 rw [List.drop_eq_getElem_cons hk] at h
 injection h with h _
 rw [List.take_succ_eq_append_getElem hk,rc_append,h]
 rfl
theorem map_drop_cons {f:Int×Int→Int×Int} {l:List (Int×Int)} {k:Nat} {x:Int×Int} (h:l.drop k=x::l.drop (k+1)):(l.map f).drop k=f x::(l.map f).drop (k+1):=by
 rw [← List.map_drop,h,List.map_cons,List.map_drop]
def WRel (j:Jb) (A:Option Addr) (c:Nat) (w:World) (v5 v6 i:Value) (wr:World):Prop :=
 ∃ k:Nat,k≤j.sh.length∧i=.int .i64 k∧wr.ownsRow (w.heap.size+4) 26 2 v5 k (rc ((strictL j.wi j.sh).take k))∧wr.ownsRow (w.heap.size+4) 26 2 v6 k (rc ((looseL j.wi j.sh).take k)) ∧
  (v5.ownBlock=none∨v5.ownBlock≠v6.ownBlock)∧(v6.ownBlock=none∨v6.ownBlock≠v5.ownBlock) ∧
  Bk wr (w.heap.size+1) #[.int .i64 0,.int .i64 0]∧Bk wr (w.heap.size+2) #[.int .i64 0,.int .i64 0]∧Bk wr (w.heap.size+3) #[.int .i64 (-j.wi),.int .i64 j.wi]∧Below w.heap.size w wr
section
variable {w wr w5 w6:World} {T k m:Nat} {v5 v6:Value} {xs ys:List Value} {z m3 cx:Array Value} {H:Nat} {Y Z:Obj}
theorem own_ne {g:Nat} (o5:wr.ownsRow (H+4) T 2 v5 k xs) (hg:g < H+4):some g≠v5.ownBlock:=fun e=>by have:=(o5.lt g e.symm).1;omega
theorem own_ne' {g:Nat} (o5:wr.ownsRow (H+4) T 2 v5 k xs) (hg:wr.heap.size≤g):some g≠v5.ownBlock:=fun e=>by have:=(o5.lt g e.symm).2;omega
theorem wmid (o5:wr.ownsRow (H+4) T 2 v5 k xs) (o6:wr.ownsRow (H+4) T 2 v6 k ys) (n6:v6.ownBlock=none∨v6.ownBlock≠v5.ownBlock)
  (b1:Bk wr (H+1) z) (b2:Bk wr (H+2) z) (b3:Bk wr (H+3) m3) (hb:Below H w wr) (gr:((wr.alloc (.cells cx T)).alloc Y).grownBy w5 v5.ownBlock) :
  w5.ownsRow (H+4) T 2 v6 k ys∧Bk w5 (H+1) z∧Bk w5 (H+2) z∧Bk w5 (H+3) m3∧Bk w5 wr.heap.size cx∧Below H w w5∧wr.heap.size+2≤w5.heap.size:=by
 have hl:=b3.lt
 have hs:=gr.size
 simp only [World.size_alloc] at hs
 refine ⟨((o6.alloc _).alloc _).kept gr n6,((b1.alloc _).alloc _).grown gr (own_ne o5 (by omega)),((b2.alloc _).alloc _).grown gr (own_ne o5 (by omega)),((b3.alloc _).alloc _).grown gr (own_ne o5 (by omega)),
  ((Bk.new wr T cx).alloc _).grown gr (own_ne' o5 (Nat.le_refl _)),?_,hs⟩
 exact Below.grown ((hb.alloc (by omega) _).alloc (by simp;omega) _) gr (by simp;omega) (fun g hg=>by have:=(o5.lt g hg).1;omega)
theorem wend (o5:wr.ownsRow (H+4) T 2 v5 k xs) (o6':wr.ownsRow (H+4) T 2 v6 k ys) (n6:v6.ownBlock=none∨v6.ownBlock≠v5.ownBlock) (o6:w5.ownsRow (H+4) T 2 v6 k ys) {g5 c5:Nat} {xs':List Value}
  (p5:w5.ownsRow (H+4) T 2 (.slice (some ⟨g5,0,none⟩) (k+1) c5) (k+1) xs') (at5:v5.ownBlock=some g5∨g5=wr.heap.size+2)
  (b1:Bk w5 (H+1) z) (b2:Bk w5 (H+2) z) (b3:Bk w5 (H+3) m3) (hb:Below H w w5) (gr:(w5.alloc Z).grownBy w6 v6.ownBlock) {g6:Nat} (at6:v6.ownBlock=some g6∨g6=w5.heap.size+1) :
  w6.ownsRow (H+4) T 2 (.slice (some ⟨g5,0,none⟩) (k+1) c5) (k+1) xs'∧g5≠g6∧Bk w6 (H+1) z∧Bk w6 (H+2) z∧Bk w6 (H+3) m3∧Below H w w6:=by
 have hl:=b3.lt
 have hlt:=(p5.lt g5 rfl).2
 have hne:some g5≠v6.ownBlock:=fun e=>by
  rcases at5 with h | h
  ·rcases n6 with h' | h'
   ·rw [h'] at e;cases e
   ·exact h' (by rw [h,e])
  ·have:=(o6'.lt g5 e.symm).2;omega
 refine ⟨(p5.alloc _).kept gr (.inr hne),?_,(b1.alloc _).grown gr (own_ne o6 (by omega)),(b2.alloc _).grown gr (own_ne o6 (by omega)),(b3.alloc _).grown gr (own_ne o6 (by omega)),?_⟩
 ·rintro rfl
  rcases at6 with h | h
  ·exact hne h.symm
  ·omega
 ·exact Below.grown (hb.alloc (by omega) _) gr (by simp;omega) (fun g hg=>by have:=(o6.lt g hg).1;omega)
end
set_option maxHeartbeats 2000000 in
theorem windows_cons (j:Jb) (A:Option Addr) (c:Nat) (w:World) (hj:j.ok) (hs:j.sh≠[]) (hr:Rd w w.heap.size 2 A j.sh.length (rc j.sh)) :
   Calls prog 205 #[jobV j A c] w fun e w'=>e=.returned (.tuple #[R2 (winS j).1 (winS j).2,R2 (winL j).1 (winL j).2])∧Below w.heap.size w w':=by
 have hw:=hj.wi
 have hfew:=hj.few
 have HJ:=Lib.hid hj
 have HR:=Lib.hid hr
 have hpos:0 < j.sh.length:=List.length_pos_iff.2 hs
 have e0:(((j.sh.length:Int)) == 0)=false:=by simpa using hs
 have e1:((j.sh.length) == 0)=false:=by simpa using hs
 obtain ⟨s0,s1,sr,l0,l1,lr,hS,hL⟩:∃ s0 s1 sr l0 l1 lr,strictL j.wi j.sh=(s0,s1)::sr∧looseL j.wi j.sh=(l0,l1)::lr:=by
   cases hq:j.sh with
   | nil=>exact absurd hq hs
   | cons p r=>exact ⟨_,_,_,_,_,_,rfl,rfl⟩
 have HS:=Lib.hid hS
 have HL:=Lib.hid hL
 clear hj hr hs hS hL
 obtain ⟨i0,hi,hz0,hz1,hz2⟩:=info_parts Tryz.infoRangeW
 have HI:=Lib.hid hi
 have HZ0:=Lib.hid hz0
 have HZ1:=Lib.hid hz1
 have HZ2:=Lib.hid hz2
 clear hi hz0 hz1 hz2
 go_enter func205,Tryz.ntmps205
 go_wp2
 go_loopw [5,6,24] (fun v5 v6 i wr=>WRel j A c w v5 v6 i wr) (fun _ _ i _=>j.sh.length - (intOf i).toNat)
 case atStart=>exact ⟨0,Nat.zero_le _,rfl,⟨rfl,.inl ⟨rfl,rfl⟩⟩,⟨rfl,.inl ⟨rfl,rfl⟩⟩,.inl rfl,.inl rfl,by (repeat' (first | (with_reducible refine Bk.drew ?_) | ((with_reducible refine Bk.newAt _ _ _ _ ?_);(simp;done)) | (with_reducible refine Bk.alloc ?_ _))),by (repeat' (first | (with_reducible refine Bk.drew ?_) | ((with_reducible refine Bk.newAt _ _ _ _ ?_);(simp;done)) | (with_reducible refine Bk.alloc ?_ _))),by (repeat' (first | (with_reducible refine Bk.drew ?_) | ((with_reducible refine Bk.newAt _ _ _ _ ?_);(simp;done)) | (with_reducible refine Bk.alloc ?_ _))),by (repeat' (first | (with_reducible exact Below.refl _ _) | (with_reducible refine Below.alloc ?_ ?_ _) | (with_reducible refine Below.setCell ?_ ?_ _) | (with_reducible refine Below.drew ?_) | ((with_reducible refine Below.trans ?_ (Below.mono (by assumption) ?_))) | go_size))⟩
 case round =>
   obtain ⟨k,hk,rfl,o5,o6,n5,n6,b1,b2,b3,hb⟩:=hrel
   have hz:=b3.lt
   have c3:=b3.cell
   by_cases hlt:k < j.sh.length
   · obtain ⟨b,o,x0,x1,rfl,hbb,hd,d0,d1⟩:=(HR.out.below hb).at2 hlt
     have HD:=Lib.hid hd
     have hx := HJ.out.sh (x0, x1) (by have : (x0, x1) ∈ j.sh.drop k := by rw [hd]; simp
                                       exact List.mem_of_mem_drop this)
     simp only at hx
     clear hd
     have hb1:b < wr.heap.size:=by omega
     have b4:Bk (wr.alloc (.cells #[.int .i64 x0,.int .i64 x1] 26)) wr.heap.size #[.int .i64 x0,.int .i64 x1]:=Bk.new _ _ _
     have n1:=Bk.new1 wr (.cells #[.int .i64 x0,.int .i64 x1] 26) 26 #[.int .i64 (-j.wi - x0),.int .i64 (j.wi - x1)]
     go_wp2_with (at_builtin;first
       | ((refine wpList_app1 (by rfl) (.tmp 28) (.tmp 40) 57 (by rfl) (w.heap.size+4) 26 i0 _ 16 underlying57 HI.out HZ0.out #[.int .i64 (-j.wi - x0),.int .i64 (j.wi - x1)] HZ1.out HZ2.out (by rfl) (by simp) _ _ _ (by rfl) ((o5.alloc _).alloc _) _ _ (by rfl) n1 (by simp [Value.oneCell']) (by omega) (by omega) (by simp;omega) ?_);intro g5 cap5 w5 p5 gr5 at5 lt5;obtain ⟨o6',b1',b2',b3',b4',hb',hz'⟩:=wmid o5 o6 n6 b1 b2 b3 hb gr5;clear d0 d1 c3;have c3:=b3'.cell;have c4:=b4'.cell;have l3:=b3'.lt)
       | ((refine wpList_app1 (by rfl) (.tmp 42) (.tmp 54) 57 (by rfl) (w.heap.size+4) 26 i0 _ 16 underlying57 HI.out HZ0.out #[.int .i64 (-j.wi - x1),.int .i64 (j.wi - x0)] HZ1.out HZ2.out (by rfl) (by simp) _ _ _ (by rfl) (o6'.alloc _) _ _ (by rfl) (Bk.new _ _ _) (by simp [Value.oneCell']) (by omega) (by omega) (by simp;omega) ?_);intro g6 cap6 w6 p6 gr6 at6 lt6))
     simp only [World.size_alloc] at at5 at6
     obtain ⟨q5,hne,q1,q2,q3,hb6⟩:=wend o5 o6 n6 o6' p5 at5 b1' b2' b3' hb' gr6 at6
     go_roundw
     case rel=>exact ⟨k+1,by omega,by go_num,by rw [rc_take_succ _ _ _ _ (map_drop_cons HD.out)];exact q5,by rw [rc_take_succ _ _ _ _ (map_drop_cons HD.out)];exact p6,.inr (by simpa [Value.ownBlock] using hne),.inr (by simpa [Value.ownBlock] using (Ne.symm hne)),q1,q2,q3,hb6⟩
     case measure=>simp [intOf];omega
   · obtain rfl:k=j.sh.length:=by omega
     rw [List.take_of_length_le (by simp [strictL])] at o5
     rw [List.take_of_length_le (by simp [looseL])] at o6
     obtain ⟨g5,c5,rfl,hc5,hm5,hg5,hl5,hr5⟩:=own_form o5 hpos
     obtain ⟨g6,c6,rfl,hc6,hm6,hg6,hl6,hr6⟩:=own_form o6 hpos
     go_wp2
     have hu5:wr.cell? ⟨g5,0,none⟩=some (.int .i64 s0):=hr5 0 _ (by rw [HS.out];rfl)
     have hv5:wr.cell? ⟨g5,1,none⟩=some (.int .i64 s1):=hr5 1 _ (by rw [HS.out];rfl)
     have hu6:wr.cell? ⟨g6,0,none⟩=some (.int .i64 l0):=hr6 0 _ (by rw [HL.out];rfl)
     have hv6:wr.cell? ⟨g6,1,none⟩=some (.int .i64 l1):=hr6 1 _ (by rw [HL.out];rfl)
     have hn1:(1:Int)≤(j.sh.length:Int):=by omega
     have hc51:(j.sh.length:Int)≤(c5:Int):=by omega
     have hc61:(j.sh.length:Int)≤(c6:Int):=by omega
     refine wp_region_G (fun L W=>Ex wr W (fun b=>b≠w.heap.size+1∧b≠w.heap.size+2)∧(L.getD 12 true=false→Bk W (w.heap.size+1) #[.int .i64 0,.int .i64 0])∧(L.getD 12 true=true→Bk W (w.heap.size+1) #[.int .i64 (meetL (s0,s1) sr).1,.int .i64 (meetL (s0,s1) sr).2])∧(L.getD 13 true=false→Bk W (w.heap.size+2) #[.int .i64 0,.int .i64 0])∧(L.getD 13 true=true→Bk W (w.heap.size+2) #[.int .i64 (meetL (l0,l1) lr).1,.int .i64 (meetL (l0,l1) lr).2])∧Below w.heap.size w W) 14 (by kernel_rfl) (by kernel_rfl) ?s0 ?r0
     case s0=>(exact ⟨(Ex.refl _ _).drew,fun _=>b1.drew,fun h=>(no_of h (by kernel_rfl)).elim,fun _=>b2.drew,fun h=>(no_of h (by kernel_rfl)).elim,hb.drew⟩)
     intro W0
     refine ZT 0 Z ?r1
     (try simp only [Act.put,Zz3,Zz4,Zz5,Zz6,Zz7,Zz8])
     refine ZT 1 Z ?r2
     (try simp only [Act.put,Zz3,Zz4,Zz5,Zz6,Zz7,Zz8])
     refine wpG_take (i:=2) (v:=?v3) Z (by kernel_rfl) (by intro L w;simp only [getD_set_ne true (show (2:Nat)≠12 from by decide),getD_set_ne true (show (2:Nat)≠13 from by decide)]) (fun _ _ _ h=>h) (Or.inl ⟨by rfl,?y3⟩) ?r3
     case y3=>(intro w' hy;obtain ⟨L,hD,hl,hS⟩:=hy;have x5:=hS.1.cell (g:=g5) hl5 ⟨by omega,by omega⟩;have x6:=hS.1.cell (g:=g6) hl6 ⟨by omega,by omega⟩;clear hS hD hl;go_simp;(try with_reducible rfl))
     (try simp only [Act.put,Zz3,Zz4,Zz5,Zz6,Zz7,Zz8])
     refine ZT 3 Z ?r4
     (try simp only [Act.put,Zz3,Zz4,Zz5,Zz6,Zz7,Zz8])
     refine ZT 4 Z ?r5
     (try simp only [Act.put,Zz3,Zz4,Zz5,Zz6,Zz7,Zz8])
     refine ZT 6 Z ?r6
     (try simp only [Act.put,Zz3,Zz4,Zz5,Zz6,Zz7,Zz8])
     refine ZT 7 Z ?r7
     (try simp only [Act.put,Zz3,Zz4,Zz5,Zz6,Zz7,Zz8])
     refine wpG_take (i:=8) (v:=?v8) Z (by kernel_rfl) (by intro L w;simp only [getD_set_ne true (show (8:Nat)≠12 from by decide),getD_set_ne true (show (8:Nat)≠13 from by decide)]) (fun _ _ _ h=>h) (Or.inl ⟨by rfl,?y8⟩) ?r8
     case y8=>(intro w' hy;obtain ⟨L,hD,hl,hS⟩:=hy;have x5:=hS.1.cell (g:=g5) hl5 ⟨by omega,by omega⟩;have x6:=hS.1.cell (g:=g6) hl6 ⟨by omega,by omega⟩;clear hS hD hl;go_simp;(try with_reducible rfl))
     (try simp only [Act.put,Zz3,Zz4,Zz5,Zz6,Zz7,Zz8])
     refine ZT 9 Z ?r9
     (try simp only [Act.put,Zz3,Zz4,Zz5,Zz6,Zz7,Zz8])
     refine ZT 10 Z ?r10
     (try simp only [Act.put,Zz3,Zz4,Zz5,Zz6,Zz7,Zz8])
     refine wpG_step (i:=5) (by kernel_rfl) Z (by rfl) ?r11
     intro hS K hK
     (have hx:=hS.1;have h1:=hS.2.1 (by kernel_rfl);have h2:=hS.2.2.2.1 (by kernel_rfl);have hbb:=hS.2.2.2.2.2;clear hS;go_simp;refine (meet_any s0 s1 _ _ _ sr _ (rd_cut (p:=(s0,s1)) (by rw [← HS.out];exact hx.range hr5 hl5 ⟨by omega,by omega⟩) (Nat.lt_of_lt_of_le hl5 hx.size) (by have:=congrArg List.length HS.out;simpa [strictL] using this) hc5) (by omega)).mono ?_;rintro e V5 ⟨rfl,hb1⟩;refine hK.out _ _ ⟨hx.below hb1,fun _=>h1.below hb1,fun h=>(no_of h (by kernel_rfl)).elim,fun _=>h2.below hb1,fun h=>(no_of h (by kernel_rfl)).elim,bl_trans hbb hb1 hbb.size⟩ ?_;clear hx h1 h2 hbb hb1)
     clear hK K;intro W11
     (try simp only [Act.put,Zz3,Zz4,Zz5,Zz6,Zz7,Zz8])
     refine wpG_step (i:=11) (by kernel_rfl) Z (by rfl) ?r12
     intro hS K hK
     (have hx:=hS.1;have h1:=hS.2.1 (by kernel_rfl);have h2:=hS.2.2.2.1 (by kernel_rfl);have hbb:=hS.2.2.2.2.2;clear hS;go_simp;refine (meet_any l0 l1 _ _ _ lr _ (rd_cut (p:=(l0,l1)) (by rw [← HL.out];exact hx.range hr6 hl6 ⟨by omega,by omega⟩) (Nat.lt_of_lt_of_le hl6 hx.size) (by have:=congrArg List.length HL.out;simpa [looseL] using this) hc6) (by omega)).mono ?_;rintro e V6 ⟨rfl,hb1⟩;refine hK.out _ _ ⟨hx.below hb1,fun _=>h1.below hb1,fun h=>(no_of h (by kernel_rfl)).elim,fun _=>h2.below hb1,fun h=>(no_of h (by kernel_rfl)).elim,bl_trans hbb hb1 hbb.size⟩ ?_;clear hx h1 h2 hbb hb1)
     clear hK K;intro W12
     (try simp only [Act.put,Zz3,Zz4,Zz5,Zz6,Zz7,Zz8])
     refine wpG_step (i:=12) (by kernel_rfl) Z (by rfl) ?r13
     intro hS K hK
     (have hx:=hS.1;have h1:=hS.2.1 (by kernel_rfl);have h2:=hS.2.2.2.1 (by kernel_rfl);have hbb:=hS.2.2.2.2.2;clear hS;have qc:=h1.cell;have qf:=h1.frozen;go_simp;refine hK.out _ _ ⟨hx.set2 (by omega),fun h=>(no_of (by kernel_rfl) h).elim,fun _=>h1.put2,fun _=>h2.far2 (by omega),fun h=>(no_of h (by kernel_rfl)).elim,bl_set2 hbb (by omega)⟩ ?_;clear hx h1 h2 hbb qc qf)
     clear hK K;intro W13
     (try simp only [Act.put,Zz3,Zz4,Zz5,Zz6,Zz7,Zz8])
     refine wpG_step (i:=13) (by kernel_rfl) Z (by rfl) ?r14
     intro hS K hK
     (have hx:=hS.1;have h1:=hS.2.2.1 (by kernel_rfl);have h2:=hS.2.2.2.1 (by kernel_rfl);have hbb:=hS.2.2.2.2.2;clear hS;have qc:=h2.cell;have qf:=h2.frozen;go_simp;refine hK.out _ _ ⟨hx.set2 (by omega),fun h=>(no_of (by kernel_rfl) h).elim,fun _=>h1.far2 (by omega),fun h=>(no_of (by kernel_rfl) h).elim,fun _=>h2.put2,bl_set2 hbb (by omega)⟩ ?_;clear hx h1 h2 hbb qc qf)
     clear hK K;intro W14
     (try simp only [Act.put,Zz3,Zz4,Zz5,Zz6,Zz7,Zz8])
     refine wpG_end (by kernel_rfl) ?_
     intro W
      hS
     go_wp2
     all_goals
       refine ret_blk2 2 3 26 26 (by rfl) (by rfl) _ _ (by rfl) (by rfl) _ _ (hS.2.2.1 (by kernel_rfl)) (hS.2.2.2.2.1 (by kernel_rfl)) _ _ underlying26 (by rfl) (by kernel_rfl) underlying26 (by rfl) (by kernel_rfl) ?_
       refine ⟨?_,hS.2.2.2.2.2⟩
       unfold winS winL
       rw [HS.out,HL.out]
       rfl
theorem windows_any (j:Jb) (A:Option Addr) (c:Nat) (w:World) (hj:j.ok) (hr:Rd w w.heap.size 2 A j.sh.length (rc j.sh)) :
  Calls prog 205 #[jobV j A c] w fun e w'=>e=.returned (.tuple #[R2 (winS j).1 (winS j).2,R2 (winL j).1 (winL j).2])∧Below w.heap.size w w':=by
 by_cases hs:j.sh=[]
 ·exact windows_nil j A c w hj hs
 ·exact windows_cons j A c w hj hs hr
open Go.RowKit
open Go.RowKit
theorem within_of {n lo hi:Int} (h:withinB n lo hi=true):lo≤n∧n≤hi:=by unfold withinB at h;simpa using h
theorem chkR_of {x0 x1 lo hi:Int} (h:chkR x0 x1 lo hi=0):lo≤x0∧x0≤x1∧x1≤hi:=by
 unfold chkR at h
 split at h
 ·rename_i h1
  have a:=within_of h1.1
  have b:=within_of h1.2
  split at h
  ·omega
  ·omega
 ·omega
theorem chkAll_of {lo hi:Int}:∀ {l:List (Int×Int)},chkAll lo hi l=0→∀ p∈l,lo≤p.1∧p.1≤p.2∧p.2≤hi:=by
 intro l
 induction l with
 | nil=>intro _ p hp;cases hp
 | cons q r ih =>
  intro h p hp
  unfold chkAll at h
  split at h
  ·rename_i h1;rw [h] at h1;simp at h1
  ·rename_i h1
   have h0:chkR q.1 q.2 lo hi=0:=by simpa using h1
   rcases Zx7.1 hp with rfl | hp
   ·exact chkR_of h0
   ·exact ih h p hp
structure Jb.good (j:Jb):Prop where
 p : -60≤j.p0∧j.p0≤j.p1∧j.p1≤60
 t:0≤j.t0∧j.t0≤j.t1∧j.t1≤100
 r:0≤j.r0∧j.r0≤j.r1∧j.r1≤100
 u:0≤j.u0∧j.u0≤j.u1∧j.u1≤12
 d:0≤j.d0∧j.d0≤j.d1∧j.d1≤12
 a:0≤j.a0∧j.a0≤j.a1∧j.a1≤12
 b:0≤j.b0∧j.b0≤j.b1∧j.b1≤12
 le:0≤j.le∧j.le≤100
 few:j.sh.length≤4
 sh:∀ p∈j.sh,-60≤p.1∧p.1≤p.2∧p.2≤60
 wi:0≤j.wi∧j.wi≤60
 me:0≤j.me∧j.me≤6
theorem bne_no {n:Int} (h : ¬ (n != 0)=true):n=0:=by simpa using h
theorem good_of {j:Jb} (h:checkJ j=0):j.good:=by
 unfold checkJ at h
 split at h
 · rename_i h1;rw [h] at h1;simp at h1
 rename_i h1
 split at h
 · rename_i h2;rw [h] at h2;simp at h2
 rename_i h2
 split at h
 · rename_i h3;rw [h] at h3;simp at h3
 rename_i h3
 split at h
 · omega
 rename_i h4
 split at h
 · omega
 rename_i h5
 split at h
 · rename_i h6;rw [h] at h6;simp at h6
 rename_i h6
 split at h
 · omega
 rename_i h7
 have e1:=chkR_of (bne_no h1)
 have e2:=chkAll_of (bne_no h2)
 have e3:=chkAll_of (bne_no h3)
 have e6:=chkAll_of (bne_no h6)
 have e4:=within_of (by simpa using h4:withinB j.le 0 100=true)
 simp only [not_or,Bool.not_eq_true',Bool.not_eq_false] at h7
 have e7:=within_of h7.1
 have e8:=within_of h7.2
 exact ⟨e1,e2 (j.t0,j.t1) (by simp),e2 (j.r0,j.r1) (by simp),e3 (j.u0,j.u1) (by simp),e3 (j.d0,j.d1) (by simp),e3 (j.a0,j.a1) (by simp),e3 (j.b0,j.b1) (by simp),e4,by omega,e6,e7,e8⟩
theorem Jb.good.ok {j:Jb} (h:j.good):j.ok:=by
 have:=h.wi
 exact ⟨by omega,fun p hp=>by have:=h.sh p hp;omega,h.few⟩
theorem Mem.nee {w0 w:World} {ex:Nat→Prop} {L:List (Nat×BA)} {g g':Nat} {p p':BA} (M:Mem w0 ex w L) (i j:Nat) (h1:nthE L i=some (g,p)) (h2:nthE L j=some (g',p')) (hij:Nat.beq i j=false):∀ b o,(some ⟨g,0,none⟩:Option Addr)=some ⟨b,o,none⟩→b≠g':=by
 intro b o e hb
 injection e with e
 injection e with e _ _
 subst e
 subst hb
 have b1:(L.map (·.1))[i]? = some g:=by rw [List.getElem?_map,nthE_get h1];rfl
 have b2:(L.map (·.1))[j]? = some g:=by rw [List.getElem?_map,nthE_get h2];rfl
 have:=(List.getElem?_inj (List.getElem?_eq_some_iff.1 b1).1 M.nd).1 (b1.trans b2.symm)
 subst this
 simp at hij
theorem Sp.oldEx {w:World} {size n bp:Nat} {A:Option Addr} {xs:List Value} (h:Rd w w.heap.size size A n xs) (hne:∀ b o,A=some ⟨b,o,none⟩→b≠bp):∃ b o,Sp w (fun b=>b=bp) [] A n size b o xs:=by
 rcases Nat.eq_zero_or_pos n with rfl | hn
 ·refine ⟨0,0,by omega,h.1,fun _ _ _ _ h=>absurd h (by omega),fun _ _ _ _ j u hu=>?_⟩
  have:xs=[]:=List.eq_nil_of_length_eq_zero (by have:=h.1;omega)
  simp [this] at hu
 ·obtain ⟨b,o,h1,h2,h3⟩:=h.2 hn
  exact ⟨b,o,fun _=>h1,h.1,fun w' L M _ _=>Nat.lt_of_lt_of_le h2 M.size,fun w' L M _ j u hu=>(World.cell?_of_block (w:=w) (a:=⟨b,o+j,none⟩) (M.block b h2 (hne b o h1))).trans (h3 j u hu)⟩
theorem ow_app {P : Program} {op : Oper} {a : Act} {K : Act → World → Prop} {Q : Exit → Act → World → Prop} {s x : Operand} {ty e size bytes b c m nn t' : Nat} {z : Value} {cs xs : List Value} {v : Value} {w0 w : World} {ex : Nat → Prop} {L0 I : List (Nat × BA)} {E : List (Nat × Value)} (L1 : List (Nat × BA))
   (hinfo:(P.info? e).map (fun i=>(i.zero,i.size,i.bytes))=some (some z,size,bytes)) (hS:Sl e size v m xs I) (M:Mem w0 ex w L0) (hsp:L0=L1++I) (T:Tm a nn E)
   (ho:op.op=.call { callee:=.builtin .append,args:=#[s,x],argTypes:=#[ty,ty] }) (hd:op.dst=some t') (hf:freshE E t'=true) (hnn:Nat.blt t' nn=true)
   (ht:P.underlying ty=some (.slice e)) (hzs:z.cells.size=size) (hsz:Nat.blt 0 size=true) (hby:Nat.ble bytes 1000=true) (hm:m≤1000000)
   (hs:a.eval s=v) (hx:a.eval x=.slice (some ⟨b,0,none⟩) 1 c) (hmem:(b,BA.cells cs)∈L1) (hl:cs.length=size) (h1:cs.all (·.oneCell')=true)
   (h:∀ g cap w' a',Mem w0 ex w' ((g,.row e size (m+1) (xs++cs) cap)::L1)→Tm a' nn ((t',.slice (some ⟨g,0,none⟩) (m+1) cap)::E)→K a' w'):op.wp P a w K Q:=by
 subst hsp
 exact app_wp ht hinfo hzs (Nat.le_of_ble_eq_true hsz) (Nat.le_of_ble_eq_true hby) (Mem.swapI (I:=L1) (L:=I) M) hS hm ho hs hx hmem hl h1 fun g cap w' M'=>h g cap w' _ M' (by rw [hd];exact T.put hnn hf _)
theorem of_any (s:Int) (bp:Nat) (A:Option Addr) (n c:Nat) (l:List Int) (w:World) (hl:Rd w w.heap.size 1 A n (ic l)) (hne:∀ b o,A=some ⟨b,o,none⟩→b≠bp) (hn0:0 < n) (hn:n≤1000) (hp:Bk w bp #[.int .u64 s]) (hs:u64ok s) :
   Calls prog 97 #[Zj bp,.slice A n c] w (PotPost bp (fun x=>x∈l) .i64 w):=by
 have hll:=hl.len1
 obtain ⟨bI,oI,SI⟩:=Sp.oldEx hl hne
 refine Zpx (fun b=>b=bp) func97 Z 16 Z [Zj bp,.slice A n c] Z Z (Mem.initEx (p:=.cells [.int .u64 s]) hp) ?_
 intro ac wc T M
 refine Zsr ?_
 refine lq T (Zra Z evc) ?_;intro ac T
 replace T:=T.pick [1,2] rfl
 refine Zln ?_
 refine wp_seq ?_
 refine Zsr ?_
 refine Zg3 T (Zq (Zrm Z (T.e 1 Z))) Z (Zl underlying31 0 Z Z) Z (fun _ T=>Zq (rn_eql Z (T.e 0 Z) evc)) Z ?_;intro ac T
 replace T:=T.pick [0,3,4] rfl
 refine Zln ?_
 refine wp_if (T.e 0 Z) ?_ ?_
 ·intro h1
  refine Zsr ?_
  refine lq T (Zra Z evc) ?_;intro ac T
  replace T:=T.pick [0] rfl
  refine Zln ?_
  refine wp_ret ?_
  refine Zrt ?_
  refine rt_1 T Z (T.e 0 Z) ?_
  exfalso
  omega
 intro h1
 refine Zsk ?_
 refine Zsr ?_
 refine Zg5 T (Zq (Zrm Z (T.e 2 Z))) Z (Zm 2 Z Z) Z (Zm 4 Z Z) Z (Zl underlying31 0 Z Z) Z (fun _ T=>Zq (rn_sub Z (T.e 0 Z) evc (by omega))) Z ?_;intro ac T
 refine Zl2 ?_
 refine Zod T Z Z Z Z evf (.cons (T.e 3 Z) (.cons (T.e 0 Z) .nil)) func35 Z Z ?_
 refine Calls.mono (upto_any _ bp (((n:Nat):Int) - 1) _ (by omega) (by omega) (M.nth 0 Z) hs) ?_
 clear T;rintro e wc ⟨xu1,su1,hxu1,hsu1,rfl,hgr,hbk⟩ ac T
 replace M:=M.callC (cs':=[.int .u64 su1]) .head hgr hbk
 clear hgr hbk
 obtain ⟨ku1,hku1⟩:∃ k:Nat,xu1=(k:Int):=⟨xu1.toNat,by omega⟩
 obtain ⟨y,hk1,-⟩:=ic_next (l:=l) (k:=ku1) (by omega)
 refine Zg3 T (Zq (Zri (size:=1) ku1 Z (T.e 5 Z) (T.e 0 Z) ⟨_,underlying31,by kernel_rfl⟩ hku1 (by omega) (SI.at0 (by omega)))) Z (fun _ T=>Zq (rn_cell (Sp.ic0 SI M (Zz9 _) hk1) Z (T.e 0 Z))) Z (Za 0 Z Z) Z ?_;intro ac T
 replace T:=T.pick [0] rfl
 refine Zln ?_
 refine wp_ret ?_
 refine rt_1 T Z (T.e 0 Z) ?_
 exact ⟨_,_,List.mem_of_getElem? hk1,hsu1,Z,M.grown,M.nth 0 Z⟩
theorem Tryz.info26:(prog.info? 26).map (fun i=>(i.zero,i.size,i.bytes))=some (some (.agg #[Zi 0,Zi 0]),2,16):=by kernel_rfl
theorem Tryz.info3:(prog.info? 3).map (fun i=>(i.zero,i.size,i.bytes))=some (some (Zi 0),1,8):=by kernel_rfl
structure Jb.made (j:Jb) (wd ls:Int):Prop where
 p : -60≤j.p0∧-16 - wd≤j.p0∧j.p0≤j.p1∧j.p1≤16+wd∧j.p1≤60∧j.p1 - j.p0≤2 * wd
 t:18≤j.t0∧j.t0≤j.t1∧j.t1≤42
 r:18≤j.r0∧j.r0≤j.r1∧j.r1≤42
 u:0≤j.u0∧j.u0≤j.u1∧j.u1≤12∧j.u1≤6+ls∧j.u1 - j.u0≤2 * ls
 d:0≤j.d0∧j.d0≤j.d1∧j.d1≤12∧j.d1≤6+ls∧j.d1 - j.d0≤2 * ls
 a:0≤j.a0∧j.a0≤j.a1∧j.a1≤5
 b:0≤j.b0∧j.b0≤j.b1∧j.b1≤5
 le:10≤j.le∧j.le≤30
 few:j.sh.length≤3
 sh:∀ q∈j.sh,-5≤q.1∧q.1≤q.2∧q.2≤5
 wi:1≤j.wi∧j.wi≤6
 me:0≤j.me∧j.me≤3
theorem Jb.made.good {j:Jb} {wd ls:Int} (h:j.made wd ls):j.good:=by
 obtain ⟨h1,h2,h3,h4,h5,h6,h7,h8,h9,h10,h11,h12⟩:=h
 exact ⟨by omega,by omega,by omega,by omega,by omega,by omega,by omega,by omega,by omega,fun p hp=>by have:=h10 p hp;omega,by omega,by omega⟩
def JobOfPost (bp:Nat) (wd ls:Int) (w:World) (e:Ending) (w':World):Prop :=
 ∃ (j:Jb) (A:Option Addr) (c:Nat) (s:Int) (I:List (Nat×BA)),e=.returned (jobV j A c)∧j.made wd ls∧u64ok s∧Sl 26 2 (.slice A j.sh.length c) j.sh.length (rc j.sh) I∧Mem w (fun b=>b=bp) w' (I++[(bp,.cells [.int .u64 s])])
theorem rc_snoc (l:List (Int×Int)) (x y:Int):rc l++[Zi x,Zi y]=rc (l++[(x,y)]):=by rw [rc_append];rfl
theorem jobOf_any (s:Int) (bp:Nat) (wd ls:Int) (w:World) (hw0:0≤wd) (hw1:wd≤40) (hl0:0≤ls) (hl1:ls≤40) (hp:Bk w bp #[.int .u64 s]) (hs:u64ok s) :
   Calls prog 38 #[Zj bp,Zi wd,Zi ls] w (JobOfPost bp wd ls w):=by
 refine Zpx (fun b=>b=bp) func38 Z 84 Z [Zj bp,Zi wd,Zi ls] Z Z (Mem.initEx (p:=.cells [.int .u64 s]) hp) ?_
 intro ac wc T M
 refine Zsr ?_
 refine Zl2 ?_
 refine Zoa M T Z Z Z Z ?_;clear M T;intro g1 wc ac M T
 refine Zln ?_
 refine Zsr ?_
 refine lq T (Zrm Z (T.e 1 Z)) ?_;intro ac T
 refine Zl2 ?_
 refine Zod T Z Z Z Z evf (.cons (T.e 0 Z) (.cons evc (.cons evc .nil))) func36 Z Z ?_
 refine Calls.mono (within_pot _ bp 1 6 _ (by omega) (by omega) (by omega) (M.nth 1 Z) hs) ?_
 clear T;rintro e wc ⟨xu1,su1,hxu1,hsu1,rfl,hgr,hbk⟩ ac T
 replace M:=M.callC (cs':=[.int .u64 su1]) (.tail .head) hgr hbk
 clear hgr hbk
 refine Zg2 T (Zq (Zrm Z (T.e 3 Z))) Z (Zm 4 Z Z) Z ?_;intro ac T
 refine Zl2 ?_
 refine Zod T Z Z Z Z evf (.cons (T.e 0 Z) (.cons evc .nil)) func35 Z Z ?_
 refine Calls.mono (upto_any _ bp 3 _ (by omega) (by omega) (M.nth 1 Z) hsu1) ?_
 clear T;rintro e wc ⟨xu2,su2,hxu2,hsu2,rfl,hgr,hbk⟩ ac T
 replace M:=M.callC (cs':=[.int .u64 su2]) (.tail .head) hgr hbk
 clear hgr hbk
 refine Zl2 ?_
 refine ow_bs (e:=3) [Zi 0,Zi 1,Zi xu2] M T Z Z Z Z (.cons evc (.cons evc (.cons (T.e 0 Z) .nil))) (fun _=>by kernel_rfl) ?_;clear M T;intro g2 wc ac M T
 refine Zl2 ?_
 refine Zod T Z Z Z Z evf (.cons (T.e 3 Z) (.cons (T.e 0 Z) .nil)) func97 Z Z ?_
 refine Calls.mono (of_any _ bp _ 3 3 [0,1,xu2] _ (M.rdOwn (Zne (i:=0) Z) Z Z) (M.nee 0 2 Z Z Z) (by decide) (by decide) (M.nth 2 Z) hsu2) ?_
 clear T;rintro e wc ⟨xu3,su3,hxu3,hsu3,rfl,hgr,hbk⟩ ac T
 replace M:=M.callC (cs':=[.int .u64 su3]) (.tail (.tail .head)) hgr hbk
 clear hgr hbk
 simp only [Zx7,Zx8,or_false] at hxu3
 refine lq (v:=(.agg #[Zi 0,Zi 0,Zi 0,Zi 0,Zi 0,Zi 0,Zi 0,Zi 0,Zi 0,Zi 0,Zi 0,Zi 0,Zi 0,Zi 0,Zi 0,.slice none 0 0,Zi xu1,Zi xu3])) T (rn_build Z (.cons (T.e 5 Z) (.cons (T.e 0 Z) .nil)) (fun _=>by kernel_rfl)) ?_;intro ac T
 refine Zl2 ?_
 refine Zoa M T Z Z Z Z ?_;clear M T;intro g3 wc ac M T
 refine Zl2 ?_
 refine Zot M T Z Z (T.e 0 Z) (T.e 1 Z) Z .head Z Z ?_;clear M T;intro wc ac M T
 refine wpList_nil ?_
 replace T:=T.pick [0,9,10,11,12] rfl
 replace M:=M.mask [true,false,true,true] rfl
 refine nm_then ?_
 refine Zsr ?_
 refine lq T (Zrm Z (T.e 2 Z)) ?_;intro ac T
 refine Zl2 ?_
 refine Zod T Z Z Z Z evf (.cons (T.e 0 Z) (.cons evc (.cons evc .nil))) func36 Z Z ?_
 refine Calls.mono (within_pot _ bp (-16) 16 _ (by omega) (by omega) (by omega) (M.nth 2 Z) hsu3) ?_
 clear T;rintro e wc ⟨xu4,su4,hxu4,hsu4,rfl,hgr,hbk⟩ ac T
 replace M:=M.callC (cs':=[.int .u64 su4]) (.tail (.tail .head)) hgr hbk
 clear hgr hbk
 refine lq T (Zra Z (T.e 0 Z)) ?_;intro ac T
 replace T:=T.pick [0,3,4,5,6,7] rfl
 refine Zln ?_
 refine Zsr ?_
 refine Zg3 T (Zq (Zrm Z (T.e 3 Z))) Z (Zm 1 Z Z) Z (Zm 6 Z Z) Z ?_;intro ac T
 refine Zl2 ?_
 refine Zod T Z Z Z Z evf (.cons (T.e 2 Z) (.cons (T.e 1 Z) (.cons evc (.cons evc (.cons (T.e 0 Z) .nil))))) func64 Z Z ?_
 refine Calls.mono (near_pot _ bp xu4 (-60) 60 wd _ (by omega) (by omega) (by omega) (by omega) (by omega) (by omega) (M.nth 2 Z) hsu4) ?_
 clear T;rintro e wc ⟨xu5,yu5,su5,hxu5,hsu5,rfl,hgr,hbk⟩ ac T
 replace M:=M.callC (cs':=[.int .u64 su5]) (.tail (.tail .head)) hgr hbk
 clear hgr hbk
 refine Zg2 (v1:=(Zj g3)) (v2:=(Zj g3)) T (Zq (Zrg 0 Z (T.e 5 Z))) Z (Zf 0 0 Z Z) Z ?_;intro ac T
 refine Zl2 ?_
 refine Zot M T Z Z (T.e 0 Z) (T.e 2 Z) Z .head Z Z ?_;clear M T;intro wc ac M T
 replace T:=T.pick [7,8,9,11] rfl
 refine Zln ?_
 refine Zsr ?_
 refine Zg2 T (Zq (Zrm Z (T.e 2 Z))) Z (Zm 3 Z Z) Z ?_;intro ac T
 refine Zl2 ?_
 refine Zod T Z Z Z Z evf (.cons (T.e 0 Z) (.cons evc (.cons evc .nil))) func36 Z Z ?_
 refine Calls.mono (within_pot _ bp 20 40 _ (by omega) (by omega) (by omega) (M.nth 2 Z) hsu5) ?_
 clear T;rintro e wc ⟨xu6,su6,hxu6,hsu6,rfl,hgr,hbk⟩ ac T
 replace M:=M.callC (cs':=[.int .u64 su6]) (.tail (.tail .head)) hgr hbk
 clear hgr hbk
 refine Zl2 ?_
 refine Zod T Z Z Z Z evf (.cons (T.e 2 Z) (.cons (T.e 0 Z) (.cons evc (.cons evc (.cons evc .nil))))) func64 Z Z ?_
 refine Calls.mono (near_pot _ bp xu6 0 100 2 _ (by omega) (by omega) (by omega) (by omega) (by omega) (by omega) (M.nth 2 Z) hsu6) ?_
 clear T;rintro e wc ⟨xu7,yu7,su7,hxu7,hsu7,rfl,hgr,hbk⟩ ac T
 replace M:=M.callC (cs':=[.int .u64 su7]) (.tail (.tail .head)) hgr hbk
 clear hgr hbk
 refine Zg2 T (Zq (Zrm Z (T.e 6 Z))) Z (Zm 7 Z Z) Z ?_;intro ac T
 refine Zl2 ?_
 refine Zod T Z Z Z Z evf (.cons (T.e 0 Z) (.cons evc (.cons evc .nil))) func36 Z Z ?_
 refine Calls.mono (within_pot _ bp 20 40 _ (by omega) (by omega) (by omega) (M.nth 2 Z) hsu7) ?_
 clear T;rintro e wc ⟨xu8,su8,hxu8,hsu8,rfl,hgr,hbk⟩ ac T
 replace M:=M.callC (cs':=[.int .u64 su8]) (.tail (.tail .head)) hgr hbk
 clear hgr hbk
 refine Zl2 ?_
 refine Zod T Z Z Z Z evf (.cons (T.e 2 Z) (.cons (T.e 0 Z) (.cons evc (.cons evc (.cons evc .nil))))) func64 Z Z ?_
 refine Calls.mono (near_pot _ bp xu8 0 100 2 _ (by omega) (by omega) (by omega) (by omega) (by omega) (by omega) (M.nth 2 Z) hsu8) ?_
 clear T;rintro e wc ⟨xu9,yu9,su9,hxu9,hsu9,rfl,hgr,hbk⟩ ac T
 replace M:=M.callC (cs':=[.int .u64 su9]) (.tail (.tail .head)) hgr hbk
 clear hgr hbk
 refine Zg2 (v1:=(Zj g3)) (v2:=(.pointer (some ⟨g3,2,none⟩))) T (Zq (Zrg 0 Z (T.e 8 Z))) Z (Zf 2 0 Z Z) Z ?_;intro ac T
 refine Zl2 ?_
 refine Zot M T Z Z (T.e 0 Z) (T.e 6 Z) Z .head Z Z ?_;clear M T;intro wc ac M T
 refine Zg2 (v1:=(Zj g3)) (v2:=(.pointer (some ⟨g3,4,none⟩))) T (Zq (Zrg 0 Z (T.e 10 Z))) Z (Zf 4 0 Z Z) Z ?_;intro ac T
 refine Zl2 ?_
 refine Zot M T Z Z (T.e 0 Z) (T.e 4 Z) Z .head Z Z ?_;clear M T;intro wc ac M T
 replace T:=T.pick [12,13,14,15] rfl
 refine Zln ?_
 refine Zsr ?_
 refine Zg2 T (Zq (Zrm Z (T.e 2 Z))) Z (Zm 3 Z Z) Z ?_;intro ac T
 refine Zl2 ?_
 refine Zod T Z Z Z Z evf (.cons (T.e 0 Z) (.cons evc (.cons evc .nil))) func36 Z Z ?_
 refine Calls.mono (within_pot _ bp 1 6 _ (by omega) (by omega) (by omega) (M.nth 2 Z) hsu9) ?_
 clear T;rintro e wc ⟨xu10,su10,hxu10,hsu10,rfl,hgr,hbk⟩ ac T
 replace M:=M.callC (cs':=[.int .u64 su10]) (.tail (.tail .head)) hgr hbk
 clear hgr hbk
 refine lq T (Zrm Z (T.e 6 Z)) ?_;intro ac T
 refine Zl2 ?_
 refine Zod T Z Z Z Z evf (.cons (T.e 3 Z) (.cons (T.e 1 Z) (.cons evc (.cons evc (.cons (T.e 0 Z) .nil))))) func64 Z Z ?_
 refine Calls.mono (near_pot _ bp xu10 0 12 ls _ (by omega) (by omega) (by omega) (by omega) (by omega) (by omega) (M.nth 2 Z) hsu10) ?_
 clear T;rintro e wc ⟨xu11,yu11,su11,hxu11,hsu11,rfl,hgr,hbk⟩ ac T
 replace M:=M.callC (cs':=[.int .u64 su11]) (.tail (.tail .head)) hgr hbk
 clear hgr hbk
 refine Zg2 T (Zq (Zrm Z (T.e 7 Z))) Z (Zm 8 Z Z) Z ?_;intro ac T
 refine Zl2 ?_
 refine Zod T Z Z Z Z evf (.cons (T.e 0 Z) (.cons evc (.cons evc .nil))) func36 Z Z ?_
 refine Calls.mono (within_pot _ bp 1 6 _ (by omega) (by omega) (by omega) (M.nth 2 Z) hsu11) ?_
 clear T;rintro e wc ⟨xu12,su12,hxu12,hsu12,rfl,hgr,hbk⟩ ac T
 replace M:=M.callC (cs':=[.int .u64 su12]) (.tail (.tail .head)) hgr hbk
 clear hgr hbk
 refine lq T (Zrm Z (T.e 11 Z)) ?_;intro ac T
 refine Zl2 ?_
 refine Zod T Z Z Z Z evf (.cons (T.e 3 Z) (.cons (T.e 1 Z) (.cons evc (.cons evc (.cons (T.e 0 Z) .nil))))) func64 Z Z ?_
 refine Calls.mono (near_pot _ bp xu12 0 12 ls _ (by omega) (by omega) (by omega) (by omega) (by omega) (by omega) (M.nth 2 Z) hsu12) ?_
 clear T;rintro e wc ⟨xu13,yu13,su13,hxu13,hsu13,rfl,hgr,hbk⟩ ac T
 replace M:=M.callC (cs':=[.int .u64 su13]) (.tail (.tail .head)) hgr hbk
 clear hgr hbk
 refine Zg2 (v1:=(.pointer (some ⟨g3,6,none⟩))) (v2:=(.pointer (some ⟨g3,6,none⟩))) T (Zq (Zrg 6 Z (T.e 10 Z))) Z (Zf 0 0 Z Z) Z ?_;intro ac T
 refine Zl2 ?_
 refine Zot M T Z Z (T.e 0 Z) (T.e 7 Z) Z .head Z Z ?_;clear M T;intro wc ac M T
 refine Zg2 (v1:=(.pointer (some ⟨g3,6,none⟩))) (v2:=(.pointer (some ⟨g3,8,none⟩))) T (Zq (Zrg 6 Z (T.e 12 Z))) Z (Zf 2 0 Z Z) Z ?_;intro ac T
 refine Zl2 ?_
 refine Zot M T Z Z (T.e 0 Z) (T.e 4 Z) Z .head Z Z ?_;clear M T;intro wc ac M T
 replace T:=T.pick [14,15,16] rfl
 refine Zln ?_
 refine Zsr ?_
 refine Zg2 T (Zq (Zrm Z (T.e 2 Z))) Z (Zm 3 Z Z) Z ?_;intro ac T
 refine Zl2 ?_
 refine Zod T Z Z Z Z evf (.cons (T.e 0 Z) (.cons evc .nil)) func35 Z Z ?_
 refine Calls.mono (upto_any _ bp 4 _ (by omega) (by omega) (M.nth 2 Z) hsu13) ?_
 clear T;rintro e wc ⟨xu14,su14,hxu14,hsu14,rfl,hgr,hbk⟩ ac T
 replace M:=M.callC (cs':=[.int .u64 su14]) (.tail (.tail .head)) hgr hbk
 clear hgr hbk
 refine Zl2 ?_
 refine Zod T Z Z Z Z evf (.cons (T.e 2 Z) (.cons (T.e 0 Z) (.cons evc (.cons evc (.cons evc .nil))))) func64 Z Z ?_
 refine Calls.mono (near_pot _ bp xu14 0 12 1 _ (by omega) (by omega) (by omega) (by omega) (by omega) (by omega) (M.nth 2 Z) hsu14) ?_
 clear T;rintro e wc ⟨xu15,yu15,su15,hxu15,hsu15,rfl,hgr,hbk⟩ ac T
 replace M:=M.callC (cs':=[.int .u64 su15]) (.tail (.tail .head)) hgr hbk
 clear hgr hbk
 refine Zg2 T (Zq (Zrm Z (T.e 6 Z))) Z (Zm 7 Z Z) Z ?_;intro ac T
 refine Zl2 ?_
 refine Zod T Z Z Z Z evf (.cons (T.e 0 Z) (.cons evc .nil)) func35 Z Z ?_
 refine Calls.mono (upto_any _ bp 4 _ (by omega) (by omega) (M.nth 2 Z) hsu15) ?_
 clear T;rintro e wc ⟨xu16,su16,hxu16,hsu16,rfl,hgr,hbk⟩ ac T
 replace M:=M.callC (cs':=[.int .u64 su16]) (.tail (.tail .head)) hgr hbk
 clear hgr hbk
 refine Zl2 ?_
 refine Zod T Z Z Z Z evf (.cons (T.e 2 Z) (.cons (T.e 0 Z) (.cons evc (.cons evc (.cons evc .nil))))) func64 Z Z ?_
 refine Calls.mono (near_pot _ bp xu16 0 12 1 _ (by omega) (by omega) (by omega) (by omega) (by omega) (by omega) (M.nth 2 Z) hsu16) ?_
 clear T;rintro e wc ⟨xu17,yu17,su17,hxu17,hsu17,rfl,hgr,hbk⟩ ac T
 replace M:=M.callC (cs':=[.int .u64 su17]) (.tail (.tail .head)) hgr hbk
 clear hgr hbk
 refine Zg2 (v1:=(.pointer (some ⟨g3,6,none⟩))) (v2:=(.pointer (some ⟨g3,10,none⟩))) T (Zq (Zrg 6 Z (T.e 8 Z))) Z (Zf 4 0 Z Z) Z ?_;intro ac T
 refine Zl2 ?_
 refine Zot M T Z Z (T.e 0 Z) (T.e 6 Z) Z .head Z Z ?_;clear M T;intro wc ac M T
 refine Zg2 (v1:=(.pointer (some ⟨g3,6,none⟩))) (v2:=(.pointer (some ⟨g3,12,none⟩))) T (Zq (Zrg 6 Z (T.e 10 Z))) Z (Zf 6 0 Z Z) Z ?_;intro ac T
 refine Zl2 ?_
 refine Zot M T Z Z (T.e 0 Z) (T.e 4 Z) Z .head Z Z ?_;clear M T;intro wc ac M T
 replace T:=T.pick [12,13,14] rfl
 refine Zln ?_
 refine Zsr ?_
 refine lq T (Zrm Z (T.e 2 Z)) ?_;intro ac T
 refine Zl2 ?_
 refine Zod T Z Z Z Z evf (.cons (T.e 0 Z) (.cons evc (.cons evc .nil))) func36 Z Z ?_
 refine Calls.mono (within_pot _ bp 10 30 _ (by omega) (by omega) (by omega) (M.nth 2 Z) hsu17) ?_
 clear T;rintro e wc ⟨xu18,su18,hxu18,hsu18,rfl,hgr,hbk⟩ ac T
 replace M:=M.callC (cs':=[.int .u64 su18]) (.tail (.tail .head)) hgr hbk
 clear hgr hbk
 refine Zg2 (v1:=(.pointer (some ⟨g3,6,none⟩))) (v2:=(.pointer (some ⟨g3,14,none⟩))) T (Zq (Zrg 6 Z (T.e 2 Z))) Z (Zf 8 0 Z Z) Z ?_;intro ac T
 refine Zl2 ?_
 refine Zot M T Z Z (T.e 0 Z) (T.e 2 Z) Z .head Z Z ?_;clear M T;intro wc ac M T
 replace T:=T.pick [4,5,6] rfl
 refine Zln ?_
 refine wp_seq ?_
 refine Zsr ?_
 refine lq T (Zrm Z (T.e 2 Z)) ?_;intro ac T
 refine Zl2 ?_
 refine Zod T Z Z Z Z evf (.cons (T.e 0 Z) (.cons evc .nil)) func35 Z Z ?_
 refine Calls.mono (upto_any _ bp 3 _ (by omega) (by omega) (M.nth 2 Z) hsu18) ?_
 clear T;rintro e wc ⟨xu19,su19,hxu19,hsu19,rfl,hgr,hbk⟩ ac T
 replace M:=M.callC (cs':=[.int .u64 su19]) (.tail (.tail .head)) hgr hbk
 clear hgr hbk
 refine lq T (Zra Z (T.e 0 Z)) ?_;intro ac T
 replace T:=T.pick [0,3,4,5] rfl
 refine Zln ?_
 refine wp_block ?_
 obtain ⟨j,M,hsh,hj⟩:∃ j:Jb,Mem w (fun b=>b=bp) wc [(g3,.cells [Zi j.p0,Zi j.p1,Zi j.t0,Zi j.t1,Zi j.r0,Zi j.r1,Zi j.u0,Zi j.u1,Zi j.d0,Zi j.d1,Zi j.a0,Zi j.a1,Zi j.b0,Zi j.b1,Zi j.le,.slice none 0 0,Zi j.wi,Zi j.me]),(g1,.cells Zs0),(bp,.cells [.int .u64 su19])]∧j.sh=[]∧j.made wd ls :=
   ⟨⟨xu5,yu5,xu7,yu7,xu9,yu9,xu11,yu11,xu13,yu13,xu15,yu15,xu17,yu17,xu18,[],xu1,xu3⟩,M.perm [0,1,2] rfl rfl,rfl,⟨by dsimp only;omega,by dsimp only;omega,by dsimp only;omega,by dsimp only;omega,by dsimp only;omega,by dsimp only;omega,by dsimp only;omega,by dsimp only;omega,by simp,by simp,by dsimp only;omega,by dsimp only;omega⟩⟩
 refine wp_loop_n (fun mz ac wc=>∃ (i:Int) (sh:List (Int×Int)) (A:Option Addr) (c:Nat) (s:Int) (I:List (Nat×BA)),mz=i.toNat∧(0≤i)∧((sh.length:Int)+i≤3)∧(∀ q∈sh,-5≤q.1∧q.1≤q.2∧q.2≤5)∧(u64ok s)∧(Sl 26 2 (.slice A sh.length c) sh.length (rc sh) I)∧Tm ac 84 [(0,Zj bp),(6,Zj g1),(7,Zj g3),(9,Zi i)]∧Mem w (fun b=>b=bp) wc ((g3,.cells [Zi j.p0,Zi j.p1,Zi j.t0,Zi j.t1,Zi j.r0,Zi j.r1,Zi j.u0,Zi j.u1,Zi j.d0,Zi j.d1,Zi j.a0,Zi j.a1,Zi j.b0,Zi j.b1,Zi j.le,.slice A sh.length c,Zi j.wi,Zi j.me])::(g1,.cells Zs0)::(bp,.cells [.int .u64 s])::I)) ?_ ?_
 ·exact ⟨_,_,[],none,0,_,[],Z,(by omega),(by simp;omega),(fun q hq=>by cases hq),hsu19,(Sl.nil _ _),T.pick [3,2,1,0] Z,M.mask [true,true,true] Z⟩
 clear T M
 rintro mz ac wc ⟨i,sh,A,c,s,I,hmm1,hi,hlen,hq,hs,hsl,T,M⟩
 refine wp_seq ?_
 refine Zsr ?_
 refine Zg2 T (Zq (Zrm Z (T.e 3 Z))) Z (fun _ T=>Zq (rn_gtr Z (T.e 0 Z) evc)) Z ?_;intro ac T
 replace T:=T.pick [0,2,3,4,5] rfl
 refine Zln ?_
 refine wp_if (T.e 0 Z) ?_ ?_
 ·intro h1
  refine Zsk ?_
  refine wp_seq ?_
  refine wp_block ?_
  refine Zgs M (M.perm [1] Z Z) 10 (by kernel_rfl) Z (by kernel_rfl) ?_
  clear M;intro wc M
  refine g_addG 4 M ?_
  refine g_addG 9 (M.perm [0,1] Z Z) ?_
  refine Zgq (v:=(.pointer (some ⟨g3,15,none⟩))) T 0 1 Z (fun _=>(Zrg 15 Z (T.e 3 Z))) ?_;intro ac T
  refine gq T 1 3 Z (fun B w' hD hl hS=>(Zro (Mem.nth (show Mem w (fun b=>b=bp) w' _ from ((MA.lft hS) (hD.wait (i:=1) (m:=9) (by kernel_rfl) hl))) 0 Z) Z (T.e 0 Z) Z)) ?_;intro ac T
  refine Zgq T 2 7 Z (fun _=>(Zrm Z (T.e 3 Z))) ?_;intro ac T
  refine Zgq T 3 15 Z (fun _=>(Zrm Z (T.e 4 Z))) ?_;intro ac T
  refine gw 4 31 ?_;intro K hK
  refine Zod T Z Z Z Z evf (.cons (T.e 0 Z) (.cons evc (.cons evc .nil))) func36 Z Z ?_
  refine Calls.mono (within_pot _ bp (-3) 3 _ (by omega) (by omega) (by omega) (M.nth 2 Z) hs) ?_
  clear T;rintro e wc ⟨xu20,su20,hxu20,hsu20,rfl,hgr,hbk⟩ ac T
  replace M:=M.callC (cs':=[.int .u64 su20]) (.tail (.tail .head)) hgr hbk
  clear hgr hbk
  refine Zso hK _ _ (MA.mk (fun _=>M.perm [0,1] Z Z) (MA.mk (fun h=>(no_of (by kernel_rfl) h).elim) (M.perm [1] Z Z))) ?_;clear hK K
  refine gw 5 63 ?_;intro K hK
  refine Zod T Z Z Z Z evf (.cons (T.e 2 Z) (.cons (T.e 0 Z) (.cons evc (.cons evc (.cons evc .nil))))) func64 Z Z ?_
  refine Calls.mono (near_pot _ bp xu20 (-60) 60 2 _ (by omega) (by omega) (by omega) (by omega) (by omega) (by omega) (M.nth 2 Z) hsu20) ?_
  clear T;rintro e wc ⟨xu21,yu21,su21,hxu21,hsu21,rfl,hgr,hbk⟩ ac T
  replace M:=M.callC (cs':=[.int .u64 su21]) (.tail (.tail .head)) hgr hbk
  clear hgr hbk
  refine Zso hK _ _ (MA.mk (fun _=>M.perm [0,1] Z Z) (MA.mk (fun h=>(no_of (by kernel_rfl) h).elim) (M.perm [1] Z Z))) ?_;clear hK K
  refine gw 6 127 ?_;intro K hK
  refine ow_bs (e:=26) [Zi xu21,Zi yu21] M T Z Z Z Z (.cons (T.e 0 Z) .nil) (fun _=>by kernel_rfl) ?_;clear M T;intro g4 wc ac M T
  refine Zso hK _ _ (MA.mk (fun _=>M.perm [1,2] Z Z) (MA.mk (fun h=>(no_of (by kernel_rfl) h).elim) (M.perm [2] Z Z))) ?_;clear hK K
  refine gw 7 255 ?_;intro K hK
  refine ow_app ([(g4,.cells [Zi xu21,Zi yu21]),(g3,.cells [Zi j.p0,Zi j.p1,Zi j.t0,Zi j.t1,Zi j.r0,Zi j.r1,Zi j.u0,Zi j.u1,Zi j.d0,Zi j.d1,Zi j.a0,Zi j.a1,Zi j.b0,Zi j.b1,Zi j.le,.slice A sh.length c,Zi j.wi,Zi j.me]),(g1,.cells Zs0),(bp,.cells [.int .u64 su21])]) Tryz.info26 hsl M (by first | rfl | simp) T Z Z Z Z underlying57 Z Z Z (by omega) (T.e 5 Z) (T.e 0 Z) (Zne (i:=0) Z) Z Z ?_;clear M T;intro ga1 cga1 wc ac M T
  refine Zso hK _ _ (MA.mk (fun _=>M.mask [false,false,true,true,false] Z) (MA.mk (fun h=>(no_of (by kernel_rfl) h).elim) (M.mask [false,false,false,true,false] Z))) ?_;clear hK K
  refine Zgq (v:=(.pointer (some ⟨g3,15,none⟩))) T 8 511 Z (fun _=>(Zrg 15 Z (T.e 11 Z))) ?_;intro ac T
  refine gw 9 1023 ?_;intro K hK
  refine Zot M T Z Z (T.e 0 Z) (T.e 1 Z) Z (.tail (.tail .head)) Z Z ?_;clear M T;intro wc ac M T
  refine Zso hK _ _ (MA.mk (fun h=>(no_of (by kernel_rfl) h).elim) (MA.mk (fun h=>(no_of (by kernel_rfl) h).elim) (M.mask [false,false,false,true,false] Z))) ?_;clear hK K
  refine Zgd (by kernel_rfl) ?_
  replace T:=T.pick [10,11,12,13] rfl
  replace M:=M.mask [true,false,true,true,true] rfl
  refine Znb ?_
  refine nm_then ?_
  refine wp_region_lit ?_
  refine Zg2 T (Zq (Zrm Z (T.e 3 Z))) Z (fun _ T=>Zq (rn_sub Z (T.e 0 Z) evc (by omega))) Z ?_;intro ac T
  refine l_q (v:=(Zi (i - 1))) (T.pick [0,1,2,3,4] Z) Z Z Z Z (Zra Z (T.e 0 Z)) ?_;intro ac T
  replace T:=T.pick [0,3,4,5] rfl
  refine Zln ?_
  exact ⟨_,by omega,(i - 1),(sh++[(xu21,yu21)]),some ⟨ga1,0,none⟩,cga1,su21,[(ga1,.row 26 2 (sh.length+1) ((rc sh)++[Zi xu21,Zi yu21]) cga1)],rfl,(by omega),(by simp only [Zx3,Zx1,Zx2];omega),(fun q hq'=>by rcases List.mem_append.1 hq' with h9 | h9;exact hq q h9;simp only [Zx7,Zx8,or_false] at h9;subst h9;dsimp only;omega),hsu21,(by rw [← rc_snoc,Zx3];exact Sl.row _ _ _ _ _ _),T.pick [1,2,3,0] rfl,(by rw [Zx3];exact M.perm [1,2,3,0] rfl rfl)⟩
 intro h1
 refine wp_exit ?_
 refine Zet ?_
 refine Zet ?_
 refine ex_hit ?_
 refine nm_then ?_
 refine Zsr ?_
 refine lq T (Zrr (Mem.nth M 0 Z) Z (T.e 3 Z) Z) ?_;intro ac T
 refine Zl2 ?_
 refine Zot M T Z Z (T.e 3 Z) (T.e 0 Z) Z (.tail .head) Z Z ?_;clear M T;intro wc ac M T
 refine wpList_nil ?_
 replace T:=T.pick [3] rfl
 replace M:=M.mask [false,true,true] rfl
 refine Znr ?_
 refine rt_c M T Z (T.e 0 Z) (Zne (i:=0) Z) Z ?_
 exact ⟨{ j with sh:=sh },A,c,_,I,Z,⟨hj.p,hj.t,hj.r,hj.u,hj.d,hj.a,hj.b,hj.le,by dsimp only;omega,hq,hj.wi,hj.me⟩,hs,hsl,Mem.swapI (I:=[(bp,.cells [.int .u64 s])]) (L:=I) (M.mask [false,true] Z)⟩
def Sm (e size:Nat) (A:Option Addr) (n c:Nat) (xs:List Value) (I:List (Nat×BA)):Prop :=
 (n=0∧xs=[]∧c=0∧∃ g,A=some ⟨g,0,none⟩∧I=[(g,.any fun o=>o=.cells #[] e)])∨∃ g,A=some ⟨g,0,none⟩∧I=[(g,.row e size n xs c)]
theorem Tryz.append0i (A:Option Addr) (c g:Nat) (ty:TypeId) (w:World):(Builtin.append_ #[31,31] ty #[.slice (some ⟨g,0,none⟩) 0 0,.slice A 0 c]).run prog w=.ok (.slice (some ⟨g,0,none⟩) 0 0) w:=by
 cases A <;> kernel_rfl
theorem ow_appM {P : Program} {op : Oper} {a : Act} {K : Act → World → Prop} {Q : Exit → Act → World → Prop} {s x : Operand} {ty e size bytes b c d m nn t' : Nat} {A : Option Addr} {z : Value} {cs xs : List Value} {w0 w : World} {ex : Nat → Prop} {L0 I : List (Nat × BA)} {E : List (Nat × Value)} (L1 : List (Nat × BA))
   (hinfo:(P.info? e).map (fun i=>(i.zero,i.size,i.bytes))=some (some z,size,bytes)) (hS:Sm e size A m d xs I) (M:Mem w0 ex w L0) (hsp:L0=L1++I) (T:Tm a nn E)
   (ho:op.op=.call { callee:=.builtin .append,args:=#[s,x],argTypes:=#[ty,ty] }) (hd:op.dst=some t') (hf:freshE E t'=true) (hnn:Nat.blt t' nn=true)
   (ht:P.underlying ty=some (.slice e)) (hzs:z.cells.size=size) (hsz:Nat.blt 0 size=true) (hby:Nat.ble bytes 1000=true) (hm:m≤1000000)
   (hs:a.eval s=.slice A m d) (hx:a.eval x=.slice (some ⟨b,0,none⟩) 1 c) (hmem:(b,BA.cells cs)∈L1) (hl:cs.length=size) (h1:cs.all (·.oneCell')=true)
   (h:∀ g cap w' a',Mem w0 ex w' ((g,.row e size (m+1) (xs++cs) cap)::L1)→Tm a' nn ((t',.slice (some ⟨g,0,none⟩) (m+1) cap)::E)→K a' w'):op.wp P a w K Q:=by
 rcases hS with ⟨rfl,rfl,rfl,g,rfl,rfl⟩ | ⟨g,rfl,rfl⟩
 · subst hsp
   obtain ⟨i,hi,hz0,hz1,hz2⟩:=info_parts hinfo
   have hsz:=Nat.le_of_ble_eq_true hsz
   have hby:=Nat.le_of_ble_eq_true hby
   have hbb:(0+1) * bytes≤140737488355328:=by omega
   have hB:=M.get (List.mem_append_left [(g,BA.any fun o=>o=.cells #[] e)] hmem)
   obtain ⟨o,hge,rfl⟩:=(M.blk (g,BA.any fun o=>o=.cells #[] e) (List.mem_append_right _ Zz2)).2
   have hgl:g < w.heap.size:=(Array.getElem?_eq_some_iff.1 hge).1
   refine wp_append_lies w s x ty ho g e i z size bytes ht hi hz0 hz1 hz2 hzs hsz (.slice (some ⟨g,0,none⟩) 0 0) 0 [] hs ⟨by simp,.inr ⟨g,0,#[],Z,Nat.le_refl _,hge,by omega,by unfold maxLen;omega,by simp,by simp⟩⟩ ⟨b,0,none⟩ 1 c cs hx (by omega) (fun j u hu=>by rw [Addr.add_mid,hB.cell,Zxa];simpa using hu) (fun u hu=>(List.all_eq_true.1 h1) u hu) (by omega) (by unfold maxLen;omega) hbb (Nat.le_of_lt hgl) w.heap.size Z ?_
   intro g' cap w' hown hgr hat hlt
   have hgr:w.grownBy w' (some g):=hgr
   simp only [Zxa,Zx5] at hown
   have e0:a.put op.dst (.slice (some ⟨g',0,none⟩) (0+1) cap)=a.put op.dst (.slice (some ⟨g',0,none⟩) (0+1) cap):=rfl
   refine h g' cap w' _ ?_ (by rw [hd];exact T.put hnn hf _)
   have Ms:=Mem.swapI (I:=L1) (L:=[(g,BA.any fun o=>o=.cells #[] e)]) M
   have hg0:g < w'.heap.size:=Nat.lt_of_lt_of_le hgl hgr.size
   rcases hat with h2 | h2
   · have h2:some g=some g':=h2
     injection h2 with h2
     subst h2
     exact Ms.callW (L':=(g,.row e size (0+1) ([]++cs) cap)::L1) .head hgr (own_rebase hown (by omega))
   · have M1:=Ms.callW (L':=(g,.any (fun _=>True))::L1) .head hgr ⟨w'.heap[g],Array.getElem?_eq_getElem hg0,trivial⟩
     exact M1.forget.add (by rw [h2];exact M.size) (own_rebase hown (by omega)) (fun q hq e=>by have:=BA.lt (Ms.blk q (Zz1 hq)).2;omega)
 · exact ow_app L1 hinfo (.inr ⟨g,d,Z,Z⟩) M hsp T ho hd hf hnn ht hzs hsz hby hm hs hx hmem hl h1 h
theorem among_any (n lo hi:Int) (w:World)  :
   Calls prog 174 #[Zi n,Zi lo,Zi hi] w fun e w'=>e=.returned (.bool (withinB n lo hi))∧Below w.heap.size w w':=by
 refine Zpx noEx func174 Z 15 Z [Zi n,Zi lo,Zi hi] Z Z (Mem.init w _) ?_
 intro ac wc T M
 refine Zsr ?_
 refine lq T (Zra Z evc) ?_;intro ac T
 replace T:=T.pick [1,2,3] rfl
 refine Zln ?_
 refine cut_seq (fun ac wc=>Tm ac 15 [(6,.bool ((decide (lo≤n)) && (decide (n≤hi))))]∧Mem w noEx wc []) ?_ ?_
 ·refine wp_region_lit ?_
  refine Zg4 T (Zq (Zrm Z (T.e 0 Z))) Z (Zm 2 Z Z) Z (fun _ T=>Zq (rn_geq Z (T.e 1 Z) (T.e 0 Z))) Z (Zm 0 Z Z) Z ?_;intro ac T
  rcases Zx9 (decide (lo≤n)) with h1 | h1
  ·replace h1:=of_decide_eq_true h1
   refine Zg5 T (Zw (Zwy Z Z (T.e 0 Z) (Zdt h1)) (Zrm Z (T.e 4 Z))) Z (fun _ T=>Zw (Zwy Z Z (T.e 1 Z) (Zdt h1)) (Zrm Z (T.e 7 Z))) Z (fun _ T=>Zw (Zwy Z Z (T.e 2 Z) (Zdt h1)) (rn_leq Z (T.e 1 Z) (T.e 0 Z))) Z (fun _ T=>Zq (Zr1 Z (T.e 3 Z) (Zdt h1) (T.e 0 Z))) Z (Za 0 Z Z) Z ?_;intro ac T
   refine wpList_nil ?_
   replace T:=T.pick [0] rfl
   exact ⟨(T.pick (E':=[(6,.bool (decide (n≤hi)))]) [0] Z).as (by (try rw [show (decide (lo≤n))=true from (Zdt h1)]);(try rfl)),M.mask [] Z⟩
  replace h1:=of_decide_eq_false h1
  refine Zg5 T (Zp (Zwn Z Z (T.e 0 Z) (Zdf h1))) Z (fun _ T=>Zp (Zwn Z Z (T.e 1 Z) (Zdf h1))) Z (fun _ T=>Zp (Zwn Z Z (T.e 2 Z) (Zdf h1))) Z (fun _ T=>Zq (Zr0 Z (T.e 3 Z) (Zdf h1) evc)) Z (Za 0 Z Z) Z ?_;intro ac T
  refine wpList_nil ?_
  replace T:=T.pick [0] rfl
  exact ⟨(T.pick (E':=[(6,.bool false)]) [0] Z).as (by (try rw [show (decide (lo≤n))=false from (Zdf h1)]);(try rfl)),M.mask [] Z⟩
 clear T M
 rintro ac wc ⟨T,M⟩
 refine wp_ret ?_
 refine rt_1 T Z (T.e 0 Z) ?_
 exact ⟨ret_bool (by unfold withinB;simp),M.below⟩
theorem rcheckRange_any (x0 x1 lo hi:Int) (w:World)  :
   Calls prog 172 #[.agg #[Zi x0,Zi x1],Zi lo,Zi hi] w fun e w'=>e=.returned (Zi (chkR x0 x1 lo hi))∧Below w.heap.size w w':=by
 refine Zpx noEx func172 Z 26 Z [.agg #[Zi x0,Zi x1],Zi lo,Zi hi] Z Z (Mem.init w _) ?_
 intro ac wc T M
 refine Zsr ?_
 refine Zl2 ?_
 refine Zob M T Z Z Z Z (T.e 0 Z) Z ?_;clear M T;intro g1 wc ac M T
 refine lq T (Zra Z evc) ?_;intro ac T
 replace T:=T.pick [1,3,4] rfl
 refine Zln ?_
 refine wp_seq ?_
 refine cut_seq (fun ac wc=>Tm ac 26 [(3,Zj g1),(20,.bool ((!(withinB x0 lo hi)) || (!(withinB x1 lo hi))))]∧Mem w noEx wc [(g1,.cells [Zi x0,Zi x1])]) ?_ ?_
 ·refine wp_region_lit ?_
  refine Zg4 (v1:=(Zj g1)) T (Zq (Zrg 0 Z (T.e 0 Z))) Z (Zo M 0 0 Z Z Z Z) Z (Zm 3 Z Z) Z (Zm 5 Z Z) Z ?_;intro ac T
  refine Zl2 ?_
  refine Zod T Z Z Z Z evf (.cons (T.e 2 Z) (.cons (T.e 1 Z) (.cons (T.e 0 Z) .nil))) func174 Z Z ?_
  refine Calls.mono (among_any x0 lo hi _) ?_
  clear T;rintro e wc ⟨rfl,hb⟩ ac T
  replace M:=M.call hb;clear hb
  refine Zg2 T (Zq (rn_not Z (T.e 0 Z))) Z (Zm 0 Z Z) Z ?_;intro ac T
  rcases Zx9 (!(withinB x0 lo hi)) with h1 | h1
  ·refine Zg7 T (Zp (Zwn Z Z (T.e 0 Z) h1)) Z (fun _ T=>Zp (Zwn Z Z (T.e 1 Z) h1)) Z (fun _ T=>Zp (Zwn Z Z (T.e 2 Z) h1)) Z (fun _ T=>Zp (Zwn Z Z (T.e 3 Z) h1)) Z (fun _ T=>Zp (Zwn Z Z (T.e 4 Z) h1)) Z (fun _ T=>Zp (Zwn Z Z (T.e 5 Z) h1)) Z (fun _ T=>Zq (Zr1 Z (T.e 6 Z) h1 evc)) Z ?_;intro ac T
   refine wpList_nil ?_
   replace T:=T.pick [0,14] rfl
   exact ⟨(T.pick (E':=[(3,Zj g1),(20,.bool true)]) [1,0] Z).as (by (try rw [show (!(withinB x0 lo hi))=true from h1]);(try rfl)),M.mask [true] Z⟩
  refine Zg4 (v1:=(.pointer (some ⟨g1,1,none⟩))) T (Zw (Zwy Z Z (T.e 0 Z) h1) (Zrg 1 Z (T.e 7 Z))) Z (fun _ T=>Zw (Zwy Z Z (T.e 1 Z) h1) (Zro (Mem.nth M 0 Z) Z (T.e 0 Z) Z)) Z (fun _ T=>Zw (Zwy Z Z (T.e 2 Z) h1) (Zrm Z (T.e 10 Z))) Z (fun _ T=>Zw (Zwy Z Z (T.e 3 Z) h1) (Zrm Z (T.e 12 Z))) Z ?_;intro ac T
  refine l_w (Zwy Z Z (T.e 4 Z) h1) ?_;intro K hK
  refine Zod T Z Z Z Z evf (.cons (T.e 2 Z) (.cons (T.e 1 Z) (.cons (T.e 0 Z) .nil))) func174 Z Z ?_
  refine Calls.mono (among_any x1 lo hi _) ?_
  clear T;rintro e wc ⟨rfl,hb⟩ ac T
  replace M:=M.call hb;clear hb
  refine Zso hK _ _ ?_;clear hK K
  refine Zg2 T (Zw (Zwy Z Z (T.e 5 Z) h1) (rn_not Z (T.e 0 Z))) Z (fun _ T=>Zq (Zr0 Z (T.e 6 Z) h1 (T.e 0 Z))) Z ?_;intro ac T
  refine wpList_nil ?_
  replace T:=T.pick [0,14] rfl
  exact ⟨(T.pick (E':=[(3,Zj g1),(20,.bool (!(withinB x1 lo hi)))]) [1,0] Z).as (by (try rw [show (!(withinB x0 lo hi))=false from h1]);(try rfl)),M.mask [true] Z⟩
 clear T M
 rintro ac wc ⟨T,M⟩
 refine wp_cond_split (T.e 1 Z) ?_ ?_
 ·intro h2
  (have h2':=h2;try simp only [Zb1,Zb2,Zb3,Zb4,Zb5,Zb6,Zb7] at h2')
  refine Zsr ?_
  refine lq T (Zra Z evc) ?_;intro ac T
  refine wpList_nil ?_
  replace T:=T.pick [0] rfl
  replace M:=M.mask [false] rfl
  refine Znr ?_
  refine Zrt ?_
  refine rt_1 T Z (T.e 0 Z) ?_
  exact ⟨ret_int (by unfold chkR;first | (simp_all;done) | (simp_all;omega) | (simp_all;intro h8 h9;simp_all)),M.below⟩
 intro h2
 (have h2':=h2;try simp only [Zb1,Zb2,Zb3,Zb4,Zb5,Zb6,Zb7] at h2')
 refine Zsk ?_
 refine wp_seq ?_
 refine Zsr ?_
 refine Zg5 (v1:=(Zj g1)) (v3:=(.pointer (some ⟨g1,1,none⟩))) T (Zq (Zrg 0 Z (T.e 0 Z))) Z (Zo M 0 0 Z Z Z Z) Z (Zf 1 2 Z Z) Z (Zo M 0 0 Z Z Z Z) Z (fun _ T=>Zq (rn_gtr Z (T.e 2 Z) (T.e 0 Z))) Z ?_;intro ac T
 refine wpList_nil ?_
 replace T:=T.pick [0] rfl
 replace M:=M.mask [false] rfl
 refine nm_then ?_
 refine wp_if (T.e 0 Z) ?_ ?_
 ·intro h3
  refine Zsr ?_
  refine lq T (Zra Z evc) ?_;intro ac T
  replace T:=T.pick [0] rfl
  refine Zln ?_
  refine wp_ret ?_
  refine Zrt ?_
  refine rt_1 T Z (T.e 0 Z) ?_
  exact ⟨ret_int (by unfold chkR;first | (simp_all;done) | (simp_all;omega) | (simp_all;intro h8 h9;simp_all)),M.below⟩
 intro h3
 refine Zsk ?_
 refine Zsr ?_
 refine lq T (Zra Z evc) ?_;intro ac T
 replace T:=T.pick [0] rfl
 refine Zln ?_
 refine wp_ret ?_
 refine rt_1 T Z (T.e 0 Z) ?_
 exact ⟨ret_int (by unfold chkR;first | (simp_all;done) | (simp_all;omega) | (simp_all;intro h8 h9;simp_all)),M.below⟩
theorem rcheckAll_any (lo hi:Int) (A:Option Addr) (n c:Nat) (l:List (Int×Int)) (w:World) (hr:Rd w w.heap.size 2 A n (rc l)) (hn:n≤9223372036854775807) :
   Calls prog 173 #[.slice A n c,Zi lo,Zi hi] w fun e w'=>e=.returned (Zi (chkAll lo hi l))∧Below w.heap.size w w':=by
 have hl:=hr.len2
 obtain ⟨bJ,oJ,SJ⟩:=Sp.old hr
 refine Zpx noEx func173 Z 25 Z [.slice A n c,Zi lo,Zi hi] Z Z (Mem.init w _) ?_
 intro ac wc T M
 refine Zsr ?_
 refine lq T (Zra Z evc) ?_;intro ac T
 replace T:=T.pick [1,2,3] rfl
 refine Zln ?_
 refine wp_seq ?_
 refine Zsr ?_
 refine lq T (Zra Z evc) ?_;intro ac T
 refine Zln ?_
 refine wp_block ?_
 refine wp_loop_n (fun mz ac wc=>∃ (k:Nat),mz=n - k∧(k≤n)∧(chkAll lo hi l=chkAll lo hi (l.drop k))∧Tm ac 25 [(0,.slice A n c),(1,Zi lo),(2,Zi hi),(7,Zi (k:Int))]∧Mem w noEx wc []) ?_ ?_
 ·exact ⟨_,0,Z,(by omega),Z,T.pick [1,2,3,0] Z,M.mask [] Z⟩
 clear T M
 rintro mz ac wc ⟨k,hmm1,hk,H,T,M⟩
 refine wp_seq ?_
 refine Zsr ?_
 refine Zg4 T (Zq (Zrm Z (T.e 3 Z))) Z (Zm 1 Z Z) Z (Zl underlying57 0 Z Z) Z (fun _ T=>Zq (rn_lss Z (T.e 2 Z) (T.e 0 Z))) Z ?_;intro ac T
 replace T:=T.pick [0,4,5,6,7] rfl
 refine Zln ?_
 refine wp_if (T.e 0 Z) ?_ ?_
 ·intro h1
  obtain ⟨x0,x1,hk1,hd⟩:=rc_next (l:=l) (k:=k) (by omega)
  rw [hd,chkAll] at H
  refine Zsk ?_
  refine wp_seq ?_
  refine wp_block ?_
  refine Zsr ?_
  refine Zg6 (v4:=(.agg #[Zi x0,Zi x1])) T (Zq (Zrm Z (T.e 1 Z))) Z (Zm 5 Z Z) Z (fun _ T=>Zq (Zri (size:=2) k Z (T.e 1 Z) (T.e 0 Z) ⟨_,underlying57,by kernel_rfl⟩ Z (by omega) (SJ.at0 (by omega)))) Z (fun _ T=>Zq (rn_rowat (Sp.rcR SJ M (Zz9 _) hk1) Z (T.e 0 Z) Z)) Z (Zm 6 Z Z) Z (Zm 8 Z Z) Z ?_;intro ac T
  refine Zl2 ?_
  refine Zod T Z Z Z Z evf (.cons (T.e 2 Z) (.cons (T.e 1 Z) (.cons (T.e 0 Z) .nil))) func172 Z Z ?_
  refine Calls.mono (rcheckRange_any x0 x1 lo hi _) ?_
  clear T;rintro e wc ⟨rfl,hb⟩ ac T
  replace M:=M.call hb;clear hb
  refine lq T (Zra Z (T.e 0 Z)) ?_;intro ac T
  replace T:=T.pick [0,9,10,11,12] rfl
  refine Zln ?_
  refine Zsr ?_
  refine Zg2 T (Zq (Zrm Z (T.e 0 Z))) Z (fun _ T=>Zq (rn_neq Z (T.e 0 Z) evc)) Z ?_;intro ac T
  replace T:=T.pick [0,2,3,4,5,6] rfl
  refine Zln ?_
  refine wp_ifn (T.e 0 Z) ?_ ?_
  ·intro h2
   refine Zsr ?_
   refine Zg2 T (Zq (Zrm Z (T.e 1 Z))) Z (Za 0 Z Z) Z ?_;intro ac T
   replace T:=T.pick [0] rfl
   refine Zln ?_
   refine wp_ret ?_
   refine Zrb ?_
   refine Zrt ?_
   refine Zrt ?_
   refine Zrb ?_
   refine Zrt ?_
   refine rt_1 T Z (T.e 0 Z) ?_
   rw [if_pos (by simp_all)] at H
   exact ⟨ret_int H.symm,M.below⟩
  intro h2
  refine wp_skip ?_
  refine Znb ?_
  refine nm_then ?_
  refine wp_region_lit ?_
  refine Zg2 T (Zq (Zrm Z (T.e 5 Z))) Z (fun _ T=>Zq (rn_add Z (T.e 0 Z) evc (by omega))) Z ?_;intro ac T
  refine l_q (v:=(Zi ((k:Int)+1))) (T.pick [0,1,2,3,4,5,6] Z) Z Z Z Z (Zra Z (T.e 0 Z)) ?_;intro ac T
  replace T:=T.pick [0,5,6,7] rfl
  refine Zln ?_
  rw [if_neg (by simp_all)] at H
  exact ⟨_,by omega,k+1,Z,(by omega),H,T.pick [1,2,3,0] Z,M.mask [] Z⟩
 intro h1
 rw [List.drop_of_length_le (by omega),chkAll] at H
 refine wp_exit ?_
 refine Zet ?_
 refine Zet ?_
 refine ex_hit ?_
 refine nm_then ?_
 refine Zsr ?_
 refine lq T (Zra Z evc) ?_;intro ac T
 replace T:=T.pick [0] rfl
 refine Zln ?_
 refine wp_ret ?_
 refine rt_1 T Z (T.e 0 Z) ?_
 exact ⟨ret_int H.symm,M.below⟩
theorem rCheck_any (j:Jb) (A:Option Addr) (c:Nat) (w:World) (hr:Rd w w.heap.size 2 A j.sh.length (rc j.sh)) (hn:j.sh.length≤9223372036854775807) :
   Calls prog 107 #[jobV j A c] w fun e w'=>e=.returned (Zi (checkJ j))∧Below w.heap.size w w':=by
 obtain ⟨bJ,oJ,SJ⟩:=Sp.old hr
 refine Zpx noEx func107 Z 67 Z [.agg #[Zi j.p0,Zi j.p1,Zi j.t0,Zi j.t1,Zi j.r0,Zi j.r1,Zi j.u0,Zi j.u1,Zi j.d0,Zi j.d1,Zi j.a0,Zi j.a1,Zi j.b0,Zi j.b1,Zi j.le,.slice A j.sh.length c,Zi j.wi,Zi j.me]] Z Z (Mem.init w _) ?_
 intro ac wc T M
 refine Zsr ?_
 refine Zl2 ?_
 refine Zob M T Z Z Z Z (T.e 0 Z) Z ?_;clear M T;intro g1 wc ac M T
 refine lq T (Zra Z evc) ?_;intro ac T
 replace T:=T.pick [1] rfl
 refine Zln ?_
 refine wp_seq ?_
 refine Zsr ?_
 refine Zg3 (v1:=(Zj g1)) (v2:=(Zj g1)) T (Zq (Zrg 0 Z (T.e 0 Z))) Z (Zf 0 0 Z Z) Z (Zr M 0 0 Z Z Z Z) Z ?_;intro ac T
 refine Zl2 ?_
 refine Zod T Z Z Z Z evf (.cons (T.e 0 Z) (.cons evc (.cons evc .nil))) func172 Z Z ?_
 refine Calls.mono (rcheckRange_any j.p0 j.p1 (-60) 60 _) ?_
 clear T;rintro e wc ⟨rfl,hb⟩ ac T
 replace M:=M.call hb;clear hb
 refine lq T (Zra Z (T.e 0 Z)) ?_;intro ac T
 replace T:=T.pick [0,5] rfl
 refine Zln ?_
 refine Zsr ?_
 refine Zg2 T (Zq (Zrm Z (T.e 0 Z))) Z (fun _ T=>Zq (rn_neq Z (T.e 0 Z) evc)) Z ?_;intro ac T
 replace T:=T.pick [0,2,3] rfl
 refine Zln ?_
 refine wp_ifn (T.e 0 Z) ?_ ?_
 ·intro h1
  refine Zsr ?_
  refine Zg2 T (Zq (Zrm Z (T.e 1 Z))) Z (Za 0 Z Z) Z ?_;intro ac T
  refine wpList_nil ?_
  replace T:=T.pick [0] rfl
  replace M:=M.mask [false] rfl
  refine Znr ?_
  refine Zrt ?_
  refine rt_1 T Z (T.e 0 Z) ?_
  refine ⟨ret_int ?_,M.below⟩
  unfold checkJ
  first | (simp_all;done) | (simp_all;omega) | (simp_all;intro h9;omega)
 intro h1
 refine Zsk ?_
 refine wp_seq ?_
 refine Zsr ?_
 refine Zg6 (v1:=(Zj g1)) (v2:=(.pointer (some ⟨g1,2,none⟩))) (v4:=(Zj g1)) (v5:=(.pointer (some ⟨g1,4,none⟩))) T (Zq (Zrg 0 Z (T.e 2 Z))) Z (Zf 2 0 Z Z) Z (Zr M 0 0 Z Z Z Z) Z (Zf 0 5 Z Z) Z (Zf 4 0 Z Z) Z (Zr M 0 0 Z Z Z Z) Z ?_;intro ac T
 refine Zl2 ?_
 refine ow_bs (e:=26) [Zi j.t0,Zi j.t1,Zi j.r0,Zi j.r1] M T Z Z Z Z (.cons (T.e 3 Z) (.cons (T.e 0 Z) .nil)) (fun _=>by kernel_rfl) ?_;clear M T;intro g2 wc ac M T
 refine Zl2 ?_
 refine Zod T Z Z Z Z evf (.cons (T.e 0 Z) (.cons evc (.cons evc .nil))) func173 Z Z ?_
 refine Calls.mono (rcheckAll_any 0 100 _ _ _ [(j.t0,j.t1),(j.r0,j.r1)] _ (M.rdOwn (Zne (i:=0) Z) Z Z) (by first | decide | omega)) ?_
 clear T;rintro e wc ⟨rfl,hb⟩ ac T
 replace M:=M.call hb;clear hb
 refine lq T (Zra Z (T.e 0 Z)) ?_;intro ac T
 refine wpList_nil ?_
 replace T:=T.pick [0,11] rfl
 replace M:=M.mask [false,true] rfl
 refine nm_then ?_
 refine Zsr ?_
 refine Zg2 T (Zq (Zrm Z (T.e 0 Z))) Z (fun _ T=>Zq (rn_neq Z (T.e 0 Z) evc)) Z ?_;intro ac T
 replace T:=T.pick [0,2,3] rfl
 refine Zln ?_
 refine wp_ifn (T.e 0 Z) ?_ ?_
 ·intro h2
  refine Zsr ?_
  refine Zg2 T (Zq (Zrm Z (T.e 1 Z))) Z (Za 0 Z Z) Z ?_;intro ac T
  refine wpList_nil ?_
  replace T:=T.pick [0] rfl
  replace M:=M.mask [false] rfl
  refine Znr ?_
  refine Zrt ?_
  refine rt_1 T Z (T.e 0 Z) ?_
  refine ⟨ret_int ?_,M.below⟩
  unfold checkJ
  first | (simp_all;done) | (simp_all;omega) | (simp_all;intro h9;omega)
 intro h2
 refine Zsk ?_
 refine wp_seq ?_
 refine Zsr ?_
 refine Zg8 (v1:=(.pointer (some ⟨g1,6,none⟩))) (v2:=(.pointer (some ⟨g1,6,none⟩))) (v4:=(.pointer (some ⟨g1,6,none⟩))) (v5:=(.pointer (some ⟨g1,8,none⟩))) (v7:=(.pointer (some ⟨g1,6,none⟩))) (v8:=(.pointer (some ⟨g1,10,none⟩))) T (Zq (Zrg 6 Z (T.e 2 Z))) Z (Zf 0 0 Z Z) Z (Zr M 0 0 Z Z Z Z) Z (Zf 6 5 Z Z) Z (Zf 2 0 Z Z) Z (Zr M 0 0 Z Z Z Z) Z (Zf 6 8 Z Z) Z (Zf 4 0 Z Z) Z ?_;intro ac T
 refine Zg4 (v2:=(.pointer (some ⟨g1,6,none⟩))) (v3:=(.pointer (some ⟨g1,12,none⟩))) T (Zq (Zrr (Mem.nth M 0 Z) Z (T.e 0 Z) Z)) Z (Zf 6 11 Z Z) Z (Zf 6 0 Z Z) Z (Zr M 0 0 Z Z Z Z) Z ?_;intro ac T
 refine Zl2 ?_
 refine ow_bs (e:=26) [Zi j.u0,Zi j.u1,Zi j.d0,Zi j.d1,Zi j.a0,Zi j.a1,Zi j.b0,Zi j.b1] M T Z Z Z Z (.cons (T.e 9 Z) (.cons (T.e 6 Z) (.cons (T.e 3 Z) (.cons (T.e 0 Z) .nil)))) (fun _=>by kernel_rfl) ?_;clear M T;intro g3 wc ac M T
 refine Zl2 ?_
 refine Zod T Z Z Z Z evf (.cons (T.e 0 Z) (.cons evc (.cons evc .nil))) func173 Z Z ?_
 refine Calls.mono (rcheckAll_any 0 12 _ _ _ [(j.u0,j.u1),(j.d0,j.d1),(j.a0,j.a1),(j.b0,j.b1)] _ (M.rdOwn (Zne (i:=0) Z) Z Z) (by first | decide | omega)) ?_
 clear T;rintro e wc ⟨rfl,hb⟩ ac T
 replace M:=M.call hb;clear hb
 refine lq T (Zra Z (T.e 0 Z)) ?_;intro ac T
 refine wpList_nil ?_
 replace T:=T.pick [0,17] rfl
 replace M:=M.mask [false,true] rfl
 refine nm_then ?_
 refine Zsr ?_
 refine Zg2 T (Zq (Zrm Z (T.e 0 Z))) Z (fun _ T=>Zq (rn_neq Z (T.e 0 Z) evc)) Z ?_;intro ac T
 replace T:=T.pick [0,2,3] rfl
 refine Zln ?_
 refine wp_ifn (T.e 0 Z) ?_ ?_
 ·intro h3
  refine Zsr ?_
  refine Zg2 T (Zq (Zrm Z (T.e 1 Z))) Z (Za 0 Z Z) Z ?_;intro ac T
  refine wpList_nil ?_
  replace T:=T.pick [0] rfl
  replace M:=M.mask [false] rfl
  refine Znr ?_
  refine Zrt ?_
  refine rt_1 T Z (T.e 0 Z) ?_
  refine ⟨ret_int ?_,M.below⟩
  unfold checkJ
  first | (simp_all;done) | (simp_all;omega) | (simp_all;intro h9;omega)
 intro h3
 refine Zsk ?_
 refine wp_seq ?_
 refine Zsr ?_
 refine Zg3 (v1:=(.pointer (some ⟨g1,6,none⟩))) (v2:=(.pointer (some ⟨g1,14,none⟩))) T (Zq (Zrg 6 Z (T.e 2 Z))) Z (Zf 8 0 Z Z) Z (Zo M 0 0 Z Z Z Z) Z ?_;intro ac T
 refine Zl2 ?_
 refine Zod T Z Z Z Z evf (.cons (T.e 0 Z) (.cons evc (.cons evc .nil))) func174 Z Z ?_
 refine Calls.mono (among_any j.le 0 100 _) ?_
 clear T;rintro e wc ⟨rfl,hb⟩ ac T
 replace M:=M.call hb;clear hb
 refine lq T (rn_not Z (T.e 0 Z)) ?_;intro ac T
 replace T:=T.pick [0,7] rfl
 refine Zln ?_
 refine wp_cond_split (T.e 0 Z) ?_ ?_
 ·intro h4
  (have h4':=h4;try simp only [Zb1,Zb2,Zb3,Zb4,Zb5,Zb6,Zb7] at h4')
  refine Zsr ?_
  refine lq T (Zra Z evc) ?_;intro ac T
  refine wpList_nil ?_
  replace T:=T.pick [0] rfl
  replace M:=M.mask [false] rfl
  refine Znr ?_
  refine Zrt ?_
  refine rt_1 T Z (T.e 0 Z) ?_
  refine ⟨ret_int ?_,M.below⟩
  unfold checkJ
  first | (simp_all;done) | (simp_all;omega) | (simp_all;intro h9;omega)
 intro h4
 (have h4':=h4;try simp only [Zb1,Zb2,Zb3,Zb4,Zb5,Zb6,Zb7] at h4')
 refine Zsk ?_
 refine wp_seq ?_
 refine Zsr ?_
 refine Zg4 (v1:=(.pointer (some ⟨g1,15,none⟩))) T (Zq (Zrg 15 Z (T.e 1 Z))) Z (Zo M 0 0 Z Z Z Z) Z (Zl underlying57 0 Z Z) Z (fun _ T=>Zq (rn_gtr Z (T.e 0 Z) evc)) Z ?_;intro ac T
 replace T:=T.pick [0,5] rfl
 refine Zln ?_
 refine wp_if (T.e 0 Z) ?_ ?_
 ·intro h5
  refine Zsr ?_
  refine lq T (Zra Z evc) ?_;intro ac T
  refine wpList_nil ?_
  replace T:=T.pick [0] rfl
  replace M:=M.mask [false] rfl
  refine Znr ?_
  refine Zrt ?_
  refine rt_1 T Z (T.e 0 Z) ?_
  refine ⟨ret_int ?_,M.below⟩
  unfold checkJ
  first | (simp_all;done) | (simp_all;omega) | (simp_all;intro h9;omega)
 intro h5
 refine Zsk ?_
 refine wp_seq ?_
 refine Zsr ?_
 refine Zg2 (v1:=(.pointer (some ⟨g1,15,none⟩))) T (Zq (Zrg 15 Z (T.e 1 Z))) Z (Zo M 0 0 Z Z Z Z) Z ?_;intro ac T
 refine Zl2 ?_
 refine Zod T Z Z Z Z evf (.cons (T.e 0 Z) (.cons evc (.cons evc .nil))) func173 Z Z ?_
 refine Calls.mono (rcheckAll_any (-60) 60 _ _ _ j.sh _ (SJ.rd M (Zz9 _)) (by first | decide | omega)) ?_
 clear T;rintro e wc ⟨rfl,hb⟩ ac T
 replace M:=M.call hb;clear hb
 refine lq T (Zra Z (T.e 0 Z)) ?_;intro ac T
 replace T:=T.pick [0,5] rfl
 refine Zln ?_
 refine Zsr ?_
 refine Zg2 T (Zq (Zrm Z (T.e 0 Z))) Z (fun _ T=>Zq (rn_neq Z (T.e 0 Z) evc)) Z ?_;intro ac T
 replace T:=T.pick [0,2,3] rfl
 refine Zln ?_
 refine wp_ifn (T.e 0 Z) ?_ ?_
 ·intro h6
  refine Zsr ?_
  refine Zg2 T (Zq (Zrm Z (T.e 1 Z))) Z (Za 0 Z Z) Z ?_;intro ac T
  refine wpList_nil ?_
  replace T:=T.pick [0] rfl
  replace M:=M.mask [false] rfl
  refine Znr ?_
  refine Zrt ?_
  refine rt_1 T Z (T.e 0 Z) ?_
  refine ⟨ret_int ?_,M.below⟩
  unfold checkJ
  first | (simp_all;done) | (simp_all;omega) | (simp_all;intro h9;omega)
 intro h6
 refine Zsk ?_
 refine wp_seq ?_
 refine cut_seq (fun ac wc=>Tm ac 67 [(66,.bool ((!(withinB j.wi 0 60)) || (!(withinB j.me 0 6))))]∧Mem w noEx wc []) ?_ ?_
 ·refine wp_region_lit ?_
  refine Zg2 (v1:=(.pointer (some ⟨g1,16,none⟩))) T (Zq (Zrg 16 Z (T.e 2 Z))) Z (Zo M 0 0 Z Z Z Z) Z ?_;intro ac T
  refine Zl2 ?_
  refine Zod T Z Z Z Z evf (.cons (T.e 0 Z) (.cons evc (.cons evc .nil))) func174 Z Z ?_
  refine Calls.mono (among_any j.wi 0 60 _) ?_
  clear T;rintro e wc ⟨rfl,hb⟩ ac T
  replace M:=M.call hb;clear hb
  refine Zg2 T (Zq (rn_not Z (T.e 0 Z))) Z (Zm 0 Z Z) Z ?_;intro ac T
  rcases Zx9 (!(withinB j.wi 0 60)) with h7 | h7
  ·refine Zg5 T (Zp (Zwn Z Z (T.e 0 Z) h7)) Z (fun _ T=>Zp (Zwn Z Z (T.e 1 Z) h7)) Z (fun _ T=>Zp (Zwn Z Z (T.e 2 Z) h7)) Z (fun _ T=>Zp (Zwn Z Z (T.e 3 Z) h7)) Z (fun _ T=>Zq (Zr1 Z (T.e 4 Z) h7 evc)) Z ?_;intro ac T
   refine wpList_nil ?_
   replace T:=T.pick [0] rfl
   replace M:=M.mask [false] rfl
   exact ⟨(T.pick (E':=[(66,.bool true)]) [0] Z).as (by (try rw [show (!(withinB j.wi 0 60))=true from h7]);(try rfl)),M.mask [] Z⟩
  refine Zg2 (v1:=(.pointer (some ⟨g1,17,none⟩))) T (Zw (Zwy Z Z (T.e 0 Z) h7) (Zrg 17 Z (T.e 7 Z))) Z (fun _ T=>Zw (Zwy Z Z (T.e 1 Z) h7) (Zro (Mem.nth M 0 Z) Z (T.e 0 Z) Z)) Z ?_;intro ac T
  refine l_w (Zwy Z Z (T.e 2 Z) h7) ?_;intro K hK
  refine Zod T Z Z Z Z evf (.cons (T.e 0 Z) (.cons evc (.cons evc .nil))) func174 Z Z ?_
  refine Calls.mono (among_any j.me 0 6 _) ?_
  clear T;rintro e wc ⟨rfl,hb⟩ ac T
  replace M:=M.call hb;clear hb
  refine Zso hK _ _ ?_;clear hK K
  refine Zg2 T (Zw (Zwy Z Z (T.e 3 Z) h7) (rn_not Z (T.e 0 Z))) Z (fun _ T=>Zq (Zr0 Z (T.e 4 Z) h7 (T.e 0 Z))) Z ?_;intro ac T
  refine wpList_nil ?_
  replace T:=T.pick [0] rfl
  replace M:=M.mask [false] rfl
  exact ⟨(T.pick (E':=[(66,.bool (!(withinB j.me 0 6)))]) [0] Z).as (by (try rw [show (!(withinB j.wi 0 60))=false from h7]);(try rfl)),M.mask [] Z⟩
 clear T M
 rintro ac wc ⟨T,M⟩
 refine wp_cond_split (T.e 0 Z) ?_ ?_
 ·intro h8
  (have h8':=h8;try simp only [Zb1,Zb2,Zb3,Zb4,Zb5,Zb6,Zb7] at h8')
  refine Zsr ?_
  refine lq T (Zra Z evc) ?_;intro ac T
  replace T:=T.pick [0] rfl
  refine Zln ?_
  refine wp_ret ?_
  refine Zrt ?_
  refine rt_1 T Z (T.e 0 Z) ?_
  refine ⟨ret_int ?_,M.below⟩
  unfold checkJ
  first | (simp_all;done) | (simp_all;omega) | (simp_all;intro h9;omega)
 intro h8
 (have h8':=h8;try simp only [Zb1,Zb2,Zb3,Zb4,Zb5,Zb6,Zb7] at h8')
 refine Zsk ?_
 refine Zsr ?_
 refine lq T (Zra Z evc) ?_;intro ac T
 replace T:=T.pick [0] rfl
 refine Zln ?_
 refine wp_ret ?_
 refine rt_1 T Z (T.e 0 Z) ?_
 refine ⟨ret_int ?_,M.below⟩
 unfold checkJ
 first | (simp_all;done) | (simp_all;omega) | (simp_all;intro h9;omega)
theorem Sp.mono {w:World} {ex:Nat→Prop} {I I':List (Nat×BA)} {A:Option Addr} {n size b o:Nat} {xs:List Value} (S:Sp w ex I A n size b o xs) (h:I.Sublist I'):Sp w ex I' A n size b o xs :=
 ⟨S.at0,S.len,fun w' L M hI hn=>S.lt w' L M (h.trans hI) hn,fun w' L M hI=>S.cell w' L M (h.trans hI)⟩
theorem Sp.pre {w:World} {ex:Nat→Prop} {size n g:Nat} {xs ys:List Value} (hl:xs.length=n * size):Sp w ex [(g,.cells (xs++ys))] (some ⟨g,0,none⟩) n size g 0 xs :=
 ⟨fun _=>rfl,hl,fun w' L M hI _=>BA.lt (M.blk _ (hI.subset Zz2)).2,fun w' L M hI j u hu=>by
  have hb:=M.get (hI.subset Zz2)
  rw [hb.cell,Zxa,List.getElem?_toArray,List.getElem?_append_left (List.getElem?_eq_some_iff.1 hu).1]
  exact hu⟩
abbrev JE:=Jb×Option Addr×Nat
abbrev LE:=List Int×Option Addr×Nat
def lc (l:List LE):List Value:=l.map fun x=>.slice x.2.1 x.1.length x.2.2
theorem lc_length (l:List LE):(lc l).length=l.length:=by simp [lc]
section
variable {w w':World} {ex:Nat→Prop} {I L:List (Nat×BA)} {n b o k:Nat} {A:Option Addr} {l:List JE} {r:List LE}
theorem Sp.lc0 {x:List Int} {B:Option Addr} {c:Nat} (S:Sp w ex I A n 1 b o (lc r)) (M:Mem w ex w' L) (hI:I.Sublist L) (h:r[k]? = some (x,B,c)):w'.cell? ⟨b,o+k * 1,none⟩=some (.slice B x.length c):=by
 rw [Nat.mul_one]
 exact S.cell w' L M hI _ _ (by unfold lc;rw [List.getElem?_map,h];rfl)
end
section
variable {P:Program} {op:Oper} {a:Act} {K:Act→World→Prop} {Q:Exit→Act→World→Prop} {w0 w:World} {ex:Nat→Prop} {L0 L:List (Nat×BA)} {E:List (Nat×Value)} {t n:Nat}
theorem ow_bsR {ty e size:Nat} {len:Nat} {parts:List (Nat×Operand)} {vs:List (Nat×Value)} (l:List Value) (M:Mem w0 ex w L) (T:Tm a n E) (ho:op.op=.buildSlice ty len parts.toArray) (hd:op.dst=some t) (hf:freshE E t=true) (hn:Nat.blt t n=true) (hv:EvP a parts vs)
  (hr:∀ w:World,(Instr.buildSlice ty len vs.toArray).run P w=.ok (.slice (some ⟨w.heap.size,0,none⟩) len len) (w.alloc (.cells l.toArray e)))
  (hl:l.length=len * size) (h0:Nat.blt 0 len=true) (h1:Nat.ble len 1000=true)
  (h:∀ g w' a',Mem w0 ex w' ((g,.row e size len l len)::L)→Tm a' n ((t,.slice (some ⟨g,0,none⟩) len len)::E)→K a' w'):op.wp P a w K Q:=by
 unfold Oper.wp execOp
 simp only [ho]
 have e1:(parts.toArray.map fun x=>(x.1,a.eval x.2))=vs.toArray:=by simp [← hv.map]
 have e2:(parts.toArray.map fun (i,x)=>(i,a.eval x))=vs.toArray:=e1
 rw [Sem.run_bind,e2,hr]
 have h1:=Nat.le_of_ble_eq_true h1
 refine h w.heap.size _ _ ?_ (by rw [hd];exact T.put hn hf _)
 refine (M.alloc _).add M.size ⟨⟨hl,.inr ⟨w.heap.size,len,l.toArray,Z,Nat.le_refl _,heap_alloc_new w _,Nat.le_refl _,by unfold maxLen;omega,by simp [hl],by simp [← hl]⟩⟩,Nat.le_of_ble_eq_true h0⟩ (fun q hq e=>by have:=(BA.lt (M.blk q hq).2);omega)
theorem ow_stI {ty : TypeId} {x y : Operand} {g k : Nat} {v : Int} {l : List Int} {ys : List Value} {L' : List (Nat × BA)} (M : Mem w0 ex w L) (T : Tm a n E) (ho : op.op = .store ty x y) (hd : op.dst = none) (hx : a.eval x = .pointer (some ⟨g, 0 + k * 1, none⟩)) (hy : a.eval y = Zi v)
   (hu:Upd L g (.cells (ic l++ys)) (.cells (ic (l.set k v)++ys)) L') (hk:k < l.length) (hi:(P.info? ty).map (·.size)=some 1)
   (h:∀ w' a',Mem w0 ex w' L'→Tm a' n E→K a' w'):op.wp P a w K Q:=by
 refine m_stw (ds:=[Zi v]) M ho hx hy Z hu ?_ (by simp only [Zx3,Zx1,Zx2,ic_length];omega) Z hi fun w' M'=>h w' _ M' (by rw [hd];exact T)
 rw [Zxa,Nat.mul_one,List.take_append_of_le_length (by rw [ic_length];omega),List.drop_append_of_le_length (by rw [ic_length];simp;omega),← List.append_assoc]
 congr 1
 unfold ic
 rw [← List.map_take,← List.map_drop,List.set_eq_take_append_cons_drop,if_pos hk]
 simp
theorem rn_rem {ty ty':TypeId} {x y:Operand} {p q:Int} (ho:op.op=.binOp .rem ty x y ty') (hx:a.eval x=Zi p) (hy:a.eval y=Zi q) (hq:q≠0):Runs P op a (Zi (p.tmod q)) w:=by
 refine rn_bin ho hx hy ?_
 rw [eqGuard_rem,binOp_rem]
 unfold Op.intDiv
 rw [if_neg (by simpa using hq)]
 rfl
end
theorem tmod_bd (p:Int) (q:Nat) (h:0 < q) : -(q:Int) < p.tmod q∧p.tmod q < q:=by
 have h1:=Int.tmod_lt_of_pos p (b:=(q:Int)) (by omega)
 have h2:=Int.tmod_lt_of_pos (-p) (b:=(q:Int)) (by omega)
 rw [Int.neg_tmod] at h2
 omega
def TurnPost (n:Nat) (w:World) (e:Ending) (w':World):Prop:=∃ k:Nat,e=.returned (Zi k)∧k < n∧Below w.heap.size w w'
theorem turn_bd (x:Int) (n:Nat) (h:0 < n):(-(n:Int) < x.tmod n∧x.tmod n < n)∧0≤(x.tmod n+n).tmod n∧(x.tmod n+n).tmod n < n:=by
 have h1:=tmod_bd x n h
 exact ⟨h1,Int.tmod_nonneg _ (by omega),(tmod_bd _ n h).2⟩
theorem turn_any (x:Int) (n:Nat) (w:World) (h0:0 < n) (h9:n≤1000) :
   Calls prog 45 #[Zi x,Zi (n:Int)] w (TurnPost n w):=by
 have hb:=turn_bd x n h0
 refine Zpx noEx func45 Z 14 Z [Zi x,Zi (n:Int)] Z Z (Mem.init w _) ?_
 intro ac wc T M
 refine Zsr ?_
 refine lq T (Zra Z evc) ?_;intro ac T
 replace T:=T.pick [1,2] rfl
 refine Zln ?_
 refine wp_seq ?_
 refine Zsr ?_
 refine Zg2 T (Zq (Zrm Z (T.e 1 Z))) Z (fun _ T=>Zq (rn_lss Z (T.e 0 Z) evc)) Z ?_;intro ac T
 replace T:=T.pick [0,2,3] rfl
 refine Zln ?_
 refine wp_if (T.e 0 Z) ?_ ?_
 ·intro h1
  refine Zsr ?_
  refine lq T (Zra Z evc) ?_;intro ac T
  replace T:=T.pick [0] rfl
  refine Zln ?_
  refine wp_ret ?_
  refine Zrt ?_
  refine rt_1 T Z (T.e 0 Z) ?_
  exact ⟨0,Z,h0,M.below⟩
 intro h1
 refine Zsk ?_
 refine Zsr ?_
 refine Zg8 T (Zq (Zrm Z (T.e 1 Z))) Z (Zm 3 Z Z) Z (fun _ T=>Zq (rn_rem Z (T.e 1 Z) (T.e 0 Z) (by omega))) Z (Zm 5 Z Z) Z (fun _ T=>Zq (rn_add Z (T.e 1 Z) (T.e 0 Z) (by omega))) Z (Zm 7 Z Z) Z (fun _ T=>Zq (rn_rem Z (T.e 1 Z) (T.e 0 Z) (by omega))) Z (Za 0 Z Z) Z ?_;intro ac T
 replace T:=T.pick [0] rfl
 refine Zln ?_
 refine wp_ret ?_
 refine rt_1 T Z (T.e 0 Z) ?_
 exact ⟨_,by rw [Int.toNat_of_nonneg hb.2.1],by omega,M.below⟩
theorem ic_snoc (l:List Int) (x:Int):ic l++[Zi x]=ic (l++[x]):=by simp [ic]
section
variable {P:Program} {op:Oper} {a:Act} {K:Act→World→Prop} {Q:Exit→Act→World→Prop} {w0 w:World} {ex:Nat→Prop} {L0 L:List (Nat×BA)} {E:List (Nat×Value)} {t n:Nat}
theorem ow_bs0 {ty e:TypeId} (M:Mem w0 ex w L) (T:Tm a n E) (ho:op.op=.buildSlice ty 0 #[]) (hd:op.dst=some t) (hf:freshE E t=true) (hn:Nat.blt t n=true)
  (hr:∀ w:World,(Instr.buildSlice ty 0 #[]).run P w=.ok (.slice (some ⟨w.heap.size,0,none⟩) 0 0) (w.alloc (.cells #[] e)))
  (h:∀ g w' a',Mem w0 ex w' ((g,.any fun o=>o=.cells #[] e)::L)→Tm a' n ((t,.slice (some ⟨g,0,none⟩) 0 0)::E)→K a' w'):op.wp P a w K Q:=by
 unfold Oper.wp execOp
 simp only [ho]
 have e2:((#[]:Array (Nat×Operand)).map fun (i,x)=>(i,a.eval x)) = #[]:=by simp
 rw [Sem.run_bind,e2,hr]
 exact h w.heap.size _ _ (M.newAny (.cells #[] e) (fun o=>o=.cells #[] e) Z) (by rw [hd];exact T.put hn hf _)
theorem ow_appS {s x:Operand} {ty e size bytes b m d:Nat} {B:Option Addr} {z:Value} {cs:List Value}
  (hinfo:(P.info? e).map (fun i=>(i.zero,i.size,i.bytes))=some (some z,size,bytes)) (M:Mem w0 ex w ((b,.any fun o=>o=.cells #[] e)::L)) (T:Tm a n E)
  (ho:op.op=.call { callee:=.builtin .append,args:=#[s,x],argTypes:=#[ty,ty] }) (hd:op.dst=some t) (hf:freshE E t=true) (hnn:Nat.blt t n=true)
  (h0:∀ g (w:World),(Builtin.append_ #[ty,ty] op.type #[.slice (some ⟨g,0,none⟩) 0 0,.slice B 0 d]).run P w=.ok (.slice (some ⟨g,0,none⟩) 0 0) w)
  (ht:P.underlying ty=some (.slice e)) (hzs:z.cells.size=size) (hsz:Nat.blt 0 size=true) (hby:Nat.ble bytes 1000=true) (hm:m≤1000000)
  (hs:a.eval s=.slice (some ⟨b,0,none⟩) 0 0) (hx:a.eval x=.slice B m d) (hr:Rd w w.heap.size size B m cs) (h1:∀ u∈cs,u.oneCell'=true)
  (h:∀ A' c' I' w' a',Sm e size A' m c' cs I'→Mem w0 ex w' (I'++L)→Tm a' n ((t,.slice A' m c')::E)→K a' w'):op.wp P a w K Q:=by
 rcases Nat.eq_zero_or_pos m with rfl | hm0
 ·obtain rfl:cs=[]:=List.eq_nil_of_length_eq_zero (by have:=hr.1;omega)
  unfold Oper.wp execOp
  simp only [ho,resolve,invoke,builtin,Sem.run_bind,Sem.run_pure,Result.andThen_ok,List.map_toArray,List.map_cons,List.map_nil,hs,hx,h0]
  exact h _ _ [(b,.any fun o=>o=.cells #[] e)] w _ (.inl ⟨rfl,Z,Z,b,Z,Z⟩) M (by rw [hd];exact T.put hnn hf _)
 ·obtain ⟨i,hi,hz0,hz1,hz2⟩:=info_parts hinfo
  obtain ⟨g2,o2,rfl,hlt,hc⟩:=hr.cells hm0
  have hby:=Nat.le_of_ble_eq_true hby
  have hsz:=Nat.le_of_ble_eq_true hsz
  have hbb:(0+m) * bytes≤140737488355328:=by
   have:(0+m) * bytes≤1000000 * 1000:=Nat.mul_le_mul (by omega) hby
   omega
  obtain ⟨h2,o,hge,rfl⟩:=M.blk (b,.any fun o=>o=.cells #[] e) Zz2
  have hgl:b < w.heap.size:=(Array.getElem?_eq_some_iff.1 hge).1
  refine wp_append_lies w s x ty ho b e i z size bytes ht hi hz0 hz1 hz2 hzs hsz _ 0 [] hs ⟨by simp,.inr ⟨b,0,#[],Z,Nat.le_refl _,hge,by omega,by unfold maxLen;omega,by simp,by simp⟩⟩ ⟨g2,o2,none⟩ m d cs hx hr.1 (fun j u hu=>by rw [Addr.add_mid];exact hc j u hu) h1 hm0 (by unfold maxLen;omega) hbb (Nat.le_of_lt hgl) w.heap.size Z ?_
  intro g cap' w' hown hgr hat hlt2
  have hgr:w.grownBy w' (some b):=hgr
  simp only [Zxa,Zx5] at hown
  have key:Mem w0 ex w' ((g,.row e size m cs cap')::L):=by
   rcases hat with h3 | h3
   ·have h3:some b=some g:=h3
    injection h3 with h3
    subst h3
    exact M.callW (L':=(b,.row e size m cs cap')::L) .head hgr (own_rebase hown hm0)
   ·have M1:=M.callW (L':=(b,.any (fun _=>True))::L) .head hgr (by
     have hl0:b < w'.heap.size:=Nat.lt_of_lt_of_le hgl hgr.size
     exact ⟨w'.heap[b],Array.getElem?_eq_getElem hl0,trivial⟩)
    exact M1.forget.add (by rw [h3];exact M.size) (own_rebase hown hm0) (fun q hq e=>by have:=BA.lt (M.blk q (Zz1 hq)).2;omega)
  have e0:a.put op.dst (.slice (some ⟨g,0,none⟩) (0+m) cap')=a.put op.dst (.slice (some ⟨g,0,none⟩) m cap'):=by rw [Zxa]
  rw [e0]
  exact h _ _ [(g,.row e size m cs cap')] w' _ (.inr ⟨g,Z,Z⟩) key (by rw [hd];exact T.put hnn hf _)
end
section
open Go.RowKit Go.Shelf
attribute [local go_sem] Oper.semAt_some
def izz (a b:Int):List Int:=(List.range (b - a+1).toNat).map fun (k:Nat)=>a+(k:Int)
theorem izz_length (a b:Int):(izz a b).length=(b - a+1).toNat:=by simp [izz]
theorem mem_izz {a b x:Int}:x∈izz a b↔a≤x∧x≤b:=by
 unfold izz
 rw [List.mem_map]
 constructor
 ·rintro ⟨k,hk,rfl⟩
  rw [List.mem_range] at hk
  omega
 ·rintro ⟨h1,h2⟩
  exact ⟨(x - a).toNat,by rw [List.mem_range];omega,by omega⟩
theorem izz_take {a b:Int} {k:Nat} (h:a+(k:Int)≤b):(izz a b).take (k+1)=(izz a b).take k++[a+(k:Int)]:=by
 rw [List.take_succ_eq_append_getElem (by rw [izz_length];omega)]
 simp [izz]
def allL (t0 t1 s0 s1:Int):List (Int×Int):=(izz t0 t1).flatMap fun t=>(izz s0 s1).map fun s=>(t,s)
theorem mem_allL {t0 t1 s0 s1:Int} {x:Int×Int}:x∈allL t0 t1 s0 s1↔(t0≤x.1∧x.1≤t1)∧s0≤x.2∧x.2≤s1:=by
 unfold allL
 simp only [List.mem_flatMap,List.mem_map,mem_izz]
 constructor
 ·rintro ⟨t,ht,s,hs,rfl⟩
  exact ⟨ht,hs⟩
 ·rintro ⟨ht,hs⟩
  exact ⟨x.1,ht,x.2,hs,Z⟩
def allP (t0 t1 s0 s1:Int) (k m:Nat):List (Int×Int):=((izz t0 t1).take k).flatMap (fun t=>(izz s0 s1).map fun s=>(t,s))++((izz s0 s1).take m).map fun s=>(t0+(k:Int),s)
theorem allP_step {t0 t1 s0 s1:Int} {k m:Nat} (h:s0+(m:Int)≤s1):allP t0 t1 s0 s1 k (m+1)=allP t0 t1 s0 s1 k m++[(t0+(k:Int),s0+(m:Int))]:=by
 simp [allP,izz_take h]
theorem allP_row {t0 t1 s0 s1:Int} {k m:Nat} (hk:t0+(k:Int)≤t1) (h : ¬ s0+(m:Int)≤s1):allP t0 t1 s0 s1 k m=allP t0 t1 s0 s1 (k+1) 0:=by
 unfold allP
 rw [izz_take hk,List.take_of_length_le (l:=izz s0 s1) (by rw [izz_length];omega)]
 simp
theorem allP_end {t0 t1 s0 s1:Int} {k:Nat} (h : ¬ t0+(k:Int)≤t1):allP t0 t1 s0 s1 k 0=allL t0 t1 s0 s1:=by
 unfold allP allL
 rw [List.take_of_length_le (l:=izz t0 t1) (by rw [izz_length];omega)]
 simp
theorem allP_pre {t0 t1 s0 s1:Int} {k m:Nat} (hk:t0+(k:Int)≤t1):allP t0 t1 s0 s1 k m <+: allL t0 t1 s0 s1:=by
 have h1:allP t0 t1 s0 s1 k m <+: allP t0 t1 s0 s1 (k+1) 0:=by
  unfold allP
  rw [izz_take hk]
  simp only [List.flatMap_append,List.flatMap_cons,List.flatMap_nil,Zx4,List.take_zero,List.map_nil]
  refine (List.prefix_append_right_inj _).2 ?_
  exact (List.take_prefix _ _).map _
 refine h1.trans ?_
 unfold allP allL
 rw [List.take_zero,List.map_nil,Zx4]
 have h2:(izz t0 t1).take (k+1)++(izz t0 t1).drop (k+1)=izz t0 t1:=List.take_append_drop _ _
 conv=>rhs;rw [← h2]
 rw [List.flatMap_append]
 exact List.prefix_append _ _
abbrev Ax (t0 t1 s0 s1:Int):={ x:Int×Int // (t0≤x.1∧x.1≤t1)∧s0≤x.2∧x.2≤s1 }
theorem all1_in (n : Nat) (hn : 2 ≤ n) (l b1 n0 : Nat) (eb : Nat → Prop) (t0 t1 s0 s1 : Int) (h0 : -100000 ≤ t0 ∧ t0 ≤ 100000) (h1 : -100000 ≤ t1 ∧ t1 ≤ 100000) (h2 : -100000 ≤ s0 ∧ s0 ≤ 100000) (h3 : -100000 ≤ s1 ∧ s1 ≤ 100000) (hb1 : b1 < n0) (hx1 : ¬ eb b1)
   (J Jx:List (Ax t0 t1 s0 s1)→World→Prop) (W:World) (hJ:AbidesFrom W.heap.size J)
   (hY:∀ pre x W1,J pre W1→pre.length < (allL t0 t1 s0 s1).length→YieldAt Fence.wide (n - 1) prog l #[kx x.1] W1 fun e W' =>
     (e=.returned (.bool true)∧J (pre++[x]) W'∧KpE n0 eb W1 W')∨(e=.returned (.bool false)∧Jx (pre++[x]) W'))
   (q1:Bk W b1 #[.int .i64 t0,.int .i64 t1,.int .i64 s0,.int .i64 s1]) (hJ0:J [] W) :
   CallsIn Fence.wide n prog 210 #[.func (.yield l) #[] #[],.pointer (some ⟨b1,0,none⟩)] W fun e W'=>(∃ v,e=.returned v) ∧
     ((∃ xs:List (Ax t0 t1 s0 s1),xs.map (·.1)=allL t0 t1 s0 s1∧J xs W')∨(∃ pre:List (Ax t0 t1 s0 s1),pre.map (·.1) <+: allL t0 t1 s0 s1∧Jx pre W')):=by
 refine callsIn_of_wp func210 Z trivial ?_ Z
 simp only [Tryz.ntmps210,List.size_toArray,Zx1,Zx2,Nat.reduceAdd,Nat.reduceSub,Array.replicate_succ,Array.replicate_zero,List.push_toArray,List.append_toArray,Zx5,Zx6]
 have c1:=q1.cell
 have hn1:1≤n:=by omega
 gi_wp2
 gi_loopw [3] (fun v wr=>∃ (k:Nat) (pre:List (Ax t0 t1 s0 s1)),v=.int .i64 (t0+(k:Int))∧t0+(k:Int)≤t1+1+200000∧k≤200001∧Hid (pre.map (·.1)=allP t0 t1 s0 s1 k 0)∧Bk wr b1 #[.int .i64 t0,.int .i64 t1,.int .i64 s0,.int .i64 s1]∧W.heap.size≤wr.heap.size∧J pre wr) (fun v _=>(t1+1 - intOf v).toNat)
 case atStart=>exact ⟨0,[],by simp,by omega,by omega,by (show _=_;simp [allP]),q1,Nat.le_refl _,hJ0⟩
 case round =>
   clear c1
   obtain ⟨k,pre,rfl,hka,hkb,hpre,r1,hz,hj⟩:=hrel
   have c1:=r1.cell
   by_cases hlt:t0+(k:Int)≤t1
   · gi_wp2
     gi_loopw [4] (fun v wr=>∃ (m:Nat) (pre:List (Ax t0 t1 s0 s1)),v=.int .i64 (s0+(m:Int))∧m≤200001∧Hid (pre.map (·.1)=allP t0 t1 s0 s1 k m)∧Bk wr b1 #[.int .i64 t0,.int .i64 t1,.int .i64 s0,.int .i64 s1]∧W.heap.size≤wr.heap.size∧J pre wr) (fun v _=>(s1+1 - intOf v).toNat)
     case atStart=>exact ⟨0,pre,by simp,by omega,hpre,r1,hz,hj⟩
     case round =>
       clear c1 r1 hz hj hpre
       obtain ⟨m,pre,rfl,hmb,hpre,r1,hz,hj⟩:=hrel
       have c1:=r1.cell
       by_cases hlm:s0+(m:Int)≤s1
       · have HX:(t0≤t0+(k:Int)∧t0+(k:Int)≤t1)∧s0≤s0+(m:Int)∧s0+(m:Int)≤s1:=⟨⟨by omega,hlt⟩,by omega,hlm⟩
         have HS:Hid ((pre++[(⟨(t0+(k:Int),s0+(m:Int)),HX⟩:Ax t0 t1 s0 s1)]).map (·.1)=allP t0 t1 s0 s1 k (m+1)):=by (show _=_;rw [List.map_append,hpre.out,allP_step hlm];rfl)
         have hlen:pre.length < (allL t0 t1 s0 s1).length:=by
           have h5:=(allP_pre (s0:=s0) (s1:=s1) (m:=m+1) hlt).length_le
           have h6:=congrArg List.length hpre.out
           rw [allP_step hlm] at h5
           simp only [List.length_map,Zx3,Zx1,Zx2] at h5 h6
           omega
         have hk7:=Lib.hid (show t0+(k:Int)≤t1 from hlt)
         have hk8:=Lib.hid (show s0+(m:Int)≤s1 from hlm)
         obtain ⟨fn,tmps,assign,body,hy,hR⟩:=hY pre ⟨(t0+(k:Int),s0+(m:Int)),HX⟩ wr hj hlen
         dsimp only at hy
         gi_wp2
         refine hR.mono ?_
         rintro e W3 (⟨rfl,hJ3,hk3⟩ | ⟨rfl,hJx3⟩)
         · have r5:=hk3.bk r1 hb1 hx1
           have hz5:W.heap.size≤W3.heap.size:=Nat.le_trans hz hk3.1
           clear hY hy hR
           gi_wp2
           go_roundw
           case rel=>exact ⟨m+1,_,by go_num,by omega,HS,r5,hz5,hJ3⟩
           case measure=>simp [intOf];omega
         · clear hY hy hR
           gi_wp2
           refine bodyPost_ret (results_none Z _ _ _) Z ?_
           exact ⟨⟨_,Z⟩,.inr ⟨_,by rw [HS.out];exact allP_pre (by have:=hk7.out;omega),hJx3⟩⟩
       · have hk7:=Lib.hid (show t0+(k:Int)≤t1 from hlt)
         have hk8:=Lib.hid (show ¬ s0+(m:Int)≤s1 from hlm)
         gi_wp2
         go_roundw
         case rel=>exact ⟨k+1,pre,by go_num,by omega,by omega,by (show _=_;rw [hpre.out];exact allP_row (by have:=hk7.out;omega) (by have:=hk8.out;omega)),r1,hz,hj⟩
         case measure=>simp [intOf];omega
   · have hk7:=Lib.hid (show ¬ t0+(k:Int)≤t1 from hlt)
     gi_wp2
     go_end0
     exact ⟨⟨_,Z⟩,.inl ⟨pre,by rw [hpre.out,allP_end (by have:=hk7.out;omega)],hj⟩⟩
theorem all_stops (n : Nat) (hn : 2 ≤ n) (b1 n0 : Nat) (eb : Nat → Prop) (t0 t1 s0 s1 : Int) (h0 : -100000 ≤ t0 ∧ t0 ≤ 100000) (h1 : -100000 ≤ t1 ∧ t1 ≤ 100000) (h2 : -100000 ≤ s0 ∧ s0 ≤ 100000) (h3 : -100000 ≤ s1 ∧ s1 ≤ 100000) (hb1 : b1 < n0) (hx1 : ¬ eb b1) (w : World)
   (q1:Bk w b1 #[.int .i64 t0,.int .i64 t1,.int .i64 s0,.int .i64 s1]) :
   SeqStopsK (α:=Ax t0 t1 s0 s1) Fence.wide n prog 210 #[.pointer (some ⟨b1,0,none⟩)] (fun x=>#[kx x.1]) (KpE n0 eb) (fun xs=>xs.map (·.1)=allL t0 t1 s0 s1) (fun pre=>pre.map (·.1) <+: allL t0 t1 s0 s1) (allL t0 t1 s0 s1).length w :=
 fun l J Jx W hW hJ _ hY hJ0=>all1_in n hn l b1 n0 eb t0 t1 s0 s1 h0 h1 h2 h3 hb1 hx1 J Jx W hJ hY (q1.below hW) hJ0
end
section
open Go.RowKit
open Go.Maps (Keyed)
theorem kx_key_of {P:Program} {k i:TypeId} (hk:P.underlying k=some (.array 2 i)) (hi:P.underlying i=some (.int .i64))
  (hkt:P.keyType k=true) (ck:P.cellsOf k=2) (ci:P.cellsOf i=1) (n:Nat) (hn:P.types.size=n+1+1)
  (p:Int×Int) (h0 : -100000≤p.1∧p.1≤100000) (h1 : -100000≤p.2∧p.2≤100000):∃ l,keyOf P k (kx p)=some l:=by
 unfold keyOf
 have w0:=wf64 h0
 have w1:=wf64 h1
 simp [hk,hkt,Value.formed,ck,hn,Program.keyLits,Value.cells,hi,ci,w0,w1,kx,show List.range 2=[0,1] from rfl,List.mapM_cons]
theorem Tryz.rowX:(253:TypeId) < prog.types.size:=of_decide_eq_true (by kernel_rfl)
theorem Tryz.wideX:(match prog.underlying 253 with | some (.array _ _) | some (.struct _)=>true | _=>false)=true:=by rw [underlying253]
theorem Tryz.atX:prog.keyTypeAt 4 253=true:=by kernel_rfl
theorem Tryz.keyed253:Keyed prog 253:=by
 refine Keyed.of_law (deep_law_laid Tryz.laidOut (m:=4) ?_ ?_ Tryz.atX ?_)
 · omega
 · exact Tryz.rowX
 · exact Tryz.wideX
theorem Tryz.keyTypeX:prog.keyType 253=true:=by kernel_rfl
theorem Tryz.cellsX:prog.cellsOf 253=2:=by kernel_rfl
theorem Tryz.kx_key (p:Int×Int) (h0 : -100000≤p.1∧p.1≤100000) (h1 : -100000≤p.2∧p.2≤100000):∃ l,keyOf prog 253 (kx p)=some l :=
 kx_key_of underlying253 underlying3 Tryz.keyTypeX Tryz.cellsX Tryz.cellsInt _ Tryz.typesSome p h0 h1
end
structure Lw where
 first:Int
 step:Int
 span:Int
 press:Int
structure Snd where
 t0:Int
 t1:Int
 s0:Int
 s1:Int
def sndC (x:Snd):List Value:=[Zi x.t0,Zi x.t1,Zi x.s0,Zi x.s1]
def sc (l:List Snd):List Value:=l.flatMap sndC
theorem sc_length (l:List Snd):(sc l).length=l.length * 4:=by
 induction l with
 | nil=>rfl
 | cons x l ih =>
  show (sndC x++sc l).length=_
  rw [Zx3,ih,Zx1]
  show 4+_=_
  omega
theorem sc_get:∀ (l:List Snd) (k:Nat) {x:Snd},l[k]? = some x→∀ (i:Nat) (v:Value),(sndC x)[i]? = some v→(sc l)[k * 4+i]? = some v
 | [],k,x,h=>by simp at h
 | y::l,0,x,h=>by
  intro i v hv
  simp only [List.getElem?_cons_zero,Option.some.injEq] at h
  subst h
  show (sndC y++sc l)[0 * 4+i]? = some v
  rw [Nat.zero_mul,Zxa,List.getElem?_append_left (List.getElem?_eq_some_iff.1 hv).1]
  exact hv
 | y::l,k+1,x,h=>by
  intro i v hv
  have:=sc_get l k (by simpa using h) i v hv
  show (sndC y++sc l)[(k+1) * 4+i]? = some v
  have e:(sndC y).length=4:=rfl
  rw [List.getElem?_append_right (by rw [e];omega),e,show (k+1) * 4+i - 4=k * 4+i by omega]
  exact this
theorem sc_snoc (l:List Snd) (x:Snd):sc l++[Zi x.t0,Zi x.t1,Zi x.s0,Zi x.s1]=sc (l++[x]):=by simp [sc,sndC]
theorem sc_next {l:List Snd} {k:Nat} (h:k < l.length):∃ x,l[k]? = some x∧l.drop k=x::l.drop (k+1):=⟨l[k],List.getElem?_eq_getElem h,List.drop_eq_getElem_cons h⟩
theorem Rd.len4 {w:World} {B n:Nat} {A:Option Addr} {l:List Snd} (h:Rd w B 4 A n (sc l)):l.length=n:=by
 have h1:=h.1
 rw [sc_length] at h1
 omega
section
variable {w w':World} {ex:Nat→Prop} {I L:List (Nat×BA)} {n b o k:Nat} {A:Option Addr} {l:List Snd} {x:Snd}
theorem Sp.scA (S:Sp w ex I A n 4 b o (sc l)) (M:Mem w ex w' L) (hI:I.Sublist L) (h:l[k]? = some x) (f:Nat) (v:Value) (hv:(sndC x)[f]? = some v):w'.cell? ⟨b,o+k * 4+f,none⟩=some v:=by
 have:=S.cell w' L M hI _ _ (sc_get l k h f v hv)
 rwa [← Nat.add_assoc] at this
theorem Sp.scR4 (S:Sp w ex I A n 4 b o (sc l)) (M:Mem w ex w' L) (hI:I.Sublist L) (h:l[k]? = some x):w'.rangeAt b (o+k * 4) [Zi x.t0,Zi x.t1,Zi x.s0,Zi x.s1]:=fun j v hv=>S.scA M hI h j v hv
theorem Sp.scR02 (S:Sp w ex I A n 4 b o (sc l)) (M:Mem w ex w' L) (hI:I.Sublist L) (h:l[k]? = some x):w'.rangeAt b (o+k * 4+0) [Zi x.t0,Zi x.t1]:=fun j v hv=>by
 match j,hv with
 | 0,hv=>exact S.scA M hI h 0 v hv
 | 1,hv=>exact S.scA M hI h 1 v hv
theorem Sp.scR22 (S:Sp w ex I A n 4 b o (sc l)) (M:Mem w ex w' L) (hI:I.Sublist L) (h:l[k]? = some x):w'.rangeAt b (o+k * 4+2) [Zi x.s0,Zi x.s1]:=fun j v hv=>by
 match j,hv with
 | 0,hv=>exact S.scA M hI h 2 v hv
 | 1,hv=>exact S.scA M hI h 3 v hv
theorem rn_index {P:Program} {op:Oper} {a:Act} {s:TypeId} {x y:Operand} {u i v:Value} (ho:op.op=.index s x y) (hx:a.eval x=u) (hy:a.eval y=i) (hr:∀ w:World,(Instr.index s u i).run P w=.ok v w):Runs P op a v w:=by
 unfold Runs execOp
 simp only [ho,hx,hy,hr,Sem.run_bind,Result.andThen_ok,Sem.run_pure]
end
theorem mulB {a b:Int} (h : -1000≤a∧a≤1000) (k : -1000≤b∧b≤1000) : -1000000≤a * b∧a * b≤1000000:=by
 have h1:a.natAbs≤1000:=by omega
 have h2:b.natAbs≤1000:=by omega
 have h3:(a * b).natAbs≤1000000:=by rw [Int.natAbs_mul];exact Nat.mul_le_mul h1 h2
 omega
def lawE (l:Lw):Int:=if (withinB l.first 0 30 && withinB l.step (-5) 5 && withinB l.span 0 20 && withinB l.press 0 3)=true then 0 else 1
def sndE (x:Snd):Int:=if chkR x.t0 x.t1 (-30) 30=0 then chkR x.s0 x.s1 (-3) 3 else chkR x.t0 x.t1 (-30) 30
def sndsL:List Snd→Int
 | []=>0
 | x::l=>if sndE x=0 then sndsL l else sndE x
def sndsE (l:List Snd) (most:Int):Int:=if most < l.length then 6 else sndsL l
structure Snd.good (x:Snd):Prop where
 t : -30≤x.t0∧x.t0≤x.t1∧x.t1≤30
 s : -3≤x.s0∧x.s0≤x.s1∧x.s1≤3
structure Lw.good (l:Lw):Prop where
 first:0≤l.first∧l.first≤30
 step : -5≤l.step∧l.step≤5
 span:0≤l.span∧l.span≤20
 press:0≤l.press∧l.press≤3
theorem lawE_good {l:Lw} (h:lawE l=0):l.good:=by
 unfold lawE at h
 split at h
 ·rename_i h1
  simp only [Bool.and_eq_true,withinB,decide_eq_true_eq] at h1
  exact ⟨by omega,by omega,by omega,by omega⟩
 ·omega
theorem good_lawE {l:Lw} (h:l.good):lawE l=0:=by
 obtain ⟨h1,h2,h3,h4⟩:=h
 unfold lawE
 rw [if_pos]
 simp only [Bool.and_eq_true,withinB,decide_eq_true_eq]
 omega
theorem chkR_good {a b lo hi:Int}:chkR a b lo hi=0↔(lo≤a∧a≤hi)∧(lo≤b∧b≤hi)∧a≤b:=by
 unfold chkR
 simp only [withinB,decide_eq_true_eq]
 split
 · split <;> constructor <;> intro h <;> omega
 · constructor <;> intro h <;> omega
theorem sndE_good {x:Snd}:sndE x=0↔x.good:=by
 unfold sndE
 constructor
 ·intro h
  split at h
  ·rename_i h1
   have h2:=chkR_good.1 h1
   have h3:=chkR_good.1 h
   exact ⟨by omega,by omega⟩
  ·contradiction
 ·rintro ⟨h1,h2⟩
  rw [if_pos (chkR_good.2 (by omega))]
  exact chkR_good.2 (by omega)
theorem sndsL_good:∀ {l:List Snd},sndsL l=0↔∀ x∈l,x.good
 | []=>by simp [sndsL]
 | x::l=>by
  have ih:=sndsL_good (l:=l)
  unfold sndsL
  split
  ·rename_i h
   rw [ih]
   simp [sndE_good.1 h]
  ·rename_i h
   constructor
   ·intro h2;exact absurd h2 h
   ·intro h2;exact absurd (sndE_good.2 (h2 x Zz2)) h
theorem sndsE_good {l:List Snd} {most:Int} (h:sndsE l most=0):(l.length:Int)≤most∧∀ x∈l,x.good:=by
 unfold sndsE at h
 split at h
 · omega
 · exact ⟨by omega,sndsL_good.1 h⟩
theorem good_sndsE {l:List Snd} {most:Int} (h:(l.length:Int)≤most) (h2:∀ x∈l,x.good):sndsE l most=0:=by
 unfold sndsE
 rw [if_neg (by omega)]
 exact sndsL_good.2 h2
def riseP (lo hi:Snd) (p:Int):Int×Int:=(p * hi.s0 - (lo.t1+p * lo.s1),p * hi.s1 - (lo.t0+p * lo.s0))
def beatP (lo hi:Snd) (p:Int):Int×Int:=(hi.t0+(riseP lo hi p).1,hi.t1+(riseP lo hi p).2)
def beatsL (l:Lw) (lo hi:Snd):List (Int×Int):=(List.range (l.press+1).toNat).map fun (p:Nat)=>beatP lo hi (p:Int)
def offL (due:Int):List (Int×Int)→Int→Int
 | [],n=>n
 | x::r,n=>offL due r (max (max n (due - x.1)) (x.2 - due))
def offP (l:Lw) (due:Int) (lo hi:Snd):Int:=offL due (beatsL l lo hi) 0
def agreeP (l:Lw) (due b s:Int):Bool:=(List.range (l.press+1).toNat).all fun (p:Nat)=>withinB (b+(p:Int) * s - due) (-l.span) l.span
theorem beatP_bd {lo hi:Snd} (hl:lo.good) (hh:hi.good) {p:Int} (hp:0≤p∧p≤3):(-1000≤(beatP lo hi p).1∧(beatP lo hi p).1≤1000)∧(-1000≤(beatP lo hi p).2∧(beatP lo hi p).2≤1000):=by
 obtain ⟨a1,a2⟩:=hl
 obtain ⟨b1,b2⟩:=hh
 unfold beatP riseP
 have hp':p=0∨p=1∨p=2∨p=3:=by omega
 rcases hp' with rfl | rfl | rfl | rfl <;> dsimp only <;> omega
theorem beatsL_length (l:Lw) (lo hi:Snd):(beatsL l lo hi).length=(l.press+1).toNat:=by simp [beatsL]
theorem beatsL_mem {l:Lw} {lo hi:Snd} {x:Int×Int}:x∈beatsL l lo hi↔∃ p:Int,0≤p∧p≤l.press∧x=beatP lo hi p:=by
 unfold beatsL
 rw [List.mem_map]
 constructor
 ·rintro ⟨k,hk,rfl⟩
  rw [List.mem_range] at hk
  exact ⟨k,by omega,by omega,Z⟩
 ·rintro ⟨p,h1,h2,rfl⟩
  exact ⟨p.toNat,by rw [List.mem_range];omega,by rw [Int.toNat_of_nonneg h1]⟩
theorem beatsL_take {l:Lw} {lo hi:Snd} {k:Nat} (h:(k:Int)≤l.press):(beatsL l lo hi).take (k+1)=(beatsL l lo hi).take k++[beatP lo hi k]:=by
 rw [List.take_succ_eq_append_getElem (by rw [beatsL_length];omega)]
 simp [beatsL]
def BeatsPost (l:Lw) (lo hi:Snd) (w:World) (e:Ending) (w':World):Prop :=
 ∃ (A:Option Addr) (c:Nat) (I:List (Nat×BA)),e=.returned (.slice A (beatsL l lo hi).length c)∧Sl 26 2 (.slice A (beatsL l lo hi).length c) (beatsL l lo hi).length (rc (beatsL l lo hi)) I∧Mem w noEx w' I
theorem vwithin_any (n lo hi:Int) (w:World)  :
   Calls prog 99 #[Zi n,Zi lo,Zi hi] w fun e w'=>e=.returned (.bool (withinB n lo hi))∧Below w.heap.size w w':=by
 refine Zpx noEx func99 Z 15 Z [Zi n,Zi lo,Zi hi] Z Z (Mem.init w _) ?_
 intro ac wc T M
 refine Zsr ?_
 refine lq T (Zra Z evc) ?_;intro ac T
 replace T:=T.pick [1,2,3] rfl
 refine Zln ?_
 refine cut_seq (fun ac wc=>Tm ac 15 [(6,.bool ((decide (lo≤n)) && (decide (n≤hi))))]∧Mem w noEx wc []) ?_ ?_
 ·refine wp_region_lit ?_
  refine Zg4 T (Zq (Zrm Z (T.e 1 Z))) Z (Zm 1 Z Z) Z (fun _ T=>Zq (rn_leq Z (T.e 1 Z) (T.e 0 Z))) Z (Zm 0 Z Z) Z ?_;intro ac T
  rcases Zx9 (decide (lo≤n)) with h1 | h1
  ·replace h1:=of_decide_eq_true h1
   refine Zg5 T (Zw (Zwy Z Z (T.e 0 Z) (Zdt h1)) (Zrm Z (T.e 4 Z))) Z (fun _ T=>Zw (Zwy Z Z (T.e 1 Z) (Zdt h1)) (Zrm Z (T.e 7 Z))) Z (fun _ T=>Zw (Zwy Z Z (T.e 2 Z) (Zdt h1)) (rn_leq Z (T.e 1 Z) (T.e 0 Z))) Z (fun _ T=>Zq (Zr1 Z (T.e 3 Z) (Zdt h1) (T.e 0 Z))) Z (Za 0 Z Z) Z ?_;intro ac T
   refine wpList_nil ?_
   replace T:=T.pick [0] rfl
   exact ⟨(T.pick (E':=[(6,.bool (decide (n≤hi)))]) [0] Z).as (by (try rw [show (decide (lo≤n))=true from (Zdt h1)]);(try rfl)),M.mask [] Z⟩
  replace h1:=of_decide_eq_false h1
  refine Zg5 T (Zp (Zwn Z Z (T.e 0 Z) (Zdf h1))) Z (fun _ T=>Zp (Zwn Z Z (T.e 1 Z) (Zdf h1))) Z (fun _ T=>Zp (Zwn Z Z (T.e 2 Z) (Zdf h1))) Z (fun _ T=>Zq (Zr0 Z (T.e 3 Z) (Zdf h1) evc)) Z (Za 0 Z Z) Z ?_;intro ac T
  refine wpList_nil ?_
  replace T:=T.pick [0] rfl
  exact ⟨(T.pick (E':=[(6,.bool false)]) [0] Z).as (by (try rw [show (decide (lo≤n))=false from (Zdf h1)]);(try rfl)),M.mask [] Z⟩
 clear T M
 rintro ac wc ⟨T,M⟩
 refine wp_ret ?_
 refine rt_1 T Z (T.e 0 Z) ?_
 exact ⟨ret_bool (by unfold withinB;simp),M.below⟩
theorem checkLaw_any (l:Lw) (w:World)  :
   Calls prog 98 #[.agg #[Zi l.first,Zi l.step,Zi l.span,Zi l.press]] w fun e w'=>e=.returned (Zi (lawE l))∧Below w.heap.size w w':=by
 refine Zpx noEx func98 Z 25 Z [.agg #[Zi l.first,Zi l.step,Zi l.span,Zi l.press]] Z Z (Mem.init w _) ?_
 intro ac wc T M
 refine Zsr ?_
 refine Zl2 ?_
 refine Zob M T Z Z Z Z (T.e 0 Z) Z ?_;clear M T;intro g1 wc ac M T
 refine lq T (Zra Z evc) ?_;intro ac T
 replace T:=T.pick [1] rfl
 refine Zln ?_
 refine wp_seq ?_
 refine cut_seq (fun ac wc=>Tm ac 25 [(24,.bool ((!(withinB l.first 0 30)) || ((!(withinB l.step (-5) 5)) || ((!(withinB l.span 0 20)) || (!(withinB l.press 0 3))))))]∧Mem w noEx wc []) ?_ ?_
 ·refine wp_region_lit ?_
  refine Zg2 (v1:=(Zj g1)) T (Zq (Zrg 0 Z (T.e 0 Z))) Z (Zo M 0 0 Z Z Z Z) Z ?_;intro ac T
  refine Zl2 ?_
  refine Zod T Z Z Z Z evf (.cons (T.e 0 Z) (.cons evc (.cons evc .nil))) func99 Z Z ?_
  refine Calls.mono (vwithin_any l.first 0 30 _) ?_
  clear T;rintro e wc ⟨rfl,hb⟩ ac T
  replace M:=M.call hb;clear hb
  refine Zg2 T (Zq (rn_not Z (T.e 0 Z))) Z (Zm 0 Z Z) Z ?_;intro ac T
  rcases Zx9 (!(withinB l.first 0 30)) with h1 | h1
  ·refine Zg8 T (Zp (Zwn Z Z (T.e 0 Z) h1)) Z (fun _ T=>Zp (Zwn Z Z (T.e 1 Z) h1)) Z (fun _ T=>Zp (Zwn Z Z (T.e 2 Z) h1)) Z (fun _ T=>Zp (Zwn Z Z (T.e 3 Z) h1)) Z (fun _ T=>Zq (Zr1 Z (T.e 4 Z) h1 evc)) Z (Zm 0 Z Z) Z (fun _ T=>Zp (Zwn Z Z (T.e 0 Z) Z)) Z (fun _ T=>Zp (Zwn Z Z (T.e 1 Z) Z)) Z ?_;intro ac T
   refine Zg8 T (Zp (Zwn Z Z (T.e 2 Z) Z)) Z (fun _ T=>Zp (Zwn Z Z (T.e 3 Z) Z)) Z (fun _ T=>Zq (Zr1 Z (T.e 4 Z) Z evc)) Z (Zm 0 Z Z) Z (fun _ T=>Zp (Zwn Z Z (T.e 0 Z) Z)) Z (fun _ T=>Zp (Zwn Z Z (T.e 1 Z) Z)) Z (fun _ T=>Zp (Zwn Z Z (T.e 2 Z) Z)) Z (fun _ T=>Zp (Zwn Z Z (T.e 3 Z) Z)) Z ?_;intro ac T
   refine lq T (Zr1 Z (T.e 4 Z) Z evc) ?_;intro ac T
   refine wpList_nil ?_
   replace T:=T.pick [0] rfl
   replace M:=M.mask [false] rfl
   exact ⟨(T.pick (E':=[(24,.bool true)]) [0] Z).as (by (try rw [show (!(withinB l.first 0 30))=true from h1]);(try rfl)),M.mask [] Z⟩
  refine Zg2 (v1:=(.pointer (some ⟨g1,1,none⟩))) T (Zw (Zwy Z Z (T.e 0 Z) h1) (Zrg 1 Z (T.e 5 Z))) Z (fun _ T=>Zw (Zwy Z Z (T.e 1 Z) h1) (Zro (Mem.nth M 0 Z) Z (T.e 0 Z) Z)) Z ?_;intro ac T
  refine l_w (Zwy Z Z (T.e 2 Z) h1) ?_;intro K hK
  refine Zod T Z Z Z Z evf (.cons (T.e 0 Z) (.cons evc (.cons evc .nil))) func99 Z Z ?_
  refine Calls.mono (vwithin_any l.step (-5) 5 _) ?_
  clear T;rintro e wc ⟨rfl,hb⟩ ac T
  replace M:=M.call hb;clear hb
  refine Zso hK _ _ ?_;clear hK K
  refine Zg3 T (Zw (Zwy Z Z (T.e 3 Z) h1) (rn_not Z (T.e 0 Z))) Z (fun _ T=>Zq (Zr0 Z (T.e 4 Z) h1 (T.e 0 Z))) Z (Zm 0 Z Z) Z ?_;intro ac T
  rcases Zx9 (!(withinB l.step (-5) 5)) with h2 | h2
  ·refine Zg8 T (Zp (Zwn Z Z (T.e 0 Z) h2)) Z (fun _ T=>Zp (Zwn Z Z (T.e 1 Z) h2)) Z (fun _ T=>Zp (Zwn Z Z (T.e 2 Z) h2)) Z (fun _ T=>Zp (Zwn Z Z (T.e 3 Z) h2)) Z (fun _ T=>Zq (Zr1 Z (T.e 4 Z) h2 evc)) Z (Zm 0 Z Z) Z (fun _ T=>Zp (Zwn Z Z (T.e 0 Z) Z)) Z (fun _ T=>Zp (Zwn Z Z (T.e 1 Z) Z)) Z ?_;intro ac T
   refine Zg3 T (Zp (Zwn Z Z (T.e 2 Z) Z)) Z (fun _ T=>Zp (Zwn Z Z (T.e 3 Z) Z)) Z (fun _ T=>Zq (Zr1 Z (T.e 4 Z) Z evc)) Z ?_;intro ac T
   refine wpList_nil ?_
   replace T:=T.pick [0] rfl
   replace M:=M.mask [false] rfl
   exact ⟨(T.pick (E':=[(24,.bool true)]) [0] Z).as (by (try rw [show (!(withinB l.first 0 30))=false from h1]);(try rw [show (!(withinB l.step (-5) 5))=true from h2]);(try rfl)),M.mask [] Z⟩
  refine Zg2 (v1:=(.pointer (some ⟨g1,2,none⟩))) T (Zw (Zwy Z Z (T.e 0 Z) h2) (Zrg 2 Z (T.e 11 Z))) Z (fun _ T=>Zw (Zwy Z Z (T.e 1 Z) h2) (Zro (Mem.nth M 0 Z) Z (T.e 0 Z) Z)) Z ?_;intro ac T
  refine l_w (Zwy Z Z (T.e 2 Z) h2) ?_;intro K hK
  refine Zod T Z Z Z Z evf (.cons (T.e 0 Z) (.cons evc (.cons evc .nil))) func99 Z Z ?_
  refine Calls.mono (vwithin_any l.span 0 20 _) ?_
  clear T;rintro e wc ⟨rfl,hb⟩ ac T
  replace M:=M.call hb;clear hb
  refine Zso hK _ _ ?_;clear hK K
  refine Zg3 T (Zw (Zwy Z Z (T.e 3 Z) h2) (rn_not Z (T.e 0 Z))) Z (fun _ T=>Zq (Zr0 Z (T.e 4 Z) h2 (T.e 0 Z))) Z (Zm 0 Z Z) Z ?_;intro ac T
  rcases Zx9 (!(withinB l.span 0 20)) with h3 | h3
  ·refine Zg5 T (Zp (Zwn Z Z (T.e 0 Z) h3)) Z (fun _ T=>Zp (Zwn Z Z (T.e 1 Z) h3)) Z (fun _ T=>Zp (Zwn Z Z (T.e 2 Z) h3)) Z (fun _ T=>Zp (Zwn Z Z (T.e 3 Z) h3)) Z (fun _ T=>Zq (Zr1 Z (T.e 4 Z) h3 evc)) Z ?_;intro ac T
   refine wpList_nil ?_
   replace T:=T.pick [0] rfl
   replace M:=M.mask [false] rfl
   exact ⟨(T.pick (E':=[(24,.bool true)]) [0] Z).as (by (try rw [show (!(withinB l.first 0 30))=false from h1]);(try rw [show (!(withinB l.step (-5) 5))=false from h2]);(try rw [show (!(withinB l.span 0 20))=true from h3]);(try rfl)),M.mask [] Z⟩
  refine Zg2 (v1:=(.pointer (some ⟨g1,3,none⟩))) T (Zw (Zwy Z Z (T.e 0 Z) h3) (Zrg 3 Z (T.e 17 Z))) Z (fun _ T=>Zw (Zwy Z Z (T.e 1 Z) h3) (Zro (Mem.nth M 0 Z) Z (T.e 0 Z) Z)) Z ?_;intro ac T
  refine l_w (Zwy Z Z (T.e 2 Z) h3) ?_;intro K hK
  refine Zod T Z Z Z Z evf (.cons (T.e 0 Z) (.cons evc (.cons evc .nil))) func99 Z Z ?_
  refine Calls.mono (vwithin_any l.press 0 3 _) ?_
  clear T;rintro e wc ⟨rfl,hb⟩ ac T
  replace M:=M.call hb;clear hb
  refine Zso hK _ _ ?_;clear hK K
  refine Zg2 T (Zw (Zwy Z Z (T.e 3 Z) h3) (rn_not Z (T.e 0 Z))) Z (fun _ T=>Zq (Zr0 Z (T.e 4 Z) h3 (T.e 0 Z))) Z ?_;intro ac T
  refine wpList_nil ?_
  replace T:=T.pick [0] rfl
  replace M:=M.mask [false] rfl
  exact ⟨(T.pick (E':=[(24,.bool (!(withinB l.press 0 3)))]) [0] Z).as (by (try rw [show (!(withinB l.first 0 30))=false from h1]);(try rw [show (!(withinB l.step (-5) 5))=false from h2]);(try rw [show (!(withinB l.span 0 20))=false from h3]);(try rfl)),M.mask [] Z⟩
 clear T M
 rintro ac wc ⟨T,M⟩
 refine wp_cond_split (T.e 0 Z) ?_ ?_
 ·intro h4
  (have h4':=h4;try simp only [Zb1,Zb2,Zb3,Zb4,Zb5,Zb6,Zb7] at h4')
  refine Zsr ?_
  refine lq T (Zra Z evc) ?_;intro ac T
  replace T:=T.pick [0] rfl
  refine Zln ?_
  refine wp_ret ?_
  refine Zrt ?_
  refine rt_1 T Z (T.e 0 Z) ?_
  refine ⟨ret_int ?_,M.below⟩
  unfold lawE
  rcases Zx9 (withinB l.first 0 30) with a1 | a1 <;> rcases Zx9 (withinB l.step (-5) 5) with a2 | a2 <;> rcases Zx9 (withinB l.span 0 20) with a3 | a3 <;> rcases Zx9 (withinB l.press 0 3) with a4 | a4 <;> simp_all
 intro h4
 (have h4':=h4;try simp only [Zb1,Zb2,Zb3,Zb4,Zb5,Zb6,Zb7] at h4')
 refine Zsk ?_
 refine Zsr ?_
 refine lq T (Zra Z evc) ?_;intro ac T
 replace T:=T.pick [0] rfl
 refine Zln ?_
 refine wp_ret ?_
 refine rt_1 T Z (T.e 0 Z) ?_
 refine ⟨ret_int ?_,M.below⟩
 unfold lawE
 rcases Zx9 (withinB l.first 0 30) with a1 | a1 <;> rcases Zx9 (withinB l.step (-5) 5) with a2 | a2 <;> rcases Zx9 (withinB l.span 0 20) with a3 | a3 <;> rcases Zx9 (withinB l.press 0 3) with a4 | a4 <;> simp_all
theorem checkSound_any (x:Snd) (w:World)  :
   Calls prog 167 #[.agg #[Zi x.t0,Zi x.t1,Zi x.s0,Zi x.s1]] w fun e w'=>e=.returned (Zi (sndE x))∧Below w.heap.size w w':=by
 refine Zpx noEx func167 Z 41 Z [.agg #[Zi x.t0,Zi x.t1,Zi x.s0,Zi x.s1]] Z Z (Mem.init w _) ?_
 intro ac wc T M
 refine Zsr ?_
 refine Zl2 ?_
 refine Zob M T Z Z Z Z (T.e 0 Z) Z ?_;clear M T;intro g1 wc ac M T
 refine lq T (Zra Z evc) ?_;intro ac T
 replace T:=T.pick [1] rfl
 refine Zln ?_
 refine wp_seq ?_
 refine Zsr ?_
 refine Zg6 (v1:=(Zj g1)) (v3:=(.pointer (some ⟨g1,2,none⟩))) (v5:=(.agg #[Zi x.t0,Zi x.t1,Zi x.s0,Zi x.s1])) T (Zq (Zrg 0 Z (T.e 0 Z))) Z (Zr M 0 0 Z Z Z Z) Z (Zf 2 2 Z Z) Z (Zr M 0 0 Z Z Z Z) Z (fun _ T=>Zq (rn_build Z (.cons (T.e 2 Z) (.cons (T.e 0 Z) .nil)) (fun _=>by kernel_rfl))) Z (fun _ T=>Zq (Zrm Z evc)) Z ?_;intro ac T
 refine wpList_nil ?_
 replace T:=T.pick [0,1] rfl
 replace M:=M.mask [false] rfl
 refine nm_then ?_
 refine wp_block ?_
 refine wp_loop_rounds 4 ?_
 refine rounds_S ?_
 refine Zsr ?_
 refine lq (v:=(.bool true)) T (Zrq (rn_lss Z (T.e 0 Z) evc) (by simp)) ?_;intro ac T
 refine Zln ?_
 refine wp_seq ?_
 refine wp_cond_true (T.e 0 Z) ?_
 refine Zsk ?_
 refine wp_seq ?_
 refine wp_block ?_
 refine Zsr ?_
 refine Zg2 (v2:=(.agg #[Zi x.t0,Zi x.t1])) T (Zq (Zrm Z (T.e 1 Z))) Z (fun _ T=>Zq (rn_index Z (T.e 3 Z) (T.e 2 Z) (fun _=>by kernel_rfl))) Z ?_;intro ac T
 refine Zl2 ?_
 refine Zoa M T Z Z Z Z ?_;clear M T;intro g2 wc ac M T
 refine lq T (Zra Z (T.e 2 Z)) ?_;intro ac T
 refine Zl2 ?_
 refine Zot M T Z Z (T.e 1 Z) (T.e 2 Z) Z .head Z Z ?_;clear M T;intro wc ac M T
 replace T:=T.pick [0,1,5,6] rfl
 refine Zln ?_
 refine Zsr ?_
 refine lq T (Zra Z evc) ?_;intro ac T
 refine Zln ?_
 refine wp_seq ?_
 refine Zsr ?_
 refine Zg2 (v2:=(.bool false)) T (Zq (Zrm Z (T.e 1 Z))) Z (fun _ T=>Zq (Zrq (rn_eql Z (T.e 0 Z) evc) (by simp))) Z ?_;intro ac T
 replace T:=T.pick [0,2,4,5,6] rfl
 refine Zln ?_
 refine wp_cond_false (T.e 0 Z) ?_
 refine Zsk ?_
 refine wp_block ?_
 refine cut_seq (fun ac wc=>Tm ac 41 [(4,Zj g2),(10,.agg #[Zi x.t0,Zi x.t1,Zi x.s0,Zi x.s1]),(11,Zi 0),(17,.bool ((!(withinB x.t0 (-30) 30)) || (!(withinB x.t1 (-30) 30))))]∧Mem w noEx wc [(g2,.cells [Zi x.t0,Zi x.t1])]) ?_ ?_
 ·refine wp_region_lit ?_
  refine Zg5 (v1:=(Zj g2)) T (Zq (Zrg 0 Z (T.e 2 Z))) Z (Zo M 0 0 Z Z Z Z) Z (Zm 3 Z Z) Z (fun _ T=>Zq (rn_neg Z (T.e 0 Z) (by omega))) Z (Zm 5 Z Z) Z ?_;intro ac T
  refine Zl2 ?_
  refine Zod T Z Z Z Z evf (.cons (T.e 3 Z) (.cons (T.e 1 Z) (.cons (T.e 0 Z) .nil))) func99 Z Z ?_
  refine Calls.mono (vwithin_any x.t0 (-30) 30 _) ?_
  clear T;rintro e wc ⟨rfl,hb⟩ ac T
  replace M:=M.call hb;clear hb
  refine Zg2 T (Zq (rn_not Z (T.e 0 Z))) Z (Zm 0 Z Z) Z ?_;intro ac T
  rcases Zx9 (!(withinB x.t0 (-30) 30)) with h1 | h1
  ·refine Zg8 T (Zp (Zwn Z Z (T.e 0 Z) h1)) Z (fun _ T=>Zp (Zwn Z Z (T.e 1 Z) h1)) Z (fun _ T=>Zp (Zwn Z Z (T.e 2 Z) h1)) Z (fun _ T=>Zp (Zwn Z Z (T.e 3 Z) h1)) Z (fun _ T=>Zp (Zwn Z Z (T.e 4 Z) h1)) Z (fun _ T=>Zp (Zwn Z Z (T.e 5 Z) h1)) Z (fun _ T=>Zp (Zwn Z Z (T.e 6 Z) h1)) Z (fun _ T=>Zq (Zr1 Z (T.e 7 Z) h1 evc)) Z ?_;intro ac T
   refine lq T (Zra Z (T.e 0 Z)) ?_;intro ac T
   refine wpList_nil ?_
   replace T:=T.pick [0,2,3,4,5,6,7,8,19,20,21] rfl
   exact ⟨(T.pick (E':=[(4,Zj g2),(10,.agg #[Zi x.t0,Zi x.t1,Zi x.s0,Zi x.s1]),(11,Zi 0),(17,.bool true)]) [8,10,9,0] Z).as (by (try rw [show (!(withinB x.t0 (-30) 30))=true from h1]);(try rfl)),M.mask [true] Z⟩
  refine Zg5 (v1:=(.pointer (some ⟨g2,1,none⟩))) T (Zw (Zwy Z Z (T.e 0 Z) h1) (Zrg 1 Z (T.e 10 Z))) Z (fun _ T=>Zw (Zwy Z Z (T.e 1 Z) h1) (Zro (Mem.nth M 0 Z) Z (T.e 0 Z) Z)) Z (fun _ T=>Zw (Zwy Z Z (T.e 2 Z) h1) (Zrm Z (T.e 11 Z))) Z (fun _ T=>Zw (Zwy Z Z (T.e 3 Z) h1) (rn_neg Z (T.e 0 Z) (by omega))) Z (fun _ T=>Zw (Zwy Z Z (T.e 4 Z) h1) (Zrm Z (T.e 13 Z))) Z ?_;intro ac T
  refine l_w (Zwy Z Z (T.e 5 Z) h1) ?_;intro K hK
  refine Zod T Z Z Z Z evf (.cons (T.e 3 Z) (.cons (T.e 1 Z) (.cons (T.e 0 Z) .nil))) func99 Z Z ?_
  refine Calls.mono (vwithin_any x.t1 (-30) 30 _) ?_
  clear T;rintro e wc ⟨rfl,hb⟩ ac T
  replace M:=M.call hb;clear hb
  refine Zso hK _ _ ?_;clear hK K
  refine Zg3 T (Zw (Zwy Z Z (T.e 6 Z) h1) (rn_not Z (T.e 0 Z))) Z (fun _ T=>Zq (Zr0 Z (T.e 7 Z) h1 (T.e 0 Z))) Z (Za 0 Z Z) Z ?_;intro ac T
  refine wpList_nil ?_
  replace T:=T.pick [0,2,3,4,5,6,7,8,19,20,21] rfl
  exact ⟨(T.pick (E':=[(4,Zj g2),(10,.agg #[Zi x.t0,Zi x.t1,Zi x.s0,Zi x.s1]),(11,Zi 0),(17,.bool (!(withinB x.t1 (-30) 30)))]) [8,10,9,0] Z).as (by (try rw [show (!(withinB x.t0 (-30) 30))=false from h1]);(try rfl)),M.mask [true] Z⟩
 clear T M
 rintro ac wc ⟨T,M⟩
 refine wp_cond_split (T.e 3 Z) ?_ ?_
 ·intro h2
  (have h2':=h2;try simp only [Zb1,Zb2,Zb3,Zb4,Zb5,Zb6,Zb7] at h2')
  refine Zsr ?_
  refine lq T (Zra Z evc) ?_;intro ac T
  refine wpList_nil ?_
  replace T:=T.pick [0] rfl
  replace M:=M.mask [false] rfl
  refine Znr ?_
  refine Zrb ?_
  refine Zrb ?_
  refine Zrt ?_
  refine Zrt ?_
  refine Zrb ?_
  refine Zrt ?_
  refine rt_1 T Z (T.e 0 Z) ?_
  refine ⟨ret_int ?_,M.below⟩
  unfold sndE chkR
  (repeat' split) <;> first | rfl | omega | contradiction | (simp_all;done) | (simp_all;omega)
 intro h2
 (have h2':=h2;try simp only [Zb1,Zb2,Zb3,Zb4,Zb5,Zb6,Zb7] at h2')
 refine Zsr ?_
 refine Zg6 (v1:=(Zj g2)) (v3:=(.pointer (some ⟨g2,1,none⟩))) T (Zq (Zrg 0 Z (T.e 0 Z))) Z (Zo M 0 0 Z Z Z Z) Z (Zf 1 2 Z Z) Z (Zo M 0 0 Z Z Z Z) Z (fun _ T=>Zq (rn_gtr Z (T.e 2 Z) (T.e 0 Z))) Z (Za 0 Z Z) Z ?_;intro ac T
 refine wpList_nil ?_
 replace T:=T.pick [0,7,8] rfl
 replace M:=M.mask [false] rfl
 refine nm_then ?_
 refine wp_if (T.e 0 Z) ?_ ?_
 ·intro h3
  refine Zsr ?_
  refine lq T (Zra Z evc) ?_;intro ac T
  replace T:=T.pick [0] rfl
  refine Zln ?_
  refine wp_ret ?_
  refine Zrb ?_
  refine Zrb ?_
  refine Zrt ?_
  refine Zrt ?_
  refine Zrb ?_
  refine Zrt ?_
  refine rt_1 T Z (T.e 0 Z) ?_
  refine ⟨ret_int ?_,M.below⟩
  unfold sndE chkR
  (repeat' split) <;> first | rfl | omega | contradiction | (simp_all;done) | (simp_all;omega)
 intro h3
 refine wp_skip ?_
 refine Znb ?_
 refine Znb ?_
 refine nm_then ?_
 refine wp_region_lit ?_
 refine lq (v:=(Zi 1)) T (rn_ofI (rn_add Z (T.e 2 Z) evc (by omega)) (by rfl)) ?_;intro ac T
 refine l_q (v:=(Zi 1)) (T.pick [0,1,2] Z) Z Z Z Z (Zrm Z (T.e 0 Z)) ?_;intro ac T
 replace T:=T.pick [0,3] rfl
 refine Zln ?_
 refine rounds_S ?_
 refine Zsr ?_
 refine lq (v:=(.bool true)) T (Zrq (rn_lss Z (T.e 0 Z) evc) (by simp)) ?_;intro ac T
 refine Zln ?_
 refine wp_seq ?_
 refine wp_cond_true (T.e 0 Z) ?_
 refine Zsk ?_
 refine wp_seq ?_
 refine wp_block ?_
 refine Zsr ?_
 refine Zg2 (v2:=(.agg #[Zi x.s0,Zi x.s1])) T (Zq (Zrm Z (T.e 1 Z))) Z (fun _ T=>Zq (rn_index Z (T.e 3 Z) (T.e 2 Z) (fun _=>by kernel_rfl))) Z ?_;intro ac T
 refine Zl2 ?_
 refine Zoa M T Z Z Z Z ?_;clear M T;intro g3 wc ac M T
 refine lq T (Zra Z (T.e 2 Z)) ?_;intro ac T
 refine Zl2 ?_
 refine Zot M T Z Z (T.e 1 Z) (T.e 2 Z) Z .head Z Z ?_;clear M T;intro wc ac M T
 replace T:=T.pick [0,1,5,6] rfl
 refine Zln ?_
 refine Zsr ?_
 refine lq T (Zra Z evc) ?_;intro ac T
 refine Zln ?_
 refine wp_seq ?_
 refine Zsr ?_
 refine Zg2 (v2:=(.bool true)) T (Zq (Zrm Z (T.e 1 Z))) Z (fun _ T=>Zq (Zrq (rn_eql Z (T.e 0 Z) evc) (by simp))) Z ?_;intro ac T
 replace T:=T.pick [0,2,4,5,6] rfl
 refine Zln ?_
 refine wp_cond_true (T.e 0 Z) ?_
 refine wp_region_lit ?_
 refine l_q (v:=(Zi 3)) (T.pick [0,2,3,4] Z) Z Z Z Z (Zra Z evc) ?_;intro ac T
 replace T:=T.pick [0,2,3,4] rfl
 refine Zln ?_
 refine wp_block ?_
 refine cut_seq (fun ac wc=>Tm ac 41 [(4,Zj g3),(10,.agg #[Zi x.t0,Zi x.t1,Zi x.s0,Zi x.s1]),(11,Zi 1),(17,.bool ((!(withinB x.s0 (-3) 3)) || (!(withinB x.s1 (-3) 3))))]∧Mem w noEx wc [(g3,.cells [Zi x.s0,Zi x.s1])]) ?_ ?_
 ·refine wp_region_lit ?_
  refine Zg5 (v1:=(Zj g3)) T (Zq (Zrg 0 Z (T.e 1 Z))) Z (Zo M 0 0 Z Z Z Z) Z (Zm 2 Z Z) Z (fun _ T=>Zq (rn_neg Z (T.e 0 Z) (by omega))) Z (Zm 4 Z Z) Z ?_;intro ac T
  refine Zl2 ?_
  refine Zod T Z Z Z Z evf (.cons (T.e 3 Z) (.cons (T.e 1 Z) (.cons (T.e 0 Z) .nil))) func99 Z Z ?_
  refine Calls.mono (vwithin_any x.s0 (-3) 3 _) ?_
  clear T;rintro e wc ⟨rfl,hb⟩ ac T
  replace M:=M.call hb;clear hb
  refine Zg2 T (Zq (rn_not Z (T.e 0 Z))) Z (Zm 0 Z Z) Z ?_;intro ac T
  rcases Zx9 (!(withinB x.s0 (-3) 3)) with h4 | h4
  ·refine Zg8 T (Zp (Zwn Z Z (T.e 0 Z) h4)) Z (fun _ T=>Zp (Zwn Z Z (T.e 1 Z) h4)) Z (fun _ T=>Zp (Zwn Z Z (T.e 2 Z) h4)) Z (fun _ T=>Zp (Zwn Z Z (T.e 3 Z) h4)) Z (fun _ T=>Zp (Zwn Z Z (T.e 4 Z) h4)) Z (fun _ T=>Zp (Zwn Z Z (T.e 5 Z) h4)) Z (fun _ T=>Zp (Zwn Z Z (T.e 6 Z) h4)) Z (fun _ T=>Zq (Zr1 Z (T.e 7 Z) h4 evc)) Z ?_;intro ac T
   refine lq T (Zra Z (T.e 0 Z)) ?_;intro ac T
   refine wpList_nil ?_
   replace T:=T.pick [0,2,3,4,5,6,7,8,18,19,20] rfl
   exact ⟨(T.pick (E':=[(4,Zj g3),(10,.agg #[Zi x.t0,Zi x.t1,Zi x.s0,Zi x.s1]),(11,Zi 1),(17,.bool true)]) [8,10,9,0] Z).as (by (try rw [show (!(withinB x.s0 (-3) 3))=true from h4]);(try rfl)),M.mask [true] Z⟩
  refine Zg5 (v1:=(.pointer (some ⟨g3,1,none⟩))) T (Zw (Zwy Z Z (T.e 0 Z) h4) (Zrg 1 Z (T.e 9 Z))) Z (fun _ T=>Zw (Zwy Z Z (T.e 1 Z) h4) (Zro (Mem.nth M 0 Z) Z (T.e 0 Z) Z)) Z (fun _ T=>Zw (Zwy Z Z (T.e 2 Z) h4) (Zrm Z (T.e 10 Z))) Z (fun _ T=>Zw (Zwy Z Z (T.e 3 Z) h4) (rn_neg Z (T.e 0 Z) (by omega))) Z (fun _ T=>Zw (Zwy Z Z (T.e 4 Z) h4) (Zrm Z (T.e 12 Z))) Z ?_;intro ac T
  refine l_w (Zwy Z Z (T.e 5 Z) h4) ?_;intro K hK
  refine Zod T Z Z Z Z evf (.cons (T.e 3 Z) (.cons (T.e 1 Z) (.cons (T.e 0 Z) .nil))) func99 Z Z ?_
  refine Calls.mono (vwithin_any x.s1 (-3) 3 _) ?_
  clear T;rintro e wc ⟨rfl,hb⟩ ac T
  replace M:=M.call hb;clear hb
  refine Zso hK _ _ ?_;clear hK K
  refine Zg3 T (Zw (Zwy Z Z (T.e 6 Z) h4) (rn_not Z (T.e 0 Z))) Z (fun _ T=>Zq (Zr0 Z (T.e 7 Z) h4 (T.e 0 Z))) Z (Za 0 Z Z) Z ?_;intro ac T
  refine wpList_nil ?_
  replace T:=T.pick [0,2,3,4,5,6,7,8,18,19,20] rfl
  exact ⟨(T.pick (E':=[(4,Zj g3),(10,.agg #[Zi x.t0,Zi x.t1,Zi x.s0,Zi x.s1]),(11,Zi 1),(17,.bool (!(withinB x.s1 (-3) 3)))]) [8,10,9,0] Z).as (by (try rw [show (!(withinB x.s0 (-3) 3))=false from h4]);(try rfl)),M.mask [true] Z⟩
 clear T M
 rintro ac wc ⟨T,M⟩
 refine wp_cond_split (T.e 3 Z) ?_ ?_
 ·intro h5
  (have h5':=h5;try simp only [Zb1,Zb2,Zb3,Zb4,Zb5,Zb6,Zb7] at h5')
  refine Zsr ?_
  refine lq T (Zra Z evc) ?_;intro ac T
  refine wpList_nil ?_
  replace T:=T.pick [0] rfl
  replace M:=M.mask [false] rfl
  refine Znr ?_
  refine Zrb ?_
  refine Zrb ?_
  refine Zrt ?_
  refine Zrt ?_
  refine Zrb ?_
  refine Zrt ?_
  refine rt_1 T Z (T.e 0 Z) ?_
  refine ⟨ret_int ?_,M.below⟩
  unfold sndE chkR
  (repeat' split) <;> first | rfl | omega | contradiction | (simp_all;done) | (simp_all;omega)
 intro h5
 (have h5':=h5;try simp only [Zb1,Zb2,Zb3,Zb4,Zb5,Zb6,Zb7] at h5')
 refine Zsr ?_
 refine Zg6 (v1:=(Zj g3)) (v3:=(.pointer (some ⟨g3,1,none⟩))) T (Zq (Zrg 0 Z (T.e 0 Z))) Z (Zo M 0 0 Z Z Z Z) Z (Zf 1 2 Z Z) Z (Zo M 0 0 Z Z Z Z) Z (fun _ T=>Zq (rn_gtr Z (T.e 2 Z) (T.e 0 Z))) Z (Za 0 Z Z) Z ?_;intro ac T
 refine wpList_nil ?_
 replace T:=T.pick [0,7,8] rfl
 replace M:=M.mask [false] rfl
 refine nm_then ?_
 refine wp_if (T.e 0 Z) ?_ ?_
 ·intro h6
  refine Zsr ?_
  refine lq T (Zra Z evc) ?_;intro ac T
  replace T:=T.pick [0] rfl
  refine Zln ?_
  refine wp_ret ?_
  refine Zrb ?_
  refine Zrb ?_
  refine Zrt ?_
  refine Zrt ?_
  refine Zrb ?_
  refine Zrt ?_
  refine rt_1 T Z (T.e 0 Z) ?_
  refine ⟨ret_int ?_,M.below⟩
  unfold sndE chkR
  (repeat' split) <;> first | rfl | omega | contradiction | (simp_all;done) | (simp_all;omega)
 intro h6
 refine wp_skip ?_
 refine Znb ?_
 refine Znb ?_
 refine nm_then ?_
 refine wp_region_lit ?_
 refine lq (v:=(Zi 2)) T (rn_ofI (rn_add Z (T.e 2 Z) evc (by omega)) (by rfl)) ?_;intro ac T
 refine l_q (v:=(Zi 2)) (T.pick [0,1,2] Z) Z Z Z Z (Zrm Z (T.e 0 Z)) ?_;intro ac T
 replace T:=T.pick [0,3] rfl
 refine Zln ?_
 refine rounds_S ?_
 refine Zsr ?_
 refine lq (v:=(.bool false)) T (Zrq (rn_lss Z (T.e 0 Z) evc) (by simp)) ?_;intro ac T
 refine Zln ?_
 refine wp_seq ?_
 refine wp_cond_false (T.e 0 Z) ?_
 refine wp_exit ?_
 refine Zet ?_
 refine Zet ?_
 refine ex_hit ?_
 refine nm_then ?_
 refine Zsr ?_
 refine lq T (Zra Z evc) ?_;intro ac T
 replace T:=T.pick [0] rfl
 refine Zln ?_
 refine wp_ret ?_
 refine rt_1 T Z (T.e 0 Z) ?_
 refine ⟨ret_int ?_,M.below⟩
 unfold sndE chkR
 (repeat' split) <;> first | rfl | omega | contradiction | (simp_all;done) | (simp_all;omega)
theorem checkSounds_any (A:Option Addr) (n c:Nat) (l:List Snd) (most:Int) (w:World) (hr:Rd w w.heap.size 4 A n (sc l)) (hn:n≤1000000) :
   Calls prog 100 #[.slice A n c,Zi most] w fun e w'=>e=.returned (Zi (sndsE l most))∧Below w.heap.size w w':=by
 have hl:=hr.len4
 obtain ⟨bJ,oJ,SJ⟩:=Sp.old hr
 refine Zpx noEx func100 Z 24 Z [.slice A n c,Zi most] Z Z (Mem.init w _) ?_
 intro ac wc T M
 refine Zsr ?_
 refine lq T (Zra Z evc) ?_;intro ac T
 replace T:=T.pick [1,2] rfl
 refine Zln ?_
 refine wp_seq ?_
 refine Zsr ?_
 refine Zg4 T (Zq (Zrm Z (T.e 0 Z))) Z (Zl underlying24 0 Z Z) Z (Zm 3 Z Z) Z (fun _ T=>Zq (rn_gtr Z (T.e 1 Z) (T.e 0 Z))) Z ?_;intro ac T
 replace T:=T.pick [0,4] rfl
 refine Zln ?_
 refine wp_if (T.e 0 Z) ?_ ?_
 ·intro h1
  refine Zsr ?_
  refine lq T (Zra Z evc) ?_;intro ac T
  replace T:=T.pick [0] rfl
  refine Zln ?_
  refine wp_ret ?_
  refine Zrt ?_
  refine rt_1 T Z (T.e 0 Z) ?_
  refine ⟨ret_int ?_,M.below⟩
  unfold sndsE
  rw [if_pos (by omega)]
 intro h1
 refine Zsk ?_
 refine wp_seq ?_
 refine Zsr ?_
 refine Zg3 T (Zq (Zrm Z (T.e 1 Z))) Z (Zl underlying24 0 Z Z) Z (fun _ T=>Zq (Zrm Z evc)) Z ?_;intro ac T
 replace T:=T.pick [0,1,2] rfl
 refine Zln ?_
 refine wp_block ?_
 refine wp_loop_n (fun mz ac wc=>∃ (k:Nat),mz=n - k∧(k≤n)∧(sndsL l=sndsL (l.drop k))∧Tm ac 24 [(12,.slice A n c),(13,Zi ((n:Nat):Int)),(14,Zi (k:Int))]∧Mem w noEx wc []) ?_ ?_
 ·exact ⟨_,0,Z,(by omega),Z,T.pick [2,1,0] Z,M.mask [] Z⟩
 clear T M
 rintro mz ac wc ⟨k,hmm1,hk,H,T,M⟩
 refine Zsr ?_
 refine lq T (rn_lss Z (T.e 2 Z) (T.e 1 Z)) ?_;intro ac T
 refine Zln ?_
 refine wp_seq ?_
 refine wp_if (T.e 0 Z) ?_ ?_
 ·intro h2
  obtain ⟨x,hk1,hd⟩:=sc_next (l:=l) (k:=k) (by omega)
  rw [hd,sndsL] at H
  refine Zsk ?_
  refine wp_seq ?_
  refine wp_block ?_
  refine Zsr ?_
  refine Zg2 (v2:=(.agg #[Zi x.t0,Zi x.t1,Zi x.s0,Zi x.s1])) T (Zq (Zri (size:=4) k Z (T.e 1 Z) (T.e 3 Z) ⟨_,underlying24,by kernel_rfl⟩ Z (by omega) (SJ.at0 (by omega)))) Z (fun _ T=>Zq (rn_rowat (Sp.scR4 SJ M (Zz9 _) hk1) Z (T.e 0 Z) Z)) Z ?_;intro ac T
  refine Zl2 ?_
  refine Zoa M T Z Z Z Z ?_;clear M T;intro g1 wc ac M T
  refine Zl2 ?_
  refine Zot M T Z Z (T.e 0 Z) (T.e 1 Z) Z .head Z Z ?_;clear M T;intro wc ac M T
  replace T:=T.pick [0,4,5,6] rfl
  refine Zln ?_
  refine Zsr ?_
  refine lq T (Zrr (Mem.nth M 0 Z) Z (T.e 0 Z) Z) ?_;intro ac T
  refine Zl2 ?_
  refine Zod T Z Z Z Z evf (.cons (T.e 0 Z) .nil) func167 Z Z ?_
  refine Calls.mono (checkSound_any x _) ?_
  clear T;rintro e wc ⟨rfl,hb⟩ ac T
  replace M:=M.call hb;clear hb
  refine lq T (Zra Z (T.e 0 Z)) ?_;intro ac T
  refine wpList_nil ?_
  replace T:=T.pick [0,4,5,6] rfl
  replace M:=M.mask [false] rfl
  refine nm_then ?_
  refine Zsr ?_
  refine Zg2 T (Zq (Zrm Z (T.e 0 Z))) Z (fun _ T=>Zq (rn_neq Z (T.e 0 Z) evc)) Z ?_;intro ac T
  replace T:=T.pick [0,2,3,4,5] rfl
  refine Zln ?_
  refine wp_ifn (T.e 0 Z) ?_ ?_
  ·intro h3
   refine Zsr ?_
   refine Zg2 T (Zq (Zrm Z (T.e 1 Z))) Z (Za 0 Z Z) Z ?_;intro ac T
   replace T:=T.pick [0] rfl
   refine Zln ?_
   refine wp_ret ?_
   refine Zrb ?_
   refine Zrt ?_
   refine Zrt ?_
   refine Zrb ?_
   refine Zrt ?_
   refine rt_1 T Z (T.e 0 Z) ?_
   refine ⟨ret_int ?_,M.below⟩
   unfold sndsE
   rw [if_neg (by omega),H]
   rw [if_neg (by simp_all)]
  intro h3
  refine wp_skip ?_
  refine Znb ?_
  refine nm_then ?_
  refine wp_region_lit ?_
  refine lq T (rn_add Z (T.e 4 Z) evc (by omega)) ?_;intro ac T
  refine l_q (v:=(Zi ((k:Int)+1))) (T.pick [0,1,2,3,4] Z) Z Z Z Z (Zrm Z (T.e 0 Z)) ?_;intro ac T
  replace T:=T.pick [0,4,5] rfl
  refine Zln ?_
  rw [if_pos (by simp_all)] at H
  exact ⟨_,by omega,k+1,Z,(by omega),H,T.pick [1,2,0] Z,M.mask [] Z⟩
 intro h2
 rw [List.drop_of_length_le (by omega),sndsL] at H
 refine wp_exit ?_
 refine Zet ?_
 refine Zet ?_
 refine ex_hit ?_
 refine nm_then ?_
 refine Zsr ?_
 refine lq T (Zra Z evc) ?_;intro ac T
 replace T:=T.pick [0] rfl
 refine Zln ?_
 refine wp_ret ?_
 refine rt_1 T Z (T.e 0 Z) ?_
 refine ⟨ret_int ?_,M.below⟩
 unfold sndsE
 rw [if_neg (by omega),H]
theorem vdue_any (l:Lw) (n:Int) (w:World) (h0 : -1000≤l.first∧l.first≤1000) (h1 : -1000≤l.step∧l.step≤1000) (h2 : -1000≤n∧n≤1000) :
  Calls prog 88 #[.agg #[Zi l.first,Zi l.step,Zi l.span,Zi l.press],Zi n] w fun e w'=>e=.returned (Zi (l.first+l.step * n))∧Below w.heap.size w w':=by
 have hm:=mulB h1 h2
 refine Zpx noEx func88 Z 12 Z [.agg #[Zi l.first,Zi l.step,Zi l.span,Zi l.press],Zi n] Z Z (Mem.init w _) ?_
 intro ac wc T M
 refine Zsr ?_
 refine Zl2 ?_
 refine Zob M T Z Z Z Z (T.e 0 Z) Z ?_;clear M T;intro g1 wc ac M T
 refine lq T (Zra Z evc) ?_;intro ac T
 replace T:=T.pick [1,3] rfl
 refine Zln ?_
 refine Zsr ?_
 refine Zg8 (v1:=(Zj g1)) (v3:=(.pointer (some ⟨g1,1,none⟩))) T (Zq (Zrg 0 Z (T.e 0 Z))) Z (Zo M 0 0 Z Z Z Z) Z (Zf 1 2 Z Z) Z (Zo M 0 0 Z Z Z Z) Z (Zm 5 Z Z) Z (fun _ T=>Zq (rn_mul Z (T.e 1 Z) (T.e 0 Z) (by omega))) Z (fun _ T=>Zq (rn_add Z (T.e 4 Z) (T.e 0 Z) (by omega))) Z (Za 0 Z Z) Z ?_;intro ac T
 refine wpList_nil ?_
 replace T:=T.pick [0] rfl
 replace M:=M.mask [false] rfl
 refine Znr ?_
 refine rt_1 T Z (T.e 0 Z) ?_
 exact ⟨rfl,M.below⟩
theorem times_any (x0 x1 n:Int) (w:World) (h0 : -1000≤x0∧x0≤1000) (h1 : -1000≤x1∧x1≤1000) (h2 : -1000≤n∧n≤1000) :
  Calls prog 202 #[.agg #[Zi x0,Zi x1],Zi n] w fun e w'=>e=.returned (.agg #[Zi (n * x0),Zi (n * x1)])∧Below w.heap.size w w':=by
 have hm:=mulB h2 h0
 have hm2:=mulB h2 h1
 refine Zpx noEx func202 Z 14 Z [.agg #[Zi x0,Zi x1],Zi n] Z Z (Mem.init w _) ?_
 intro ac wc T M
 refine Zsr ?_
 refine Zl2 ?_
 refine Zob M T Z Z Z Z (T.e 0 Z) Z ?_;clear M T;intro g1 wc ac M T
 refine Zl2 ?_
 refine Zoa M T Z Z Z Z ?_;clear M T;intro g2 wc ac M T
 replace T:=T.pick [0,1,3] rfl
 refine Zln ?_
 refine Zsr ?_
 refine Zg8 (v2:=(Zj g1)) (v6:=(.pointer (some ⟨g1,1,none⟩))) T (Zq (Zrm Z (T.e 2 Z))) Z (Zf 0 2 Z Z) Z (Zo M 1 0 Z Z Z Z) Z (fun _ T=>Zq (rn_mul Z (T.e 2 Z) (T.e 0 Z) (by omega))) Z (Zm 6 Z Z) Z (Zf 1 6 Z Z) Z (Zo M 1 0 Z Z Z Z) Z (fun _ T=>Zq (rn_mul Z (T.e 2 Z) (T.e 0 Z) (by omega))) Z ?_;intro ac T
 refine lq (v:=(.agg #[Zi (n * x0),Zi (n * x1)])) T (rn_build Z (.cons (T.e 4 Z) (.cons (T.e 0 Z) .nil)) (fun _=>by kernel_rfl)) ?_;intro ac T
 refine Zl2 ?_
 refine Zot M T Z Z (T.e 9 Z) (T.e 0 Z) Z .head Z Z ?_;clear M T;intro wc ac M T
 refine wpList_nil ?_
 replace T:=T.pick [9] rfl
 replace M:=M.mask [true,false] rfl
 refine Znr ?_
 refine rt_c M T Z (T.e 0 Z) (Zne (i:=0) Z) Z ?_
 exact ⟨rfl,M.below⟩
theorem vplus_any (x0 x1 y0 y1:Int) (w:World) (hx0 : -1000000000≤x0∧x0≤1000000000) (hx1 : -1000000000≤x1∧x1≤1000000000) (hy0 : -1000000000≤y0∧y0≤1000000000) (hy1 : -1000000000≤y1∧y1≤1000000000) :
  Calls prog 151 #[.agg #[Zi x0,Zi x1],.agg #[Zi y0,Zi y1]] w fun e w'=>e=.returned (.agg #[Zi (x0+y0),Zi (x1+y1)])∧Below w.heap.size w w':=by
 refine Zpx noEx func151 Z 16 Z [.agg #[Zi x0,Zi x1],.agg #[Zi y0,Zi y1]] Z Z (Mem.init w _) ?_
 intro ac wc T M
 refine Zsr ?_
 refine Zl2 ?_
 refine Zob M T Z Z Z Z (T.e 0 Z) Z ?_;clear M T;intro g1 wc ac M T
 refine Zl2 ?_
 refine Zob M T Z Z Z Z (T.e 2 Z) Z ?_;clear M T;intro g2 wc ac M T
 refine Zl2 ?_
 refine Zoa M T Z Z Z Z ?_;clear M T;intro g3 wc ac M T
 replace T:=T.pick [0,1,2] rfl
 refine Zln ?_
 refine Zsr ?_
 refine Zg8 (v1:=(Zj g1)) (v3:=(Zj g2)) (v6:=(.pointer (some ⟨g1,1,none⟩))) (v8:=(.pointer (some ⟨g2,1,none⟩))) T (Zq (Zrg 0 Z (T.e 2 Z))) Z (Zo M 2 0 Z Z Z Z) Z (Zf 0 3 Z Z) Z (Zo M 1 0 Z Z Z Z) Z (fun _ T=>Zq (rn_add Z (T.e 2 Z) (T.e 0 Z) (by omega))) Z (Zf 1 7 Z Z) Z (Zo M 2 0 Z Z Z Z) Z (Zf 1 8 Z Z) Z ?_;intro ac T
 refine Zg3 (v3:=(.agg #[Zi (x0+y0),Zi (x1+y1)])) T (Zq (Zro (Mem.nth M 1 Z) Z (T.e 0 Z) Z)) Z (fun _ T=>Zq (rn_add Z (T.e 2 Z) (T.e 0 Z) (by omega))) Z (fun _ T=>Zq (rn_build Z (.cons (T.e 5 Z) (.cons (T.e 0 Z) .nil)) (fun _=>by kernel_rfl))) Z ?_;intro ac T
 refine Zl2 ?_
 refine Zot M T Z Z (T.e 11 Z) (T.e 0 Z) Z .head Z Z ?_;clear M T;intro wc ac M T
 refine wpList_nil ?_
 replace T:=T.pick [11] rfl
 replace M:=M.mask [true,false,false] rfl
 refine Znr ?_
 refine rt_c M T Z (T.e 0 Z) (Zne (i:=0) Z) Z ?_
 exact ⟨rfl,M.below⟩
theorem vless_any (x0 x1 y0 y1:Int) (w:World) (hx0 : -1000000000≤x0∧x0≤1000000000) (hx1 : -1000000000≤x1∧x1≤1000000000) (hy0 : -1000000000≤y0∧y0≤1000000000) (hy1 : -1000000000≤y1∧y1≤1000000000) :
  Calls prog 162 #[.agg #[Zi x0,Zi x1],.agg #[Zi y0,Zi y1]] w fun e w'=>e=.returned (.agg #[Zi (x0 - y1),Zi (x1 - y0)])∧Below w.heap.size w w':=by
 refine Zpx noEx func162 Z 16 Z [.agg #[Zi x0,Zi x1],.agg #[Zi y0,Zi y1]] Z Z (Mem.init w _) ?_
 intro ac wc T M
 refine Zsr ?_
 refine Zl2 ?_
 refine Zob M T Z Z Z Z (T.e 0 Z) Z ?_;clear M T;intro g1 wc ac M T
 refine Zl2 ?_
 refine Zob M T Z Z Z Z (T.e 2 Z) Z ?_;clear M T;intro g2 wc ac M T
 refine Zl2 ?_
 refine Zoa M T Z Z Z Z ?_;clear M T;intro g3 wc ac M T
 replace T:=T.pick [0,1,2] rfl
 refine Zln ?_
 refine Zsr ?_
 refine Zg8 (v1:=(Zj g1)) (v3:=(.pointer (some ⟨g2,1,none⟩))) (v6:=(.pointer (some ⟨g1,1,none⟩))) (v8:=(Zj g2)) T (Zq (Zrg 0 Z (T.e 2 Z))) Z (Zo M 2 0 Z Z Z Z) Z (Zf 1 3 Z Z) Z (Zo M 1 0 Z Z Z Z) Z (fun _ T=>Zq (rn_sub Z (T.e 2 Z) (T.e 0 Z) (by omega))) Z (Zf 1 7 Z Z) Z (Zo M 2 0 Z Z Z Z) Z (Zf 0 8 Z Z) Z ?_;intro ac T
 refine Zg3 (v3:=(.agg #[Zi (x0 - y1),Zi (x1 - y0)])) T (Zq (Zro (Mem.nth M 1 Z) Z (T.e 0 Z) Z)) Z (fun _ T=>Zq (rn_sub Z (T.e 2 Z) (T.e 0 Z) (by omega))) Z (fun _ T=>Zq (rn_build Z (.cons (T.e 5 Z) (.cons (T.e 0 Z) .nil)) (fun _=>by kernel_rfl))) Z ?_;intro ac T
 refine Zl2 ?_
 refine Zot M T Z Z (T.e 11 Z) (T.e 0 Z) Z .head Z Z ?_;clear M T;intro wc ac M T
 refine wpList_nil ?_
 replace T:=T.pick [11] rfl
 replace M:=M.mask [true,false,false] rfl
 refine Znr ?_
 refine rt_c M T Z (T.e 0 Z) (Zne (i:=0) Z) Z ?_
 exact ⟨rfl,M.below⟩
theorem rise_any (lo hi:Snd) (p:Int) (w:World) (gl:lo.good) (gh:hi.good) (hp:0≤p∧p≤3) :
  Calls prog 152 #[.agg #[Zi lo.t0,Zi lo.t1,Zi lo.s0,Zi lo.s1],.agg #[Zi hi.t0,Zi hi.t1,Zi hi.s0,Zi hi.s1],Zi p] w fun e w'=>e=.returned (.agg #[Zi ((riseP lo hi p).1),Zi ((riseP lo hi p).2)])∧Below w.heap.size w w':=by
 obtain ⟨g1,g2⟩:=gl
 obtain ⟨g3,g4⟩:=gh
 have m1:=mulB (a:=p) (b:=hi.s0) (by omega) (by omega)
 have m2:=mulB (a:=p) (b:=hi.s1) (by omega) (by omega)
 have m3:=mulB (a:=p) (b:=lo.s0) (by omega) (by omega)
 have m4:=mulB (a:=p) (b:=lo.s1) (by omega) (by omega)
 refine Zpx noEx func152 Z 19 Z [.agg #[Zi lo.t0,Zi lo.t1,Zi lo.s0,Zi lo.s1],.agg #[Zi hi.t0,Zi hi.t1,Zi hi.s0,Zi hi.s1],Zi p] Z Z (Mem.init w _) ?_
 intro ac wc T M
 refine Zsr ?_
 refine Zl2 ?_
 refine Zob M T Z Z Z Z (T.e 0 Z) Z ?_;clear M T;intro g1 wc ac M T
 refine Zl2 ?_
 refine Zob M T Z Z Z Z (T.e 2 Z) Z ?_;clear M T;intro g2 wc ac M T
 refine Zl2 ?_
 refine Zoa M T Z Z Z Z ?_;clear M T;intro g3 wc ac M T
 replace T:=T.pick [0,1,2,5] rfl
 refine Zln ?_
 refine wp_seq ?_
 refine Zgs M (M.perm [1,2] Z Z) 13 (by kernel_rfl) Z (by kernel_rfl) ?_
 clear M;intro wc M
 refine g_addG 12 M ?_
 refine Zgq (v:=(.pointer (some ⟨g2,2,none⟩))) T 0 1 Z (fun _=>(Zrg 2 Z (T.e 1 Z))) ?_;intro ac T
 refine gq T 1 3 Z (fun B w' hD hl hS=>(Zrr (Mem.nth (show Mem w noEx w' _ from ((MA.lft hS) (hD.wait (i:=1) (m:=12) (by kernel_rfl) hl))) 1 Z) Z (T.e 0 Z) Z)) ?_;intro ac T
 refine Zgq T 2 7 Z (fun _=>(Zrm Z (T.e 5 Z))) ?_;intro ac T
 refine Zgq (v:=(Zj g1)) T 4 23 Z (fun _=>(Zrg 0 Z (T.e 5 Z))) ?_;intro ac T
 refine gq T 5 55 Z (fun B w' hD hl hS=>(Zrr (Mem.nth (show Mem w noEx w' _ from ((MA.lft hS) (hD.wait (i:=5) (m:=12) (by kernel_rfl) hl))) 2 Z) Z (T.e 0 Z) Z)) ?_;intro ac T
 refine Zgq (v:=(.pointer (some ⟨g1,2,none⟩))) T 6 119 Z (fun _=>(Zrg 2 Z (T.e 7 Z))) ?_;intro ac T
 refine gq T 7 247 Z (fun B w' hD hl hS=>(Zrr (Mem.nth (show Mem w noEx w' _ from ((MA.lft hS) (hD.wait (i:=7) (m:=12) (by kernel_rfl) hl))) 2 Z) Z (T.e 0 Z) Z)) ?_;intro ac T
 refine Zgq T 8 503 Z (fun _=>(Zrm Z (T.e 10 Z))) ?_;intro ac T
 refine gw 3 511 ?_;intro K hK
 refine Zod T Z Z Z Z evf (.cons (T.e 6 Z) (.cons (T.e 5 Z) .nil)) func202 Z Z ?_
 refine Calls.mono (times_any hi.s0 hi.s1 p _ (by (try dsimp only);omega) (by (try dsimp only);omega) (by (try dsimp only);omega)) ?_
 clear T;rintro e wc ⟨rfl,hb⟩ ac T
 replace M:=M.call hb;clear hb
 refine Zso hK _ _ (MA.mk (fun _=>M.mask [true,true,true] Z) (M.mask [false,true,true] Z)) ?_;clear hK K
 refine gw 9 1023 ?_;intro K hK
 refine Zod T Z Z Z Z evf (.cons (T.e 2 Z) (.cons (T.e 1 Z) .nil)) func202 Z Z ?_
 refine Calls.mono (times_any lo.s0 lo.s1 p _ (by (try dsimp only);omega) (by (try dsimp only);omega) (by (try dsimp only);omega)) ?_
 clear T;rintro e wc ⟨rfl,hb⟩ ac T
 replace M:=M.call hb;clear hb
 refine Zso hK _ _ (MA.mk (fun _=>M.mask [true,true,true] Z) (M.mask [false,true,true] Z)) ?_;clear hK K
 refine gw 10 2047 ?_;intro K hK
 refine Zod T Z Z Z Z evf (.cons (T.e 5 Z) (.cons (T.e 0 Z) .nil)) func151 Z Z ?_
 refine Calls.mono (vplus_any lo.t0 lo.t1 (p * lo.s0) (p * lo.s1) _ (by omega) (by omega) (by omega) (by omega)) ?_
 clear T;rintro e wc ⟨rfl,hb⟩ ac T
 replace M:=M.call hb;clear hb
 refine Zso hK _ _ (MA.mk (fun _=>M.mask [true,true,true] Z) (M.mask [false,true,true] Z)) ?_;clear hK K
 refine gw 11 4095 ?_;intro K hK
 refine Zod T Z Z Z Z evf (.cons (T.e 2 Z) (.cons (T.e 0 Z) .nil)) func162 Z Z ?_
 refine Calls.mono (vless_any (p * hi.s0) (p * hi.s1) (lo.t0+(p * lo.s0)) (lo.t1+(p * lo.s1)) _ (by omega) (by omega) (by omega) (by omega)) ?_
 clear T;rintro e wc ⟨rfl,hb⟩ ac T
 replace M:=M.call hb;clear hb
 refine Zso hK _ _ (MA.mk (fun _=>M.mask [true,true,true] Z) (M.mask [false,true,true] Z)) ?_;clear hK K
 refine gw 12 8191 ?_;intro K hK
 refine Zot M T Z Z (T.e 12 Z) (T.e 0 Z) Z .head Z Z ?_;clear M T;intro wc ac M T
 refine Zso hK _ _ (MA.mk (fun h=>(no_of (by kernel_rfl) h).elim) (M.mask [false,true,true] Z)) ?_;clear hK K
 refine Zgd (by kernel_rfl) ?_
 replace T:=T.pick [12] rfl
 replace M:=M.mask [true,false,false] rfl
 refine Znr ?_
 refine rt_c M T Z (T.e 0 Z) (Zne (i:=0) Z) Z ?_
 exact ⟨rfl,M.below⟩
theorem beats_any (l:Lw) (lo hi:Snd) (w:World) (hp:0≤l.press∧l.press≤3) (gl:lo.good) (gh:hi.good)  :
   Calls prog 78 #[.agg #[Zi l.first,Zi l.step,Zi l.span,Zi l.press],.agg #[Zi lo.t0,Zi lo.t1,Zi lo.s0,Zi lo.s1],.agg #[Zi hi.t0,Zi hi.t1,Zi hi.s0,Zi hi.s1]] w (BeatsPost l lo hi w):=by
 obtain ⟨⟨gl1,gl2⟩,gh1,gh2⟩:=And.intro gl gh
 refine Zpx noEx func78 Z 27 Z [.agg #[Zi l.first,Zi l.step,Zi l.span,Zi l.press],.agg #[Zi lo.t0,Zi lo.t1,Zi lo.s0,Zi lo.s1],.agg #[Zi hi.t0,Zi hi.t1,Zi hi.s0,Zi hi.s1]] Z Z (Mem.init w _) ?_
 intro ac wc T M
 refine Zsr ?_
 refine Zl2 ?_
 refine Zob M T Z Z Z Z (T.e 0 Z) Z ?_;clear M T;intro g1 wc ac M T
 refine Zl2 ?_
 refine Zob M T Z Z Z Z (T.e 2 Z) Z ?_;clear M T;intro g2 wc ac M T
 refine Zl2 ?_
 refine Zob M T Z Z Z Z (T.e 4 Z) Z ?_;clear M T;intro g3 wc ac M T
 refine lq T (Zra Z evc) ?_;intro ac T
 replace T:=T.pick [1,2,3] rfl
 refine Zln ?_
 refine Zsr ?_
 refine lq T (Zra Z evc) ?_;intro ac T
 refine Zln ?_
 refine wp_seq ?_
 refine Zsr ?_
 refine Zg4 (v1:=(.pointer (some ⟨g1,3,none⟩))) T (Zq (Zrg 3 Z (T.e 3 Z))) Z (Zo M 2 0 Z Z Z Z) Z (fun _ T=>Zq (rn_add Z (T.e 0 Z) evc (by omega))) Z (fun _ T=>Zq (Zrm Z evc)) Z ?_;intro ac T
 refine wpList_nil ?_
 replace T:=T.pick [0,1,4,5,6] rfl
 replace M:=M.mask [true,true,false] rfl
 refine nm_then ?_
 refine wp_block ?_
 refine wp_loop_n (fun mz ac wc=>∃ (k:Nat) (A:Option Addr) (c:Nat) (I:List (Nat×BA)),mz=(l.press+1 - k).toNat∧((k:Int)≤l.press+1)∧(((beatsL l lo hi).take k).length≤4)∧(Sl 26 2 (.slice A ((beatsL l lo hi).take k).length c) ((beatsL l lo hi).take k).length (rc ((beatsL l lo hi).take k)) I)∧Tm ac 27 [(4,Zj g2),(5,Zj g3),(7,.slice A (((beatsL l lo hi).take k).length) c),(11,Zi (l.press+1)),(12,Zi (k:Int))]∧Mem w noEx wc ((g3,.cells [Zi hi.t0,Zi hi.t1,Zi hi.s0,Zi hi.s1])::(g2,.cells [Zi lo.t0,Zi lo.t1,Zi lo.s0,Zi lo.s1])::I)) ?_ ?_
 ·exact ⟨_,0,none,0,[],Z,(by omega),(by simp),(Sl.nil _ _),T.pick [4,3,2,1,0] Z,M.mask [true,true] Z⟩
 clear T M
 rintro mz ac wc ⟨k,A,c,I,hmm1,hk,hlk,hsl,T,M⟩
 refine Zsr ?_
 refine lq T (rn_lss Z (T.e 4 Z) (T.e 3 Z)) ?_;intro ac T
 refine Zln ?_
 refine wp_seq ?_
 refine wp_if (T.e 0 Z) ?_ ?_
 ·intro h1
  have hb:=beatP_bd gl gh (p:=(k:Int)) (by omega)
  have hb2:(beatP lo hi (k:Int)).1=hi.t0+(riseP lo hi (k:Int)).1∧(beatP lo hi (k:Int)).2=hi.t1+(riseP lo hi (k:Int)).2:=⟨rfl,rfl⟩
  refine Zsk ?_
  refine wp_seq ?_
  refine wp_block ?_
  refine Zsr ?_
  refine Zg2 T (Zq (Zrm Z (T.e 5 Z))) Z (Za 0 Z Z) Z ?_;intro ac T
  replace T:=T.pick [0,3,4,5,6,7] rfl
  refine Zln ?_
  refine Zgs M (M.perm [0,1] Z Z) 11 (by kernel_rfl) Z (by kernel_rfl) ?_
  clear M;intro wc M
  refine Zgq T 0 1 Z (fun _=>(Zrm Z (T.e 3 Z))) ?_;intro ac T
  refine Zgq (v:=(Zj g3)) T 1 3 Z (fun _=>(Zrg 0 Z (T.e 3 Z))) ?_;intro ac T
  refine gq T 2 7 Z (fun B w' hD hl hS=>(Zrr (Mem.nth (show Mem w noEx w' _ from hS) 0 Z) Z (T.e 0 Z) Z)) ?_;intro ac T
  refine gq T 3 15 Z (fun B w' hD hl hS=>(Zrr (Mem.nth (show Mem w noEx w' _ from hS) 1 Z) Z (T.e 4 Z) Z)) ?_;intro ac T
  refine gq T 4 31 Z (fun B w' hD hl hS=>(Zrr (Mem.nth (show Mem w noEx w' _ from hS) 0 Z) Z (T.e 6 Z) Z)) ?_;intro ac T
  refine Zgq T 5 63 Z (fun _=>(Zrm Z (T.e 5 Z))) ?_;intro ac T
  refine gw 6 127 ?_;intro K hK
  refine Zod T Z Z Z Z evf (.cons (T.e 2 Z) (.cons (T.e 1 Z) (.cons (T.e 0 Z) .nil))) func152 Z Z ?_
  refine Calls.mono (rise_any lo hi (k:Int) _ gl gh (by (try dsimp only);omega)) ?_
  clear T;rintro e wc ⟨rfl,hb⟩ ac T
  replace M:=M.call hb;clear hb
  refine Zso hK _ _ (M.perm [0,1] Z Z) ?_;clear hK K
  refine gw 7 255 ?_;intro K hK
  refine Zod T Z Z Z Z evf (.cons (T.e 4 Z) (.cons (T.e 0 Z) .nil)) func151 Z Z ?_
  refine Calls.mono (vplus_any hi.t0 hi.t1 ((riseP lo hi (k:Int)).1) ((riseP lo hi (k:Int)).2) _ (by omega) (by omega) (by omega) (by omega)) ?_
  clear T;rintro e wc ⟨rfl,hb⟩ ac T
  replace M:=M.call hb;clear hb
  refine Zso hK _ _ (M.perm [0,1] Z Z) ?_;clear hK K
  refine gw 8 511 ?_;intro K hK
  refine ow_bs (e:=26) [Zi (hi.t0+((riseP lo hi (k:Int)).1)),Zi (hi.t1+((riseP lo hi (k:Int)).2))] M T Z Z Z Z (.cons (T.e 0 Z) .nil) (fun _=>by kernel_rfl) ?_;clear M T;intro g4 wc ac M T
  refine Zso hK _ _ (M.perm [1,2] Z Z) ?_;clear hK K
  refine gw 9 1023 ?_;intro K hK
  refine ow_app ([(g4,.cells [Zi (hi.t0+((riseP lo hi (k:Int)).1)),Zi (hi.t1+((riseP lo hi (k:Int)).2))]),(g3,.cells [Zi hi.t0,Zi hi.t1,Zi hi.s0,Zi hi.s1]),(g2,.cells [Zi lo.t0,Zi lo.t1,Zi lo.s0,Zi lo.s1])]) Tryz.info26 hsl M (by first | rfl | simp) T Z Z Z Z underlying57 Z Z Z (by omega) (T.e 8 Z) (T.e 0 Z) (Zne (i:=0) Z) Z Z ?_;clear M T;intro ga1 cga1 wc ac M T
  refine Zso hK _ _ (M.mask [false,false,true,true] Z) ?_;clear hK K
  refine g_q (v:=(.slice (some ⟨ga1,0,none⟩) (((beatsL l lo hi).take k).length+1) cga1)) (T:=T.pick [0,1,2,3,4,5,6,7,8,9,10,11,12,14,15] Z) (i:=10) Z (by kernel_rfl) (by kernel_rfl:(Zpb 11 1023).setIfInBounds 10 true=Zpb 11 2047) si_U (fun _ _ _ h=>h) Z Z Z Z (fun _ _ _ _ _=>(Zra Z (T.e 0 Z))) ?_;intro ac T
  refine Zgd (by kernel_rfl) ?_
  replace T:=T.pick [0,12,13,14,15] rfl
  replace M:=M.mask [true,false,true,true] rfl
  refine Znb ?_
  refine nm_then ?_
  refine wp_region_lit ?_
  refine lq T (rn_add Z (T.e 4 Z) evc (by omega)) ?_;intro ac T
  refine l_q (v:=(Zi ((k:Int)+1))) (T.pick [0,1,2,3,4] Z) Z Z Z Z (Zrm Z (T.e 0 Z)) ?_;intro ac T
  replace T:=T.pick [0,2,3,4,5] rfl
  refine Zln ?_
  have e9:((beatsL l lo hi).take k).length+1=((beatsL l lo hi).take (k+1)).length:=by rw [beatsL_take (by omega),Zx3];rfl
  have e8:((rc ((beatsL l lo hi).take k))++[Zi (hi.t0+((riseP lo hi (k:Int)).1)),Zi (hi.t1+((riseP lo hi (k:Int)).2))])=rc ((beatsL l lo hi).take (k+1)):=by rw [beatsL_take (by omega),← rc_snoc];rfl
  rw [e9,e8] at M
  rw [e9] at T
  clear e9 e8
  exact ⟨_,by omega,k+1,_,cga1,[(ga1,.row 26 2 ((beatsL l lo hi).take (k+1)).length (rc ((beatsL l lo hi).take (k+1))) cga1)],Z,(by omega),(by rw [List.length_take,beatsL_length];omega),(Sl.row _ _ _ _ _ _),T.pick [2,3,1,4,0] Z,M.perm [1,2,0] Z Z⟩
 intro h1
 refine wp_exit ?_
 refine Zet ?_
 refine Zet ?_
 refine ex_hit ?_
 refine nm_then ?_
 refine Zsr ?_
 refine Zg2 T (Zq (Zrm Z (T.e 3 Z))) Z (Za 0 Z Z) Z ?_;intro ac T
 refine wpList_nil ?_
 replace T:=T.pick [0] rfl
 replace M:=M.mask [false,false] rfl
 refine Znr ?_
 refine rt_1 T Z (T.e 0 Z) ?_
 have e9:(beatsL l lo hi).take k=beatsL l lo hi:=List.take_of_length_le (by rw [beatsL_length];omega)
 rw [e9] at hsl ⊢
 exact ⟨A,c,I,Z,hsl,M.mask [] Z⟩
section
open Go.RowKit Go.Shelf
theorem Sl.spV {e n c size:Nat} {A:Option Addr} {xs:List Value} {I:List (Nat×BA)} (h:Sl e size (.slice A n c) n xs I) (hl:xs.length=n * size):∃ b o,∀ (w:World) (ex:Nat→Prop),Sp w ex I A n size b o xs:=by
 rcases h with ⟨h1,rfl,rfl,rfl⟩ | ⟨g,cap,h1,rfl⟩
 ·exact ⟨0,0,fun w ex=>Sp.nil⟩
 ·injection h1 with h1 _ h2
  subst h1
  exact ⟨g,0,fun w ex=>Sp.row (by omega)⟩
theorem beatsL_bd {l:Lw} {lo hi:Snd} (hp:0≤l.press∧l.press≤3) (gl:lo.good) (gh:hi.good):∀ x∈beatsL l lo hi,(-1000≤x.1∧x.1≤1000)∧(-1000≤x.2∧x.2≤1000):=fun x hx=>by
 obtain ⟨p,h1,h2,rfl⟩:=beatsL_mem.1 hx
 exact beatP_bd gl gh (by omega)
def allOf (x:Snd):List (Int×Int):=allL x.t0 x.t1 x.s0 x.s1
def stepN (l:Lw) (due:Int) (now:List (Int×Int)) (s:Snd):List (Int×Int):=(allOf s).filter fun y=>now.any fun x=>agreeP l due (y.1 - x.1) (y.2 - x.2)
def nowL (l:Lw) (due:Int):List Snd→List (Int×Int)
 | []=>[]
 | s::ss=>ss.foldl (stepN l due) (allOf s)
def surelyL (l:Lw) (due:Int):List Snd→Bool
 | a::b::r=>decide (offP l due a b≤l.span) && surelyL l due (b::r)
 | _=>true
def keepsP (l:Lw) (due:Int) (ts:List Snd):Int:=if surelyL l due ts=true then 1 else if (nowL l due ts).isEmpty=true then 2 else 3
theorem surelyL_snoc (l:Lw) (due:Int):∀ (ts:List Snd) (a b:Snd),surelyL l due (ts++[a,b])=(surelyL l due (ts++[a]) && decide (offP l due a b≤l.span))
 | [],a,b=>by simp [surelyL]
 | [x],a,b=>by simp [surelyL]
 | x::y::r,a,b=>by
  have ih:=surelyL_snoc l due (y::r) a b
  simp only [Zx6] at ih ⊢
  rw [show surelyL l due (x::y::(r++[a,b]))=(decide (offP l due x y≤l.span) && surelyL l due (y::(r++[a,b]))) from rfl,show surelyL l due (x::y::(r++[a]))=(decide (offP l due x y≤l.span) && surelyL l due (y::(r++[a]))) from rfl,ih,Bool.and_assoc]
theorem surelyL_take {l:Lw} {due:Int} {ts:List Snd} {k:Nat} {a b:Snd} (ha:ts[k]? = some a) (hb:ts[k+1]? = some b):surelyL l due (ts.take (k+2))=(surelyL l due (ts.take (k+1)) && decide (offP l due a b≤l.span)):=by
 have e1:ts.take (k+1)=ts.take k++[a]:=by rw [List.take_add_one,ha];rfl
 have e2:ts.take (k+2)=ts.take (k+1)++[b]:=by rw [List.take_add_one,hb];rfl
 rw [e2,e1,List.append_assoc]
 exact surelyL_snoc l due _ a b
theorem nowL_take {l:Lw} {due:Int} {ts:List Snd} {k:Nat} {b:Snd} (hb:ts[k+1]? = some b):nowL l due (ts.take (k+2))=stepN l due (nowL l due (ts.take (k+1))) b:=by
 have e2:ts.take (k+2)=ts.take (k+1)++[b]:=by rw [List.take_add_one,hb];rfl
 rw [e2]
 cases ts with
 | nil=>simp at hb
 | cons s ss=>simp [nowL,List.foldl_append]
theorem nowL_mem {l:Lw} {due:Int} {ts:List Snd} {k:Nat} {a:Snd} (ha:ts[k]? = some a):∀ x∈nowL l due (ts.take (k+1)),x∈allOf a:=by
 intro x hx
 cases k with
 | zero =>
  cases ts with
  | nil=>simp at ha
  | cons s ss =>
   simp at ha
   subst ha
   simpa [nowL] using hx
 | succ k =>
  rw [nowL_take ha] at hx
  exact (List.mem_filter.1 hx).1
theorem agreeP_bd (l:Lw) (due b s:Int) (k:Nat):(List.range (k+1)).all (fun (p:Nat)=>withinB (b+(p:Int) * s - due) (-l.span) l.span)=((List.range k).all (fun (p:Nat)=>withinB (b+(p:Int) * s - due) (-l.span) l.span) && withinB (b+(k:Int) * s - due) (-l.span) l.span):=by
 rw [List.range_succ,List.all_append]
 simp
theorem allOf_length {x:Snd} (h:x.good):(allOf x).length≤61 * 7:=by
 obtain ⟨h1,h2⟩:=h
 have key:∀ l:List Int,(l.flatMap fun t=>(izz x.s0 x.s1).map fun s=>(t,s)).length=l.length * (izz x.s0 x.s1).length:=fun l=>by
  induction l with
  | nil=>simp
  | cons a l ih=>rw [List.flatMap_cons,Zx3,ih,List.length_map,Zx1,Nat.succ_mul,Nat.add_comm]
 unfold allOf allL
 rw [key,izz_length,izz_length]
 exact Nat.mul_le_mul (by omega) (by omega)
theorem off_any (l:Lw) (due:Int) (lo hi:Snd) (w:World) (hp:0≤l.press∧l.press≤3) (hd : -1000≤due∧due≤1000) (gl:lo.good) (gh:hi.good) :
   Calls prog 165 #[.agg #[Zi l.first,Zi l.step,Zi l.span,Zi l.press],Zi due,.agg #[Zi lo.t0,Zi lo.t1,Zi lo.s0,Zi lo.s1],.agg #[Zi hi.t0,Zi hi.t1,Zi hi.s0,Zi hi.s1]] w fun e w'=>e=.returned (Zi (offP l due lo hi))∧Below w.heap.size w w':=by
 refine Zpx noEx func165 Z 33 Z [.agg #[Zi l.first,Zi l.step,Zi l.span,Zi l.press],Zi due,.agg #[Zi lo.t0,Zi lo.t1,Zi lo.s0,Zi lo.s1],.agg #[Zi hi.t0,Zi hi.t1,Zi hi.s0,Zi hi.s1]] Z Z (Mem.init w _) ?_
 intro ac wc T M
 refine Zsr ?_
 refine Zl2 ?_
 refine Zob M T Z Z Z Z (T.e 0 Z) Z ?_;clear M T;intro g1 wc ac M T
 refine Zl2 ?_
 refine Zob M T Z Z Z Z (T.e 3 Z) Z ?_;clear M T;intro g2 wc ac M T
 refine Zl2 ?_
 refine Zob M T Z Z Z Z (T.e 5 Z) Z ?_;clear M T;intro g3 wc ac M T
 refine lq T (Zra Z evc) ?_;intro ac T
 replace T:=T.pick [1,2,3,5] rfl
 refine Zln ?_
 refine Zsr ?_
 refine lq T (Zra Z evc) ?_;intro ac T
 refine Zln ?_
 refine wp_seq ?_
 refine Zsr ?_
 refine Zg3 T (Zq (Zrr (Mem.nth M 2 Z) Z (T.e 3 Z) Z)) Z (Zr M 1 3 Z Z Z Z) Z (Zr M 0 3 Z Z Z Z) Z ?_;intro ac T
 refine Zl2 ?_
 refine Zod T Z Z Z Z evf (.cons (T.e 2 Z) (.cons (T.e 1 Z) (.cons (T.e 0 Z) .nil))) func78 Z Z ?_
 refine Calls.mono (beats_any l lo hi _ (by (try dsimp only);omega) gl gh) ?_
 clear T;rintro e wc ⟨Au1,cu1,Iu1,rfl,hslu1,N⟩ ac T
 obtain ⟨lbu1,hlbu1⟩:∃ q,q=(beatsL l lo hi):=⟨_,rfl⟩
 rw [← hlbu1] at hslu1
 obtain ⟨bu1,ou1,SVu1⟩:=hslu1.spV (rc_length _)
 have Su1:=SVu1 w noEx
 replace M:=(M.join N).swapI
 replace M:=M.mask [true,true,true] rfl
 clear N
 rw [← hlbu1] at T
 refine Zg2 T (Zq (Zrl Z underlying57 (T.e 0 Z))) Z (fun _ T=>Zq (Zrm Z evc)) Z ?_;intro ac T
 refine wpList_nil ?_
 replace T:=T.pick [0,1,2,6,10] rfl
 replace M:=M.mask [false,false,false] rfl
 refine nm_then ?_
 refine wp_block ?_
 have hlb8:lbu1.length≤1000:=by rw [hlbu1,beatsL_length];omega
 refine wp_loop_n (fun mz ac wc=>∃ (k:Nat) (n:Int),mz=lbu1.length - k∧(k≤lbu1.length)∧(0≤n∧n≤3000)∧(offP l due lo hi=offL due (lbu1.drop k) n)∧Tm ac 33 [(1,Zi due),(9,Zi n),(15,.slice Au1 lbu1.length cu1),(16,Zi ((lbu1.length:Nat):Int)),(17,Zi (k:Int))]∧Mem w noEx wc (Iu1)) ?_ ?_
 ·exact ⟨_,0,0,Z,(Nat.zero_le _),(by omega),(by rw [hlbu1];rfl),T.pick [4,3,2,1,0] Z,M.mask [] Z⟩
 clear T M
 rintro mz ac wc ⟨k,n,hmm1,hk,hn,H,T,M⟩
 refine Zsr ?_
 refine lq T (rn_lss Z (T.e 4 Z) (T.e 3 Z)) ?_;intro ac T
 refine Zln ?_
 refine wp_seq ?_
 refine wp_if (T.e 0 Z) ?_ ?_
 ·intro h1
  obtain ⟨x0,x1,hk1,hd1⟩:=rc_next (l:=lbu1) (k:=k) (by omega)
  rw [hd1,offL] at H
  have hxb:=beatsL_bd (l:=l) hp gl gh _ (by rw [← hlbu1];exact List.mem_of_getElem? hk1)
  dsimp only at H hxb
  refine Zsk ?_
  refine wp_seq ?_
  refine wp_block ?_
  refine Zsr ?_
  refine Zg2 (v2:=(.agg #[Zi x0,Zi x1])) T (Zq (Zri (size:=2) k Z (T.e 3 Z) (T.e 5 Z) ⟨_,underlying57,by kernel_rfl⟩ Z (by omega) (Su1.at0 (by omega)))) Z (fun _ T=>Zq (rn_rowat (Sp.rcR Su1 M (List.Sublist.refl _) hk1) Z (T.e 0 Z) Z)) Z ?_;intro ac T
  refine Zl2 ?_
  refine Zoa M T Z Z Z Z ?_;clear M T;intro g4 wc ac M T
  refine Zl2 ?_
  refine Zot M T Z Z (T.e 0 Z) (T.e 1 Z) Z .head Z Z ?_;clear M T;intro wc ac M T
  replace T:=T.pick [0,4,5,6,7,8] rfl
  refine Zln ?_
  refine wp_region_lit ?_
  refine Zg8 (v3:=(Zj g4)) (v6:=(.pointer (some ⟨g4,1,none⟩))) T (Zq (Zrm Z (T.e 2 Z))) Z (Zm 2 Z Z) Z (Zf 0 2 Z Z) Z (Zo M 0 0 Z Z Z Z) Z (fun _ T=>Zq (rn_sub Z (T.e 2 Z) (T.e 0 Z) (by omega))) Z (Zf 1 5 Z Z) Z (Zo M 0 0 Z Z Z Z) Z (Zm 8 Z Z) Z ?_;intro ac T
  refine Zg2 T (Zq (rn_sub Z (T.e 1 Z) (T.e 0 Z) (by omega))) Z (fun _ T=>Zq (rn_max3 Z (T.e 8 Z) (T.e 4 Z) (T.e 0 Z))) Z ?_;intro ac T
  refine l_q (v:=(Zi (max (max n (due - x0)) (x1 - due)))) (T.pick [0,1,2,3,4,5,6,7,8,9,10,11,13,14,15] Z) Z Z Z Z (Zra Z (T.e 0 Z)) ?_;intro ac T
  refine wpList_nil ?_
  replace T:=T.pick [0,12,13,14,15] rfl
  replace M:=M.mask [false] rfl
  refine Znb ?_
  refine nm_then ?_
  refine wp_region_lit ?_
  refine lq T (rn_add Z (T.e 4 Z) evc (by omega)) ?_;intro ac T
  refine l_q (v:=(Zi ((k:Int)+1))) (T.pick [0,1,2,3,4] Z) Z Z Z Z (Zrm Z (T.e 0 Z)) ?_;intro ac T
  replace T:=T.pick [0,2,3,4,5] rfl
  refine Zln ?_
  exact ⟨_,by omega,k+1,_,Z,(by omega),(by omega),H,T.pick [2,1,3,4,0] Z,M.mask [] Z⟩
 intro h1
 rw [List.drop_of_length_le (by omega),offL] at H
 refine wp_exit ?_
 refine Zet ?_
 refine Zet ?_
 refine ex_hit ?_
 refine nm_then ?_
 refine Zsr ?_
 refine Zg2 T (Zq (Zrm Z (T.e 2 Z))) Z (Za 0 Z Z) Z ?_;intro ac T
 replace T:=T.pick [0] rfl
 refine Zln ?_
 refine wp_ret ?_
 refine rt_1 T Z (T.e 0 Z) ?_
 exact ⟨ret_int H.symm,M.below⟩
theorem agree_any (l:Lw) (due b s:Int) (w:World) (hp:0≤l.press∧l.press≤3) (hsp : -1000≤l.span∧l.span≤1000) (hd : -1000≤due∧due≤1000) (hb : -1000≤b∧b≤1000) (hs : -1000≤s∧s≤1000) :
   Calls prog 166 #[.agg #[Zi l.first,Zi l.step,Zi l.span,Zi l.press],Zi due,Zi b,Zi s] w fun e w'=>e=.returned (.bool (agreeP l due b s))∧Below w.heap.size w w':=by
 refine Zpx noEx func166 Z 31 Z [.agg #[Zi l.first,Zi l.step,Zi l.span,Zi l.press],Zi due,Zi b,Zi s] Z Z (Mem.init w _) ?_
 intro ac wc T M
 refine Zsr ?_
 refine Zl2 ?_
 refine Zob M T Z Z Z Z (T.e 0 Z) Z ?_;clear M T;intro g1 wc ac M T
 refine lq T (Zra Z evc) ?_;intro ac T
 replace T:=T.pick [1,3,4,5] rfl
 refine Zln ?_
 refine wp_seq ?_
 refine Zsr ?_
 refine Zg4 (v1:=(.pointer (some ⟨g1,3,none⟩))) T (Zq (Zrg 3 Z (T.e 0 Z))) Z (Zo M 0 0 Z Z Z Z) Z (fun _ T=>Zq (rn_add Z (T.e 0 Z) evc (by omega))) Z (fun _ T=>Zq (Zrm Z evc)) Z ?_;intro ac T
 replace T:=T.pick [0,1,4,5,6,7] rfl
 refine Zln ?_
 refine wp_block ?_
 refine wp_loop_n (fun mz ac wc=>∃ (k:Nat),mz=(l.press+1 - k).toNat∧((k:Int)≤l.press+1)∧((List.range k).all (fun (p:Nat)=>withinB (b+(p:Int) * s - due) (-l.span) l.span)=true)∧Tm ac 31 [(1,Zi due),(2,Zi b),(3,Zi s),(4,Zj g1),(12,Zi (l.press+1)),(13,Zi (k:Int))]∧Mem w noEx wc [(g1,.cells [Zi l.first,Zi l.step,Zi l.span,Zi l.press])]) ?_ ?_
 ·exact ⟨_,0,Z,(by omega),Z,T.pick [3,4,5,2,1,0] Z,M.mask [true] Z⟩
 clear T M
 rintro mz ac wc ⟨k,hmm1,hk,H,T,M⟩
 refine Zsr ?_
 refine lq T (rn_lss Z (T.e 5 Z) (T.e 4 Z)) ?_;intro ac T
 refine Zln ?_
 refine wp_seq ?_
 refine wp_if (T.e 0 Z) ?_ ?_
 ·intro h1
  have hm:=mulB (a:=(k:Int)) (b:=s) (by omega) hs
  refine Zsk ?_
  refine wp_seq ?_
  refine wp_block ?_
  refine Zsr ?_
  refine Zg2 T (Zq (Zrm Z (T.e 6 Z))) Z (Za 0 Z Z) Z ?_;intro ac T
  replace T:=T.pick [0,3,4,5,6,7,8] rfl
  refine Zln ?_
  refine Zsr ?_
  refine Zg8 (v8:=(.pointer (some ⟨g1,2,none⟩))) T (Zq (Zrm Z (T.e 2 Z))) Z (Zm 1 Z Z) Z (Zm 5 Z Z) Z (fun _ T=>Zq (rn_mul Z (T.e 1 Z) (T.e 0 Z) (by omega))) Z (fun _ T=>Zq (rn_add Z (T.e 3 Z) (T.e 0 Z) (by omega))) Z (Zm 6 Z Z) Z (fun _ T=>Zq (rn_sub Z (T.e 1 Z) (T.e 0 Z) (by omega))) Z (Zf 2 11 Z Z) Z ?_;intro ac T
  refine Zg4 (v3:=(.pointer (some ⟨g1,2,none⟩))) T (Zq (Zro (Mem.nth M 0 Z) Z (T.e 0 Z) Z)) Z (fun _ T=>Zq (rn_neg Z (T.e 0 Z) (by omega))) Z (Zf 2 14 Z Z) Z (Zo M 0 0 Z Z Z Z) Z ?_;intro ac T
  refine Zl2 ?_
  refine Zod T Z Z Z Z evf (.cons (T.e 5 Z) (.cons (T.e 2 Z) (.cons (T.e 0 Z) .nil))) func99 Z Z ?_
  refine Calls.mono (vwithin_any ((b+((k:Int) * s)) - due) (-l.span) l.span _) ?_
  clear T;rintro e wc ⟨rfl,hb⟩ ac T
  replace M:=M.call hb;clear hb
  refine lq T (rn_not Z (T.e 0 Z)) ?_;intro ac T
  replace T:=T.pick [0,15,16,17,18,19,20] rfl
  refine Zln ?_
  refine wp_cond_split (T.e 0 Z) ?_ ?_
  ·intro h2
   (have h2':=h2;try simp only [Zb1,Zb2,Zb3,Zb4,Zb5,Zb6,Zb7] at h2')
   refine Zsr ?_
   refine lq T (Zra Z evc) ?_;intro ac T
   refine wpList_nil ?_
   replace T:=T.pick [0] rfl
   replace M:=M.mask [false] rfl
   refine Znr ?_
   refine Zrb ?_
   refine Zrt ?_
   refine Zrt ?_
   refine Zrb ?_
   refine Zrt ?_
   refine rt_1 T Z (T.e 0 Z) ?_
   refine ⟨ret_bool ?_,M.below⟩
   unfold agreeP
   symm
   rw [List.all_eq_false]
   exact ⟨k,by rw [List.mem_range];omega,by simp_all⟩
  intro h2
  (have h2':=h2;try simp only [Zb1,Zb2,Zb3,Zb4,Zb5,Zb6,Zb7] at h2')
  refine wp_skip ?_
  refine Znb ?_
  refine nm_then ?_
  refine wp_region_lit ?_
  refine lq T (rn_add Z (T.e 6 Z) evc (by omega)) ?_;intro ac T
  refine l_q (v:=(Zi ((k:Int)+1))) (T.pick [0,1,2,3,4,5,6] Z) Z Z Z Z (Zrm Z (T.e 0 Z)) ?_;intro ac T
  replace T:=T.pick [0,3,4,5,6,7] rfl
  refine Zln ?_
  exact ⟨_,by omega,k+1,Z,(by omega),(by rw [agreeP_bd,H];simp_all),T.pick [1,2,3,4,5,0] Z,M.mask [true] Z⟩
 intro h1
 refine wp_exit ?_
 refine Zet ?_
 refine Zet ?_
 refine ex_hit ?_
 refine nm_then ?_
 refine Zsr ?_
 refine lq T (Zra Z evc) ?_;intro ac T
 refine wpList_nil ?_
 replace T:=T.pick [0] rfl
 replace M:=M.mask [false] rfl
 refine Znr ?_
 refine rt_1 T Z (T.e 0 Z) ?_
 refine ⟨ret_bool ?_,M.below⟩
 unfold agreeP
 rw [show (l.press+1).toNat=k by omega]
 exact H.symm
def AllPost (x:Snd) (w:World) (e:Ending) (w':World):Prop:=∃ g,e=.returned (.func (.func 210) #[] #[Zj g])∧Mem w noEx w' [(g,.cells [Zi x.t0,Zi x.t1,Zi x.s0,Zi x.s1])]
theorem all_any (x:Snd) (w:World)  :
  Calls prog 164 #[.agg #[Zi x.t0,Zi x.t1,Zi x.s0,Zi x.s1]] w (AllPost x w):=by
 refine Zpx noEx func164 Z 4 Z [.agg #[Zi x.t0,Zi x.t1,Zi x.s0,Zi x.s1]] Z Z (Mem.init w _) ?_
 intro ac wc T M
 refine Zsr ?_
 refine Zl2 ?_
 refine Zob M T Z Z Z Z (T.e 0 Z) Z ?_;clear M T;intro g1 wc ac M T
 refine lq T (Zra Z evc) ?_;intro ac T
 replace T:=T.pick [1] rfl
 refine Zln ?_
 refine Zsr ?_
 refine Zg2 (v1:=(.func (.func 210) #[] #[Zj g1])) T (Zq (rn_makeFunc Z .nil (.cons (T.e 0 Z) .nil))) Z (Za 0 Z Z) Z ?_;intro ac T
 replace T:=T.pick [0] rfl
 refine Zln ?_
 refine wp_ret ?_
 refine rt_1 T Z (T.e 0 Z) ?_
 exact ⟨g1,Z,M⟩
end
section
open Go.RowKit Go.Shelf
theorem any_false {l:Lw} {due:Int} {now:List (Int×Int)} {y:Int×Int} (h:∀ p∈now,agreeP l due (y.1 - p.1) (y.2 - p.2)=false):(now.any fun x=>agreeP l due (y.1 - x.1) (y.2 - x.2))=false:=by
 rw [List.any_eq_false]
 intro p hp
 simp [h p hp]
theorem any_true {l:Lw} {due:Int} {now:List (Int×Int)} {y p:Int×Int} (hp:p∈now) (h:agreeP l due (y.1 - p.1) (y.2 - p.2)=true):(now.any fun x=>agreeP l due (y.1 - x.1) (y.2 - x.2))=true:=List.any_eq_true.2 ⟨p,hp,h⟩
theorem filter_snoc {p:Int×Int→Bool} {l:List (Int×Int)} {y v:Int×Int}:v∈(l++[y]).filter p↔v∈l.filter p∨(v=y∧p y=true):=by
 rw [List.filter_append,List.mem_append]
 refine or_congr Iff.rfl ?_
 rw [List.mem_filter,List.mem_singleton]
 constructor
 · rintro ⟨rfl,h⟩;exact ⟨rfl,h⟩
 · rintro ⟨rfl,h⟩;exact ⟨rfl,h⟩
set_option maxHeartbeats 4000000 in
theorem keeps_any (l:Lw) (due:Int) (A:Option Addr) (n c:Nat) (ts:List Snd) (w:World) (hp:0≤l.press∧l.press≤3) (hsp : -1000≤l.span∧l.span≤1000) (hd : -1000≤due∧due≤1000) (gt:∀ x∈ts,x.good) (hr:Rd w w.heap.size 4 A n (sc ts)) (hn:n≤1000000) :
   Calls prog 87 #[.agg #[Zi l.first,Zi l.step,Zi l.span,Zi l.press],Zi due,.slice A n c] w fun e w'=>e=.returned (Zi (keepsP l due ts))∧Below w.heap.size w w':=by
 have hl:=hr.len4
 obtain ⟨bJ,oJ,SJ⟩:=Sp.old hr
 refine px_enterM noEx func87 Z 79 Z [.agg #[Zi l.first,Zi l.step,Zi l.span,Zi l.press],Zi due,.slice A n c] Z Z (Mem.init w _) ?_
 intro ac wc T M
 refine Zsr ?_
 refine Zl2 ?_
 refine Zob M T Z Z Z Z (T.e 0 Z) Z ?_;clear M T;intro g1 wc ac M T
 refine Zl2 ?_
 refine Zob M T Z Z Z Z (T.e 2 Z) Z ?_;clear M T;intro g2 wc ac M T
 refine lq T (Zra Z evc) ?_;intro ac T
 replace T:=T.pick [1,2,5] rfl
 refine Zln ?_
 refine Zsr ?_
 refine lq T (Zra Z evc) ?_;intro ac T
 refine Zln ?_
 refine Zsr ?_
 refine Zl2 ?_
 refine ow_mm M T Z underlying249 Z Z Z ?_;clear M T;intro g3 wc ac M T
 refine Zl2 ?_
 refine Zoa M T Z Z Z Z ?_;clear M T;intro g4 wc ac M T
 refine Zl2 ?_
 refine Zot M T Z Z (T.e 0 Z) (T.e 1 Z) Z .head Z Z ?_;clear M T;intro wc ac M T
 replace T:=T.pick [0,2,3,4,5] rfl
 refine Zln ?_
 refine wp_seq ?_
 refine Zsr ?_
 refine Zg3 T (Zq (Zrm Z (T.e 4 Z))) Z (Zl underlying24 0 Z Z) Z (fun _ T=>Zq (Zrm Z evc)) Z ?_;intro ac T
 refine Zln ?_
 refine wp_block ?_
 replace M:=M.chS (n':=427) (S':=fun v=>v∈nowL l due (ts.take 0)) (.tail .head) (by intro v;simp [nowL]) (by omega)
 refine wp_loop_n (fun mz ac wc=>∃ (k:Nat) (gn:Nat) (Ds:List Nat),mz=n - k∧(k≤n)∧TmD (Ds.map dfD) ac 79 [(2,.slice A n c),(3,Zj g1),(4,Zj g2),(7,.bool (surelyL l due (ts.take k))),(8,Zj g4),(16,.slice A n c),(17,Zi ((n:Nat):Int)),(18,Zi (k:Int))]∧Mem w noEx wc ((g4,.cells [.map (some gn)])::(gn,.any (setQ prog 253 (427) (fun v=>v∈nowL l due (ts.take k))))::(g2,.cells [Zi due])::(g1,.cells [Zi l.first,Zi l.step,Zi l.span,Zi l.press])::dfT Ds)) ?_ ?_
 ·exact ⟨_,0,g3,[],Z,(by omega),T.pick [7,6,5,4,3,2,1,0] Z,M.mask [true,true,true,true] Z⟩
 clear T M
 rintro mz ac wc ⟨k,gn,Ds,hmm1,hk,T,M⟩
 refine Zsr ?_
 refine lq T (rn_lss Z (T.e 7 Z) (T.e 6 Z)) ?_;intro ac T
 refine Zln ?_
 refine wp_seq ?_
 refine wp_if (T.e 0 Z) ?_ ?_
 ·intro h1
  obtain ⟨sx,hk1,-⟩:=sc_next (l:=ts) (k:=k) (by omega)
  have gsx:=gt sx (List.mem_of_getElem? hk1)
  have ⟨gx1,gx2⟩:=gsx
  refine Zsk ?_
  refine wp_seq ?_
  refine wp_block ?_
  refine Zsr ?_
  refine Zg3 (v3:=(.agg #[Zi sx.t0,Zi sx.t1,Zi sx.s0,Zi sx.s1])) T (Zq (Zrm Z (T.e 8 Z))) Z (fun _ T=>Zq (Zri (size:=4) k Z (T.e 7 Z) (T.e 9 Z) ⟨_,underlying24,by kernel_rfl⟩ Z (by omega) (SJ.at0 (by omega)))) Z (fun _ T=>Zq (rn_rowat (Sp.scR4 SJ M (Zz9 _) hk1) Z (T.e 0 Z) Z)) Z ?_;intro ac T
  refine Zl2 ?_
  refine Zoa M T Z Z Z Z ?_;clear M T;intro g5 wc ac M T
  refine lq T (Zra Z (T.e 3 Z)) ?_;intro ac T
  refine Zl2 ?_
  refine Zot M T Z Z (T.e 1 Z) (T.e 2 Z) Z .head Z Z ?_;clear M T;intro wc ac M T
  replace T:=T.pick [0,1,6,7,8,9,10,11,12,13] rfl
  refine Zln ?_
  refine Zsr ?_
  refine Zl2 ?_
  refine ow_mm M T Z underlying249 Z Z Z ?_;clear M T;intro g6 wc ac M T
  refine Zl2 ?_
  refine Zoa M T Z Z Z Z ?_;clear M T;intro g7 wc ac M T
  refine Zl2 ?_
  refine Zot M T Z Z (T.e 0 Z) (T.e 1 Z) Z .head Z Z ?_;clear M T;intro wc ac M T
  replace T:=T.pick [0,2,3,4,5,6,7,8,9,10,11] rfl
  refine Zln ?_
  refine wp_seq ?_
  refine Zsr ?_
  refine Zg2 T (Zq (Zrm Z (T.e 1 Z))) Z (fun _ T=>Zq (rn_eql Z (T.e 0 Z) evc)) Z ?_;intro ac T
  replace T:=T.pick [0,2,3,4,5,6,7,8,9,10,11,12] rfl
  refine Zln ?_
  refine wp_if (T.e 0 Z) ?_ ?_
  ·intro h2
   refine wp_seq ?_
   refine Zsr ?_
   refine lq T (Zrr (Mem.nth M 2 Z) Z (T.e 3 Z) Z) ?_;intro ac T
   refine Zl2 ?_
   refine Zod T Z Z Z Z evf (.cons (T.e 0 Z) .nil) func164 Z Z ?_
   refine Calls.mono (all_any sx _) ?_
   clear T;rintro e wc ⟨gu1,rfl,N⟩ ac T
   replace M:=M.join N;clear N
   replace M:=M.mask [true,true,true,true,true,true,true,true] rfl
   refine wpList_nil ?_
   replace T:=T.pick [0,3,6,7,8,9,10,11,12,13] rfl
   replace M:=M.mask [true,true,true,false,true,true,true,true] rfl
   refine nm_then ?_
   refine wp_block ?_
   have q1:=M.nth 0 rfl
   have hg1:=M.lt (Zne (i:=0) rfl)
   have hx1:=(List.nodup_cons.1 M.nd).1
   have hal:(allL sx.t0 sx.t1 sx.s0 sx.s1).length≤427:=allOf_length gsx
   replace T:=T.pick [2,3,4,5,6,1,7,8,9,0] rfl
   have hlt_g7:=M.lt (Zne (i:=1) rfl)
   have hlt_g6:=M.lt (Zne (i:=2) rfl)
   have hlt_g4:=M.lt (Zne (i:=3) rfl)
   have hlt_gn:=M.lt (Zne (i:=4) rfl)
   have hlt_g2:=M.lt (Zne (i:=5) rfl)
   have hlt_g1:=M.lt (Zne (i:=6) rfl)
   replace M:=M.mask [false,true,true,true,true,true,true] rfl
   replace M:=M.chS (n':=([]:List (Ax sx.t0 sx.t1 sx.s0 sx.s1)).length) (S':=fun v=>v∈([]:List (Ax sx.t0 sx.t1 sx.s0 sx.s1)).map Subtype.val) (.tail .head) (by intro v;simp) (by simp)
   have hltT:∀ p∈dfT Ds,p.1 < _:=fun p hp=>BA.lt (M.blk p (Zz1 (Zz1 (Zz1 (Zz1 (Zz1 (Zz1 (hp)))))))).2
   refine px_range (α:=Ax sx.t0 sx.t1 sx.s0 sx.s1) (γ:=Nat) (n:=79) T (T.e 9 Z) (enters_of func210 (by kernel_rfl) Z) (fun b=>b∈(g7::g6::g4::gn::g2::g1::(dfT Ds).map (·.1))) (all_stops 7 (by omega) gu1 _ _ sx.t0 sx.t1 sx.s0 sx.s1 (by omega) (by omega) (by omega) (by omega) hg1 hx1 _ q1) (fun _=>Z) (fun (pre:List (Ax sx.t0 sx.t1 sx.s0 sx.s1)) (Lx:List (Nat×BA))=>Lx=((g7,.cells [.map (some g6)])::(g6,.any (setQ prog 253 (pre.length) (fun v=>v∈pre.map Subtype.val)))::(g4,.cells [.map (some gn)])::(gn,.any (setQ prog 253 (427) (fun v=>v∈nowL l due (ts.take k))))::(g2,.cells [Zi due])::(g1,.cells [Zi l.first,Zi l.step,Zi l.span,Zi l.press])::dfT Ds)) (fun _ _ _=>False)
     (fun x=>[(28,.agg #[Zi x.1.1,Zi x.1.2]),(2,.slice A n c),(3,Zj g1),(4,Zj g2),(7,.bool (surelyL l due (ts.take k))),(8,Zj g4),(11,Zj g7),(16,.slice A n c),(17,Zi ((n:Nat):Int)),(18,Zi (k:Int)),(27,.func (.func 210) #[] #[Zj gu1])]) (fun x g8=>[(12,Zj g8),(2,.slice A n c),(3,Zj g1),(4,Zj g2),(7,.bool (surelyL l due (ts.take k))),(8,Zj g4),(11,Zj g7),(16,.slice A n c),(17,Zi ((n:Nat):Int)),(18,Zi (k:Int))]) (fun x g8=>[(g8,.cells [Zi x.1.1,Zi x.1.2])]) ?_ ?_ ?_ M ?_ ?_ ?_ ?_ ?_ ?_ ?_ ?_
   ·rintro pre Lx rfl p hp
    rcases Zx7.1 hp with rfl | hp
    · exact .inr Z
    rcases Zx7.1 hp with rfl | hp
    · exact .inl hlt_g6
    rcases Zx7.1 hp with rfl | hp
    · exact .inr Z
    rcases Zx7.1 hp with rfl | hp
    · exact .inl hlt_gn
    rcases Zx7.1 hp with rfl | hp
    · exact .inr Z
    rcases Zx7.1 hp with rfl | hp
    · exact .inr Z
    exact (.inl (hltT p hp))
   ·rintro c pre Lx h
    exact h.elim
   ·rintro pre Lx rfl p hp -
    exact List.mem_map.2 ⟨p,hp,Z⟩
   ·exact rfl
   ·exact fun x=>T.round1 _ Z Z
   ·intro x c p hp
    rcases Zx7.1 hp with rfl | hp
    · rfl
    cases hp
   ·refine .inr ?_
    rintro pre Lx rfl p hp
    rcases Zx7.1 hp with rfl | hp
    · exact hlt_g7
    rcases Zx7.1 hp with rfl | hp
    · exact hlt_g6
    rcases Zx7.1 hp with rfl | hp
    · exact hlt_g4
    rcases Zx7.1 hp with rfl | hp
    · exact hlt_gn
    rcases Zx7.1 hp with rfl | hp
    · exact hlt_g2
    rcases Zx7.1 hp with rfl | hp
    · exact hlt_g1
    exact (hltT p hp)
   ·intro lp x wc K1 ac T hK1
    have M:=Mem.init wc noEx
    refine ri_lit (fun _ _ h=>h) Z ?_
    refine Zl2 ?_
    refine Zoa M T Z Z Z Z ?_;clear M T;intro g8 wc ac M T
    refine Zl2 ?_
    refine Zot M T Z Z (T.e 0 Z) (T.e 1 Z) Z .head Z Z ?_;clear M T;intro wc ac M T
    replace T:=T.pick [0,2,3,4,5,6,7,8,9,10] rfl
    refine Zln ?_
    exact hK1 g8 _ _ (T.pick [0,1,2,3,4,5,6,7,8,9] Z) (M.mask [true] Z)
   ·rintro lp pre x g8 Lx ac w hj hz hrec hlr hlt M0 exb wc hexb hwc T M
    cases hj
    replace T:TmD [] ac 79 [(12,Zj g8),(2,.slice A n c),(3,Zj g1),(4,Zj g2),(7,.bool (surelyL l due (ts.take k))),(8,Zj g4),(11,Zj g7),(16,.slice A n c),(17,Zi ((n:Nat):Int)),(18,Zi (k:Int))]:=T
    replace M:Mem w exb wc ((g8,.cells [Zi x.1.1,Zi x.1.2])::(g7,.cells [.map (some g6)])::(g6,.any (setQ prog 253 (pre.length) (fun v=>v∈pre.map Subtype.val)))::(g4,.cells [.map (some gn)])::(gn,.any (setQ prog 253 (427) (fun v=>v∈nowL l due (ts.take k))))::(g2,.cells [Zi due])::(g1,.cells [Zi l.first,Zi l.step,Zi l.span,Zi l.press])::dfT Ds):=M
    have hxb:=x.2
    refine wpIn_block ?_
    refine ri_lit (fun _ _ h=>h) Z ?_
    refine Zg2 T (Zq (Zro (Mem.nth M 1 Z) Z (T.e 6 Z) Z)) Z (Zr M 0 1 Z Z Z Z) Z ?_;intro ac T
    refine Zl2 ?_
    obtain ⟨kl1,hkl1⟩:=Tryz.kx_key (x.1.1,x.1.2) (by dsimp only;omega) (by dsimp only;omega)
    refine ow_mu (p:=(x.1.1,x.1.2)) Tryz.keyed253 underlying249 M T Z Z (T.e 1 Z) (T.e 0 Z) evc (.tail (.tail .head)) hkl1 (by unfold maxLen;omega) ?_;clear M T;intro wc ac M T
    refine wpList_nil ?_
    replace T:=T.pick [3,4,5,6,7,8,9,10,11] rfl
    replace M:=M.mask [false,true,true,true,true,true,true] rfl
    refine Znb ?_
    replace M:=M.chS (n':=(pre++[x]).length) (S':=fun v=>v∈(pre++[x]).map Subtype.val) (.tail .head) (by intro v;simp) (by simp)
    refine rp_nm (L:=((g7,.cells [.map (some g6)])::(g6,.any (setQ prog 253 ((pre++[x]).length) (fun v=>v∈(pre++[x]).map Subtype.val)))::(g4,.cells [.map (some gn)])::(gn,.any (setQ prog 253 (427) (fun v=>v∈nowL l due (ts.take k))))::(g2,.cells [Zi due])::(g1,.cells [Zi l.first,Zi l.step,Zi l.span,Zi l.press])::dfT Ds)) ?_ (M.mask [true,true,true,true,true,true] Z)
    exact rfl
   ·rintro D1 pre Lx ac wc hSd hj hz T M
    cases hj
    replace T:TmD ((D1::Ds).map dfD) ac 79 [(2,.slice A n c),(3,Zj g1),(4,Zj g2),(7,.bool (surelyL l due (ts.take k))),(8,Zj g4),(11,Zj g7),(16,.slice A n c),(17,Zi ((n:Nat):Int)),(18,Zi (k:Int)),(27,.func (.func 210) #[] #[Zj gu1])]:=T
    have e9:pre.map Subtype.val=nowL l due (ts.take (k+1)):=by rw [show k=0 by omega] at hk1 ⊢;exact hSd.trans (by cases ts <;> simp_all [nowL,allOf])
    have e8:=congrArg List.length hSd
    rw [List.length_map] at e8
    replace M:=M.chS (n':=427) (S':=fun v=>v∈nowL l due (ts.take (k+1))) (.tail (.tail .head)) (by intro v;rw [e9]) (by omega)
    replace T:=T.pick [0,1,2,3,4,5,6,7,8] rfl
    refine Znb ?_
    refine nm_then ?_
    refine Zsr ?_
    refine lq T (Zro (Mem.nth M 1 Z) Z (T.e 5 Z) Z) ?_;intro ac T
    refine Zl2 ?_
    refine Zos M T Z Z (T.e 5 Z) (T.e 0 Z) Z (.tail (.tail (.tail .head))) Z (by simp) Z (by kernel_rfl) ?_;clear M T;intro wc ac M T
    refine wpList_nil ?_
    replace T:=T.pick [1,2,3,4,5,7,8,9] rfl
    replace M:=M.mask [true,false,true,true,true,true,true] rfl
    refine nm_then ?_
    refine wp_exit ?_
    refine Zet ?_
    refine ex_hit ?_
    refine nm_then ?_
    refine wp_region_lit ?_
    refine lq T (rn_add Z (T.e 7 Z) evc (by omega)) ?_;intro ac T
    refine l_q (v:=(Zi ((k:Int)+1))) (T.pick [0,1,2,3,4,5,6,7] Z) Z Z Z Z (Zrm Z (T.e 0 Z)) ?_;intro ac T
    replace T:=T.pick [0,2,3,4,5,6,7,8] rfl
    refine Zln ?_
    have e9:surelyL l due (ts.take k)=surelyL l due (ts.take (k+1)):=by rw [show k=0 by omega];cases ts <;> rfl
    rw [e9] at T
    clear e9
    exact ⟨_,by omega,k+1,g6,((D1::Ds)),Z,(by omega),T.pick [1,2,3,4,5,6,7,0] Z,M.permT [2,1,4,5,0] 6 Z Z Z Z⟩
   ·intro D c pre Lx ac wc hS h
    exact h.elim
  intro h2
  obtain ⟨k1,hk01⟩:∃ k1:Nat,(k:Int) - 1=(k1:Int):=⟨k - 1,by omega⟩
  obtain ⟨sy,hk3,-⟩:=sc_next (l:=ts) (k:=k1) (by omega)
  have gsy:=gt sy (List.mem_of_getElem? hk3)
  have ⟨gy1,gy2⟩:=gsy
  refine Zsk ?_
  refine cut_seq (fun ac wc=>TmD ((Ds).map dfD) ac 79 [(2,.slice A n c),(3,Zj g1),(4,Zj g2),(7,.bool ((surelyL l due (ts.take k)) && (decide ((offP l due sy sx)≤l.span)))),(8,Zj g4),(10,Zj g5),(11,Zj g7),(16,.slice A n c),(17,Zi ((n:Nat):Int)),(18,Zi (k:Int))]∧Mem w noEx wc ((g7,.cells [.map (some g6)])::(g6,.any (setQ prog 253 (0) (fun _=>False)))::(g5,.cells [Zi sx.t0,Zi sx.t1,Zi sx.s0,Zi sx.s1])::(g4,.cells [.map (some gn)])::(gn,.any (setQ prog 253 (427) (fun v=>v∈nowL l due (ts.take k))))::(g2,.cells [Zi due])::(g1,.cells [Zi l.first,Zi l.step,Zi l.span,Zi l.press])::dfT Ds)) ?_ ?_
  ·refine Zgs M (M.mask [true,true,true,true,true,true,true] Z) 16 (by kernel_rfl) Z (by kernel_rfl) ?_
   clear M;intro wc M
   refine Zgq T 0 1 Z (fun _=>(Zrm Z (T.e 7 Z))) ?_;intro ac T
   refine Zgq T 1 3 Z (fun _=>(Zrm Z (T.e 0 Z))) ?_;intro ac T
   rcases Zx9 (surelyL l due (ts.take k)) with h3 | h3
   ·refine g_q (T:=T) (i:=2) Z (by kernel_rfl) (by kernel_rfl:(Zpb 16 3).setIfInBounds 2 true=Zpb 16 7) si_U (fun _ _ _ h=>h) (Zwy Z Z (T.e 0 Z) h3) Z Z Z (fun B w' hD hl hS=>(Zrr (Mem.nth (show Mem w noEx w' _ from hS) 6 Z) Z (T.e 7 Z) Z)) ?_;intro ac T
    refine g_q (T:=T) (i:=3) Z (by kernel_rfl) (by kernel_rfl:(Zpb 16 7).setIfInBounds 3 true=Zpb 16 15) si_U (fun _ _ _ h=>h) (Zwy Z Z (T.e 1 Z) h3) Z Z Z (fun B w' hD hl hS=>(Zro (Mem.nth (show Mem w noEx w' _ from hS) 5 Z) Z (T.e 9 Z) Z)) ?_;intro ac T
    refine g_q (T:=T) (i:=4) Z (by kernel_rfl) (by kernel_rfl:(Zpb 16 15).setIfInBounds 4 true=Zpb 16 31) si_U (fun _ _ _ h=>h) (Zwy Z Z (T.e 2 Z) h3) Z Z Z (fun _ _ _ _ _=>(Zrm Z (T.e 8 Z))) ?_;intro ac T
    refine g_q (T:=T) (i:=5) Z (by kernel_rfl) (by kernel_rfl:(Zpb 16 31).setIfInBounds 5 true=Zpb 16 63) si_U (fun _ _ _ h=>h) (Zwy Z Z (T.e 3 Z) h3) Z Z Z (fun _ _ _ _ _=>(Zrm Z (T.e 7 Z))) ?_;intro ac T
    refine g_q (T:=T) (i:=6) Z (by kernel_rfl) (by kernel_rfl:(Zpb 16 63).setIfInBounds 6 true=Zpb 16 127) si_U (fun _ _ _ h=>h) (Zwy Z Z (T.e 4 Z) h3) Z Z Z (fun _ _ _ _ _=>(rn_sub Z (T.e 0 Z) evc (by omega))) ?_;intro ac T
    refine g_q (T:=T) (i:=7) Z (by kernel_rfl) (by kernel_rfl:(Zpb 16 127).setIfInBounds 7 true=Zpb 16 255) si_U (fun _ _ _ h=>h) (Zwy Z Z (T.e 5 Z) h3) Z Z Z (fun _ _ _ _ _=>(Zri (size:=4) k1 Z (T.e 2 Z) (T.e 0 Z) ⟨_,underlying24,by kernel_rfl⟩ hk01 (by omega) (SJ.at0 (by omega)))) ?_;intro ac T
    refine g_q (v:=(.agg #[Zi sy.t0,Zi sy.t1,Zi sy.s0,Zi sy.s1])) (T:=T) (i:=8) Z (by kernel_rfl) (by kernel_rfl:(Zpb 16 255).setIfInBounds 8 true=Zpb 16 511) si_U (fun _ _ _ h=>h) (Zwy Z Z (T.e 6 Z) h3) Z Z Z (fun B w' hD hl hS=>(rn_rowat (Sp.scR4 SJ (show Mem w noEx w' _ from hS) (Zz9 _) hk3) Z (T.e 0 Z) Z)) ?_;intro ac T
    refine g_q (T:=T) (i:=9) Z (by kernel_rfl) (by kernel_rfl:(Zpb 16 511).setIfInBounds 9 true=Zpb 16 1023) si_U (fun _ _ _ h=>h) (Zwy Z Z (T.e 7 Z) h3) Z Z Z (fun B w' hD hl hS=>(Zrr (Mem.nth (show Mem w noEx w' _ from hS) 2 Z) Z (T.e 12 Z) Z)) ?_;intro ac T
    refine g_q (v:=(.pointer (some ⟨g1,2,none⟩))) (T:=T) (i:=11) Z (by kernel_rfl) (by kernel_rfl:(Zpb 16 1023).setIfInBounds 11 true=Zpb 16 3071) si_U (fun _ _ _ h=>h) (Zwy Z Z (T.e 8 Z) h3) Z Z Z (fun _ _ _ _ _=>(Zrg 2 Z (T.e 15 Z))) ?_;intro ac T
    refine g_q (T:=T) (i:=12) Z (by kernel_rfl) (by kernel_rfl:(Zpb 16 3071).setIfInBounds 12 true=Zpb 16 7167) si_U (fun _ _ _ h=>h) (Zwy Z Z (T.e 9 Z) h3) Z Z Z (fun B w' hD hl hS=>(Zro (Mem.nth (show Mem w noEx w' _ from hS) 6 Z) Z (T.e 0 Z) Z)) ?_;intro ac T
    refine g_w (i:=10) (by kernel_rfl) Z (by kernel_rfl:(Zpb 16 7167).setIfInBounds 10 true=Zpb 16 8191) (Zwy Z Z (T.e 10 Z) h3) ?_;intro K hK
    refine Zod T Z Z Z Z evf (.cons (T.e 9 Z) (.cons (T.e 8 Z) (.cons (T.e 3 Z) (.cons (T.e 2 Z) .nil)))) func165 Z Z ?_
    refine Calls.mono (off_any l due sy sx _ (by (try dsimp only);omega) (by (try dsimp only);omega) gsy gsx) ?_
    clear T;rintro e wc ⟨rfl,hb⟩ ac T
    replace M:=M.call hb;clear hb
    refine Zso hK _ _ (M.mask [true,true,true,true,true,true,true] Z) ?_;clear hK K
    refine g_q (T:=T) (i:=13) Z (by kernel_rfl) (by kernel_rfl:(Zpb 16 8191).setIfInBounds 13 true=Zpb 16 16383) si_U (fun _ _ _ h=>h) (Zwy Z Z (T.e 11 Z) h3) Z Z Z (fun _ _ _ _ _=>(rn_leq Z (T.e 0 Z) (T.e 1 Z))) ?_;intro ac T
    refine Zgq T 14 32767 Z (fun _=>(Zr1 Z (T.e 12 Z) h3 (T.e 0 Z))) ?_;intro ac T
    refine g_q (v:=(.bool (decide ((offP l due sy sx)≤l.span)))) (T:=T.pick [0,1,2,3,4,5,6,7,8,9,10,11,12,13,14,15,16,17,18,19,20,21,23,24,25,26] Z) (i:=15) Z (by kernel_rfl) (by kernel_rfl:(Zpb 16 32767).setIfInBounds 15 true=Zpb 16 65535) si_U (fun _ _ _ h=>h) Z Z Z Z (fun _ _ _ _ _=>(Zra Z (T.e 0 Z))) ?_;intro ac T
    refine Zgd (by kernel_rfl) ?_
    replace T:=T.pick [0,2,3,4,5,6,7,8,9,10,11,12,13,17,19,20,21,22,23,24,25,26] rfl
    exact ⟨(T.pick (E':=[(2,.slice A n c),(3,Zj g1),(4,Zj g2),(7,.bool (decide ((offP l due sy sx)≤l.span))),(8,Zj g4),(10,Zj g5),(11,Zj g7),(16,.slice A n c),(17,Zi ((n:Nat):Int)),(18,Zi (k:Int))]) [15,16,17,0,18,14,13,19,20,21] Z).as (by (try rw [show (surelyL l due (ts.take k))=true from h3]);(try rfl)),M.mask [true,true,true,true,true,true,true] Z⟩
   refine g_pass (T:=T) (i:=2) Z (by kernel_rfl) (by kernel_rfl:(Zpb 16 3).setIfInBounds 2 true=Zpb 16 7) si_U (fun _ _ _ h=>h) (Zwn Z Z (T.e 0 Z) h3) Z Z Z ?_;intro ac T
   refine g_pass (T:=T) (i:=3) Z (by kernel_rfl) (by kernel_rfl:(Zpb 16 7).setIfInBounds 3 true=Zpb 16 15) si_U (fun _ _ _ h=>h) (Zwn Z Z (T.e 1 Z) h3) Z Z Z ?_;intro ac T
   refine g_pass (T:=T) (i:=4) Z (by kernel_rfl) (by kernel_rfl:(Zpb 16 15).setIfInBounds 4 true=Zpb 16 31) si_U (fun _ _ _ h=>h) (Zwn Z Z (T.e 2 Z) h3) Z Z Z ?_;intro ac T
   refine g_pass (T:=T) (i:=5) Z (by kernel_rfl) (by kernel_rfl:(Zpb 16 31).setIfInBounds 5 true=Zpb 16 63) si_U (fun _ _ _ h=>h) (Zwn Z Z (T.e 3 Z) h3) Z Z Z ?_;intro ac T
   refine g_pass (T:=T) (i:=6) Z (by kernel_rfl) (by kernel_rfl:(Zpb 16 63).setIfInBounds 6 true=Zpb 16 127) si_U (fun _ _ _ h=>h) (Zwn Z Z (T.e 4 Z) h3) Z Z Z ?_;intro ac T
   refine g_pass (T:=T) (i:=7) Z (by kernel_rfl) (by kernel_rfl:(Zpb 16 127).setIfInBounds 7 true=Zpb 16 255) si_U (fun _ _ _ h=>h) (Zwn Z Z (T.e 5 Z) h3) Z Z Z ?_;intro ac T
   refine g_pass (T:=T) (i:=8) Z (by kernel_rfl) (by kernel_rfl:(Zpb 16 255).setIfInBounds 8 true=Zpb 16 511) si_U (fun _ _ _ h=>h) (Zwn Z Z (T.e 6 Z) h3) Z Z Z ?_;intro ac T
   refine g_pass (T:=T) (i:=9) Z (by kernel_rfl) (by kernel_rfl:(Zpb 16 511).setIfInBounds 9 true=Zpb 16 1023) si_U (fun _ _ _ h=>h) (Zwn Z Z (T.e 7 Z) h3) Z Z Z ?_;intro ac T
   refine g_pass (T:=T) (i:=11) Z (by kernel_rfl) (by kernel_rfl:(Zpb 16 1023).setIfInBounds 11 true=Zpb 16 3071) si_U (fun _ _ _ h=>h) (Zwn Z Z (T.e 8 Z) h3) Z Z Z ?_;intro ac T
   refine g_pass (T:=T) (i:=12) Z (by kernel_rfl) (by kernel_rfl:(Zpb 16 3071).setIfInBounds 12 true=Zpb 16 7167) si_U (fun _ _ _ h=>h) (Zwn Z Z (T.e 9 Z) h3) Z Z Z ?_;intro ac T
   refine g_pass (T:=T) (i:=10) Z (by kernel_rfl) (by kernel_rfl:(Zpb 16 7167).setIfInBounds 10 true=Zpb 16 8191) si_U (fun _ _ _ h=>h) (Zwn Z Z (T.e 10 Z) h3) Z Z Z ?_;intro ac T
   refine g_pass (T:=T) (i:=13) Z (by kernel_rfl) (by kernel_rfl:(Zpb 16 8191).setIfInBounds 13 true=Zpb 16 16383) si_U (fun _ _ _ h=>h) (Zwn Z Z (T.e 11 Z) h3) Z Z Z ?_;intro ac T
   refine Zgq T 14 32767 Z (fun _=>(Zr0 Z (T.e 12 Z) h3 evc)) ?_;intro ac T
   refine g_q (v:=(.bool false)) (T:=T.pick [0,1,2,3,4,5,6,7,8,9,10,11,12,13,14,15,16,17,18,19,20,21,23,24,25,26] Z) (i:=15) Z (by kernel_rfl) (by kernel_rfl:(Zpb 16 32767).setIfInBounds 15 true=Zpb 16 65535) si_U (fun _ _ _ h=>h) Z Z Z Z (fun _ _ _ _ _=>(Zra Z (T.e 0 Z))) ?_;intro ac T
   refine Zgd (by kernel_rfl) ?_
   replace T:=T.pick [0,2,3,4,5,6,7,8,9,10,11,12,13,17,19,20,21,22,23,24,25,26] rfl
   exact ⟨(T.pick (E':=[(2,.slice A n c),(3,Zj g1),(4,Zj g2),(7,.bool false),(8,Zj g4),(10,Zj g5),(11,Zj g7),(16,.slice A n c),(17,Zi ((n:Nat):Int)),(18,Zi (k:Int))]) [15,16,17,0,18,14,13,19,20,21] Z).as (by (try rw [show (surelyL l due (ts.take k))=false from h3]);(try rfl)),M.mask [true,true,true,true,true,true,true] Z⟩
  clear T M
  rintro ac wc ⟨T,M⟩
  refine wp_seq ?_
  refine Zsr ?_
  refine lq T (Zrr (Mem.nth M 2 Z) Z (T.e 5 Z) Z) ?_;intro ac T
  refine Zl2 ?_
  refine Zod T Z Z Z Z evf (.cons (T.e 0 Z) .nil) func164 Z Z ?_
  refine Calls.mono (all_any sx _) ?_
  clear T;rintro e wc ⟨gu3,rfl,N⟩ ac T
  replace M:=M.join N;clear N
  replace M:=M.mask [true,true,true,true,true,true,true,true] rfl
  refine wpList_nil ?_
  replace T:=T.pick [0,2,3,4,5,6,8,9,10,11] rfl
  replace M:=M.mask [true,true,true,false,true,true,true,true] rfl
  refine nm_then ?_
  refine wp_block ?_
  have q1:=M.nth 0 rfl
  have hg1:=M.lt (Zne (i:=0) rfl)
  have hx1:=(List.nodup_cons.1 M.nd).1
  have hal:(allL sx.t0 sx.t1 sx.s0 sx.s1).length≤427:=allOf_length gsx
  obtain ⟨esN,clN,hSN,M⟩:=M.openS (fun _ _=>(.tail (.tail (.tail (.tail .head)))))
  replace T:=T.pick [1,2,3,4,5,6,7,8,9,0] rfl
  have hlt_g7:=M.lt (Zne (i:=1) rfl)
  have hlt_g6:=M.lt (Zne (i:=2) rfl)
  have hlt_g4:=M.lt (Zne (i:=3) rfl)
  have hlt_gn:=M.lt (Zne (i:=4) rfl)
  have hlt_g2:=M.lt (Zne (i:=5) rfl)
  have hlt_g1:=M.lt (Zne (i:=6) rfl)
  replace M:=M.mask [false,true,true,true,true,true,true] rfl
  replace M:=M.chS (n':=([]:List (Ax sx.t0 sx.t1 sx.s0 sx.s1)).length) (S':=fun v=>v∈(([]:List (Ax sx.t0 sx.t1 sx.s0 sx.s1)).map Subtype.val).filter (fun y=>(nowL l due (ts.take k)).any fun x=>agreeP l due (y.1 - x.1) (y.2 - x.2))) (.tail .head) (by intro v;simp) (by simp)
  have hltT:∀ p∈dfT Ds,p.1 < _:=fun p hp=>BA.lt (M.blk p (Zz1 (Zz1 (Zz1 (Zz1 (Zz1 (Zz1 (hp)))))))).2
  refine px_range (α:=Ax sx.t0 sx.t1 sx.s0 sx.s1) (γ:=Nat) (n:=79) T (T.e 9 Z) (enters_of func210 (by kernel_rfl) Z) (fun b=>b∈(g7::g6::g4::gn::g2::g1::(dfT Ds).map (·.1))) (all_stops 7 (by omega) gu3 _ _ sx.t0 sx.t1 sx.s0 sx.s1 (by omega) (by omega) (by omega) (by omega) hg1 hx1 _ q1) (fun _=>Z) (fun (pre:List (Ax sx.t0 sx.t1 sx.s0 sx.s1)) (Lx:List (Nat×BA))=>Lx=((g7,.cells [.map (some g6)])::(g6,.any (setQ prog 253 (pre.length) (fun v=>v∈(pre.map Subtype.val).filter (fun y=>(nowL l due (ts.take k)).any fun x=>agreeP l due (y.1 - x.1) (y.2 - x.2)))))::(g4,.cells [.map (some gn)])::(gn,mapC esN clN)::(g2,.cells [Zi due])::(g1,.cells [Zi l.first,Zi l.step,Zi l.span,Zi l.press])::dfT Ds)) (fun _ _ _=>False)
    (fun x=>[(49,.agg #[Zi x.1.1,Zi x.1.2]),(2,.slice A n c),(3,Zj g1),(4,Zj g2),(7,.bool ((surelyL l due (ts.take k)) && (decide ((offP l due sy sx)≤l.span)))),(8,Zj g4),(11,Zj g7),(16,.slice A n c),(17,Zi ((n:Nat):Int)),(18,Zi (k:Int)),(48,.func (.func 210) #[] #[Zj gu3])]) (fun x g9=>[(13,Zj g9),(2,.slice A n c),(3,Zj g1),(4,Zj g2),(7,.bool ((surelyL l due (ts.take k)) && (decide ((offP l due sy sx)≤l.span)))),(8,Zj g4),(11,Zj g7),(16,.slice A n c),(17,Zi ((n:Nat):Int)),(18,Zi (k:Int))]) (fun x g9=>[(g9,.cells [Zi x.1.1,Zi x.1.2])]) ?_ ?_ ?_ M ?_ ?_ ?_ ?_ ?_ ?_ ?_ ?_
  ·rintro pre Lx rfl p hp
   rcases Zx7.1 hp with rfl | hp
   · exact .inr Z
   rcases Zx7.1 hp with rfl | hp
   · exact .inl hlt_g6
   rcases Zx7.1 hp with rfl | hp
   · exact .inr Z
   rcases Zx7.1 hp with rfl | hp
   · exact .inl hlt_gn
   rcases Zx7.1 hp with rfl | hp
   · exact .inr Z
   rcases Zx7.1 hp with rfl | hp
   · exact .inr Z
   exact (.inl (hltT p hp))
  ·rintro c pre Lx h
   exact h.elim
  ·rintro pre Lx rfl p hp -
   exact List.mem_map.2 ⟨p,hp,Z⟩
  ·exact rfl
  ·exact fun x=>T.round1 _ Z Z
  ·intro x c p hp
   rcases Zx7.1 hp with rfl | hp
   · rfl
   cases hp
  ·refine .inr ?_
   rintro pre Lx rfl p hp
   rcases Zx7.1 hp with rfl | hp
   · exact hlt_g7
   rcases Zx7.1 hp with rfl | hp
   · exact hlt_g6
   rcases Zx7.1 hp with rfl | hp
   · exact hlt_g4
   rcases Zx7.1 hp with rfl | hp
   · exact hlt_gn
   rcases Zx7.1 hp with rfl | hp
   · exact hlt_g2
   rcases Zx7.1 hp with rfl | hp
   · exact hlt_g1
   exact (hltT p hp)
  ·intro lp x wc K1 ac T hK1
   have M:=Mem.init wc noEx
   refine ri_lit (fun _ _ h=>h) Z ?_
   refine Zl2 ?_
   refine Zoa M T Z Z Z Z ?_;clear M T;intro g9 wc ac M T
   refine Zl2 ?_
   refine Zot M T Z Z (T.e 0 Z) (T.e 1 Z) Z .head Z Z ?_;clear M T;intro wc ac M T
   replace T:=T.pick [0,2,3,4,5,6,7,8,9,10] rfl
   refine Zln ?_
   exact hK1 g9 _ _ (T.pick [0,1,2,3,4,5,6,7,8,9] Z) (M.mask [true] Z)
  ·rintro lp pre x g9 Lx ac w hj hz hrec hlr hlt M0 exb wc hexb hwc T M
   cases hj
   replace T:TmD [] ac 79 [(13,Zj g9),(2,.slice A n c),(3,Zj g1),(4,Zj g2),(7,.bool ((surelyL l due (ts.take k)) && (decide ((offP l due sy sx)≤l.span)))),(8,Zj g4),(11,Zj g7),(16,.slice A n c),(17,Zi ((n:Nat):Int)),(18,Zi (k:Int))]:=T
   replace M:Mem w exb wc ((g9,.cells [Zi x.1.1,Zi x.1.2])::(g7,.cells [.map (some g6)])::(g6,.any (setQ prog 253 (pre.length) (fun v=>v∈(pre.map Subtype.val).filter (fun y=>(nowL l due (ts.take k)).any fun x=>agreeP l due (y.1 - x.1) (y.2 - x.2)))))::(g4,.cells [.map (some gn)])::(gn,mapC esN clN)::(g2,.cells [Zi due])::(g1,.cells [Zi l.first,Zi l.step,Zi l.span,Zi l.press])::dfT Ds):=M
   have hxb:=x.2
   refine wpIn_block ?_
   refine wpIn_scope_straight ?_
   refine wpIn_seq ?_
   refine wpIn_label ?_
   refine nm_then ?_
   refine wpIn_seq ?_
   refine ri_lit (fun _ _ h=>h) Z ?_
   refine lq T (Zro (Mem.nth M 3 Z) Z (T.e 5 Z) Z) ?_;intro ac T
   refine Zl2 ?_
   refine ow_range hSN underlying249 M (Zne (i:=4) Z) T Z Z Z Z (T.e 0 Z) ?_;clear M T;intro g10 wc ac M T
   replace T:=T.pick [0,2,3,4,5,6,7,8,9,10,11] rfl
   refine Zln ?_
   refine wpIn_block ?_
   refine li_loop_n (fun mz ac wc=>∃ (left:Int×Int→Prop) (cnt:Nat) (cur:Option MapEntry),mz=cnt∧(∀ p,p∈nowL l due (ts.take k)→¬ left p→agreeP l due (x.1.1 - p.1) (x.1.2 - p.2)=false)∧Tm ac 79 [(2,.slice A n c),(3,Zj g1),(4,Zj g2),(7,.bool ((surelyL l due (ts.take k)) && (decide ((offP l due sy sx)≤l.span)))),(8,Zj g4),(11,Zj g7),(13,Zj g9),(16,.slice A n c),(17,Zi ((n:Nat):Int)),(18,Zi (k:Int)),(51,Zj g10)]∧Mem w exb wc ((g10,.any (itQ gn esN clN left cnt cur))::(g9,.cells [Zi x.1.1,Zi x.1.2])::(g7,.cells [.map (some g6)])::(g6,.any (setQ prog 253 (pre.length) (fun v=>v∈(pre.map Subtype.val).filter (fun y=>(nowL l due (ts.take k)).any fun x=>agreeP l due (y.1 - x.1) (y.2 - x.2)))))::(g4,.cells [.map (some gn)])::(gn,mapC esN clN)::(g2,.cells [Zi due])::(g1,.cells [Zi l.first,Zi l.step,Zi l.span,Zi l.press])::dfT Ds)) ?_ ?_
   ·exact ⟨_,(fun _=>True),esN.size,none,Z,(fun p _ h=>absurd trivial h),T.pick [2,3,4,5,6,7,1,8,9,10,0] Z,M.mask [true,true,true,true,true,true,true,true] Z⟩
   clear T M
   rintro mz ac wc ⟨left,cnt,cur,hmm2,hno,T,M⟩
   refine wpIn_seq ?_
   refine ri_lit (fun _ _ h=>h) Z ?_
   refine l_w Z ?_;intro K hK
   refine ow_next hSN M (Zne (i:=5) Z) T Z Z Z Z (T.e 10 Z) (fun _ _ _=>.head) ?_ ?_
   ·clear M T
    intro hnon1 wc ac M T
    refine Zso hK _ _ ?_;clear hK K
    refine lq T (Zre Z (T.e 0 Z) Z) ?_;intro ac T
    replace T:=T.pick [0,2,3,4,5,6,7,8,9,10,11,12] rfl
    refine Zln ?_
    refine wpIn_seq ?_
    refine wpIn_cond_false (T.e 0 Z) ?_
    refine wpIn_exit ?_
    refine Zet ?_
    refine Zet ?_
    refine ex_hit ?_
    refine nm_ng ?_
    refine Znb ?_
    replace M:=M.chS (n':=(pre++[x]).length) (S':=fun v=>v∈((pre++[x]).map Subtype.val).filter (fun y=>(nowL l due (ts.take k)).any fun x=>agreeP l due (y.1 - x.1) (y.2 - x.2))) (.tail (.tail (.tail .head))) (by intro v;rw [List.map_append];exact ⟨fun h=>filter_snoc.2 (.inl h),fun h=>(filter_snoc.1 h).elim id (fun h=>absurd (any_false (y:=x.1) (fun p hp=>hno p hp (hnon1 p hp))) (by rw [h.2];simp))⟩) (by simp)
    refine rp_nm (L:=((g7,.cells [.map (some g6)])::(g6,.any (setQ prog 253 ((pre++[x]).length) (fun v=>v∈((pre++[x]).map Subtype.val).filter (fun y=>(nowL l due (ts.take k)).any fun x=>agreeP l due (y.1 - x.1) (y.2 - x.2)))))::(g4,.cells [.map (some gn)])::(gn,mapC esN clN)::(g2,.cells [Zi due])::(g1,.cells [Zi l.first,Zi l.step,Zi l.span,Zi l.press])::dfT Ds)) ?_ (M.mask [false,false,true,true,true,true,true,true] Z)
    exact rfl
   ·clear M T
    intro exn1 p0n1 p1n1 xvn1 cntn1 hxen1 hxkn1 hxvn1 hxSn1 hxln1 hxcn1 wc ac M T
    refine Zso hK _ _ ?_;clear hK K
    have hpbn1:=mem_allL.1 (nowL_mem hk3 (p0n1,p1n1) (by rw [show k1+1=k by omega];exact hxSn1))
    dsimp only at hpbn1
    refine lq T (Zre Z (T.e 0 Z) Z) ?_;intro ac T
    replace T:=T.pick [0,2,3,4,5,6,7,8,9,10,11,12] rfl
    refine Zln ?_
    refine wpIn_seq ?_
    refine wpIn_cond_true (T.e 0 Z) ?_
    refine wpIn_skip ?_
    refine nm_then ?_
    refine wpIn_block ?_
    refine wpIn_seq ?_
    refine ri_lit (fun _ _ h=>h) Z ?_
    refine Zl2 ?_
    refine ow_entry hSN hxen1 hxkn1 hxvn1 M (Zne (i:=5) Z) (Zne (i:=0) Z) T Z Z Z Z (T.e 11 Z) ?_;clear T;intro ac T
    refine lq T (Zre Z (T.e 0 Z) Z) ?_;intro ac T
    refine Zl2 ?_
    refine Zoa M T Z Z Z Z ?_;clear M T;intro g11 wc ac M T
    refine Zl2 ?_
    refine Zot M T Z Z (T.e 0 Z) (T.e 1 Z) Z .head Z Z ?_;clear M T;intro wc ac M T
    replace T:=T.pick [0,4,5,6,7,8,9,10,11,12,13,14] rfl
    refine Zln ?_
    refine wpIn_seq ?_
    refine ri_lit (fun _ _ h=>h) Z ?_
    refine Zg8 (v3:=(Zj g9)) (v5:=(Zj g11)) (v8:=(.pointer (some ⟨g9,1,none⟩))) T (Zq (Zrr (Mem.nth M 8 Z) Z (T.e 2 Z) Z)) Z (Zo M 7 4 Z Z Z Z) Z (fun _ T=>Zq (rn_indexA (size:=1) 0 Z (T.e 9 Z) evc underlying253 (by kernel_rfl) Z)) Z (Zo M 2 0 Z Z Z Z) Z (fun _ T=>Zq (rn_indexA (size:=1) 0 Z (T.e 4 Z) evc underlying253 (by kernel_rfl) Z)) Z (Zo M 0 0 Z Z Z Z) Z (fun _ T=>Zq (rn_sub Z (T.e 2 Z) (T.e 0 Z) (by omega))) Z (fun _ T=>Zq (rn_indexA (size:=1) 1 Z (T.e 14 Z) evc underlying253 (by kernel_rfl) Z)) Z ?_;intro ac T
    refine Zg4 (v2:=(.pointer (some ⟨g11,1,none⟩))) T (Zq (Zro (Mem.nth M 2 Z) Z (T.e 0 Z) Z)) Z (fun _ T=>Zq (rn_indexA (size:=1) 1 Z (T.e 9 Z) evc underlying253 (by kernel_rfl) Z)) Z (Zo M 0 0 Z Z Z Z) Z (fun _ T=>Zq (rn_sub Z (T.e 2 Z) (T.e 0 Z) (by omega))) Z ?_;intro ac T
    refine Zl2 ?_
    refine Zod T Z Z Z Z evf (.cons (T.e 11 Z) (.cons (T.e 10 Z) (.cons (T.e 5 Z) (.cons (T.e 0 Z) .nil)))) func166 Z Z ?_
    refine Calls.mono (agree_any l due (x.1.1 - p0n1) (x.1.2 - p1n1) _ (by (try dsimp only);omega) (by (try dsimp only);omega) (by (try dsimp only);omega) (by (try dsimp only);omega) (by (try dsimp only);omega)) ?_
    clear T;rintro e wc ⟨rfl,hb⟩ ac T
    replace M:=M.call hb;clear hb
    refine wpList_nil ?_
    replace T:=T.pick [0,14,15,16,17,18,19,20,21,22,23,24] rfl
    replace M:=M.mask [false,true,true,true,true,true,true,true,true] rfl
    refine nm_then ?_
    refine wpIn_cond_split (T.e 0 Z) ?_ ?_
    ·intro h4
     refine wpIn_seq ?_
     refine ri_lit (fun _ _ h=>h) Z ?_
     refine Zg2 T (Zq (Zro (Mem.nth M 2 Z) Z (T.e 6 Z) Z)) Z (Zr M 1 8 Z Z Z Z) Z ?_;intro ac T
     refine Zl2 ?_
     obtain ⟨kl2,hkl2⟩:=Tryz.kx_key (x.1.1,x.1.2) (by dsimp only;omega) (by dsimp only;omega)
     refine ow_mu (p:=(x.1.1,x.1.2)) Tryz.keyed253 underlying249 M T Z Z (T.e 1 Z) (T.e 0 Z) evc (.tail (.tail (.tail .head))) hkl2 (by unfold maxLen;omega) ?_;clear M T;intro wc ac M T
     refine wpList_nil ?_
     replace T:=T.pick [3,4,5,6,7,8,10,11,12] rfl
     replace M:=M.mask [true,false,true,true,true,true,true,true] rfl
     refine nm_then ?_
     refine wpIn_exit ?_
     refine ex_miss Z ?_
     refine Zet ?_
     refine ex_hit ?_
     refine nm_ng ?_
     refine Znb ?_
     replace M:=M.chS (n':=(pre++[x]).length) (S':=fun v=>v∈((pre++[x]).map Subtype.val).filter (fun y=>(nowL l due (ts.take k)).any fun x=>agreeP l due (y.1 - x.1) (y.2 - x.2))) (.tail (.tail .head)) (by intro v;rw [List.map_append];exact (or_congr Iff.rfl ⟨fun h=>⟨h,any_true (y:=x.1) hxSn1 h4⟩,fun h=>h.1⟩).trans filter_snoc.symm) (by simp)
     refine rp_nm (L:=((g7,.cells [.map (some g6)])::(g6,.any (setQ prog 253 ((pre++[x]).length) (fun v=>v∈((pre++[x]).map Subtype.val).filter (fun y=>(nowL l due (ts.take k)).any fun x=>agreeP l due (y.1 - x.1) (y.2 - x.2)))))::(g4,.cells [.map (some gn)])::(gn,mapC esN clN)::(g2,.cells [Zi due])::(g1,.cells [Zi l.first,Zi l.step,Zi l.span,Zi l.press])::dfT Ds)) ?_ (M.mask [false,true,true,true,true,true,true] Z)
     exact rfl
    intro h4
    refine wpIn_skip ?_
    refine Znb ?_
    refine nm_then ?_
    exact ⟨_,by omega,(fun q=>(left) q∧q≠(p0n1,p1n1)),cntn1,(some exn1),Z,(fun q hq hl=>Decidable.byCases (fun e:q=(p0n1,p1n1)=>by subst e;exact h4) (fun e=>hno q hq (fun hh=>hl ⟨hh,e⟩))),T.pick [1,2,3,4,5,6,7,8,9,10,11] Z,M.mask [true,true,true,true,true,true,true,true] Z⟩
  ·rintro D2 pre Lx ac wc hSd hj hz T M
   cases hj
   replace T:TmD ((D2::Ds).map dfD) ac 79 [(2,.slice A n c),(3,Zj g1),(4,Zj g2),(7,.bool ((surelyL l due (ts.take k)) && (decide ((offP l due sy sx)≤l.span)))),(8,Zj g4),(11,Zj g7),(16,.slice A n c),(17,Zi ((n:Nat):Int)),(18,Zi (k:Int)),(48,.func (.func 210) #[] #[Zj gu3])]:=T
   have e8:=congrArg List.length hSd
   rw [List.length_map] at e8
   have e9:(pre.map Subtype.val).filter (fun y=>(nowL l due (ts.take k)).any fun x=>agreeP l due (y.1 - x.1) (y.2 - x.2))=nowL l due (ts.take (k+1)):=by have h7:ts[k1+1]? = some sx:=(by rw [← hk1];congr 1;omega);rw [show pre.map Subtype.val=allOf sx from hSd,show k+1=k1+2 by omega,show k=k1+1 by omega,nowL_take h7];rfl
   replace M:=M.chS (n':=427) (S':=fun v=>v∈nowL l due (ts.take (k+1))) (.tail (.tail .head)) (by intro v;rw [e9]) (by omega)
   replace T:=T.pick [0,1,2,3,4,5,6,7,8] rfl
   refine Znb ?_
   refine nm_then ?_
   refine wp_region_lit ?_
   refine lq T (Zro (Mem.nth M 1 Z) Z (T.e 5 Z) Z) ?_;intro ac T
   refine Zl2 ?_
   refine Zos M T Z Z (T.e 5 Z) (T.e 0 Z) Z (.tail (.tail (.tail .head))) Z (by simp) Z (by kernel_rfl) ?_;clear M T;intro wc ac M T
   refine wpList_nil ?_
   replace T:=T.pick [1,2,3,4,5,7,8,9] rfl
   replace M:=M.mask [true,false,true,true,true,true,true] rfl
   refine Znb ?_
   refine nm_then ?_
   refine wp_region_lit ?_
   refine lq T (rn_add Z (T.e 7 Z) evc (by omega)) ?_;intro ac T
   refine l_q (v:=(Zi ((k:Int)+1))) (T.pick [0,1,2,3,4,5,6,7] Z) Z Z Z Z (Zrm Z (T.e 0 Z)) ?_;intro ac T
   replace T:=T.pick [0,2,3,4,5,6,7,8] rfl
   refine Zln ?_
   have e9:(surelyL l due (ts.take k) && decide (offP l due sy sx≤l.span))=surelyL l due (ts.take (k+1)):=by rw [show k=k1+1 by omega] at hk1 ⊢;exact (surelyL_take hk3 hk1).symm
   rw [e9] at T
   clear e9
   exact ⟨_,by omega,k+1,g6,((D2::Ds)),Z,(by omega),T.pick [1,2,3,4,5,6,7,0] Z,M.permT [2,1,4,5,0] 6 Z Z Z Z⟩
  ·intro D c pre Lx ac wc hS h
   exact h.elim
 intro h1
 obtain ⟨esF,clF,hSF,M⟩:=M.openS (fun _ _=>(.tail .head))
 have e9:ts.take k=ts:=List.take_of_length_le (by omega)
 rw [e9] at T hSF
 clear e9
 refine wp_exit ?_
 refine Zet ?_
 refine Zet ?_
 refine ex_hit ?_
 refine Zns ?_
 refine wp_block ?_
 refine Zsr ?_
 refine Zg2 T (Zq (Zrm Z (T.e 4 Z))) Z (Za 0 Z Z) Z ?_;intro ac T
 refine wpList_nil ?_
 replace T:=T.pick [0,7] rfl
 replace M:=M.mask [true,true,false,false] rfl
 refine nm_then ?_
 refine wp_cond_split (T.e 0 Z) ?_ ?_
 ·intro h5
  refine Zsr ?_
  refine lq T (Zra Z evc) ?_;intro ac T
  refine wpList_nil ?_
  replace T:=T.pick [0] rfl
  replace M:=M.mask [false,true] rfl
  refine Znr ?_
  refine Zrb ?_
  refine Zrt ?_
  refine rtM (L:=[(gn,mapC esF clF)]) (Ds) T (M.permT [0] 1 Z Z Z Z) ?_;clear T M;intro wc ac T M
  refine rt_1 T Z (T.e 0 Z) ?_
  refine ⟨ret_int ?_,M.below⟩
  unfold keepsP
  rw [if_pos (by assumption)]
 intro h5
 refine Zsr ?_
 refine Zg4 T (Zq (Zro (Mem.nth M 0 Z) Z (T.e 1 Z) Z)) Z (fun _ T=>Zq (rn_lenM (M.at (Zne (i:=1) Z)) underlying249 Z (T.e 0 Z))) Z (fun _ T=>Zq (rn_eql Z (T.e 0 Z) evc)) Z (Za 0 Z Z) Z ?_;intro ac T
 refine wpList_nil ?_
 replace T:=T.pick [0] rfl
 replace M:=M.mask [false,true] rfl
 refine nm_then ?_
 refine wp_if (T.e 0 Z) ?_ ?_
 ·intro h6
  refine Zsr ?_
  refine lq T (Zra Z evc) ?_;intro ac T
  replace T:=T.pick [0] rfl
  refine Zln ?_
  refine wp_ret ?_
  refine Zrb ?_
  refine Zrt ?_
  refine rtM (L:=[(gn,mapC esF clF)]) (Ds) T (M.permT [0] 1 Z Z Z Z) ?_;clear T M;intro wc ac T M
  refine rt_1 T Z (T.e 0 Z) ?_
  refine ⟨ret_int ?_,M.below⟩
  unfold keepsP
  rw [if_neg (by simp_all),if_pos]
  rw [List.isEmpty_iff,List.eq_nil_iff_forall_not_mem]
  exact hSF.empty.1 (by omega)
 intro h6
 refine wp_skip ?_
 refine Znb ?_
 refine nm_then ?_
 refine Zsr ?_
 refine lq T (Zra Z evc) ?_;intro ac T
 replace T:=T.pick [0] rfl
 refine Zln ?_
 refine wp_ret ?_
 refine rtM (L:=[(gn,mapC esF clF)]) (Ds) T (M.permT [0] 1 Z Z Z Z) ?_;clear T M;intro wc ac T M
 refine rt_1 T Z (T.e 0 Z) ?_
 refine ⟨ret_int ?_,M.below⟩
 unfold keepsP
 rw [if_neg (by simp_all),if_neg]
 rw [List.isEmpty_iff,List.eq_nil_iff_forall_not_mem]
 intro h9
 have:=hSF.empty.2 h9
 omega
end
structure Bx where
 first:Int
 step:Int
 span:Int
 press:Int
 note:Int
 lows:List Snd
 highs:List Snd
 t0:Int
 t1:Int
 r0:Int
 r1:Int
 u0:Int
 u1:Int
 d0:Int
 d1:Int
 a0:Int
 a1:Int
 b0:Int
 b1:Int
 le:Int
 me:Int
abbrev Bx.law (b:Bx):Lw:=⟨b.first,b.step,b.span,b.press⟩
def Bx.due (b:Bx):Int:=b.first+b.step * b.note
abbrev bxV (b:Bx) (A:Option Addr) (c:Nat) (B:Option Addr) (d:Nat):Value:=.agg #[Zi b.first,Zi b.step,Zi b.span,Zi b.press,Zi b.note,.slice A b.lows.length c,.slice B b.highs.length d,Zi b.t0,Zi b.t1,Zi b.r0,Zi b.r1,Zi b.u0,Zi b.u1,Zi b.d0,Zi b.d1,Zi b.a0,Zi b.a1,Zi b.b0,Zi b.b1,Zi b.le,Zi b.me]
abbrev Zbx (b:Bx) (A:Option Addr) (c:Nat) (B:Option Addr) (d:Nat):List Value:=[Zi b.first,Zi b.step,Zi b.span,Zi b.press,Zi b.note,.slice A b.lows.length c,.slice B b.highs.length d,Zi b.t0,Zi b.t1,Zi b.r0,Zi b.r1,Zi b.u0,Zi b.u1,Zi b.d0,Zi b.d1,Zi b.a0,Zi b.a1,Zi b.b0,Zi b.b1,Zi b.le,Zi b.me]
abbrev Zbm (b:Bx) (s1 s2:Value):List Value:=[Zi b.first,Zi b.step,Zi b.span,Zi b.press,Zi b.note,s1,s2,Zi b.t0,Zi b.t1,Zi b.r0,Zi b.r1,Zi b.u0,Zi b.u1,Zi b.d0,Zi b.d1,Zi b.a0,Zi b.a1,Zi b.b0,Zi b.b1,Zi b.le,Zi b.me]
abbrev Zbr (b:Bx) (A:Option Addr) (c:Nat) (B:Option Addr) (d:Nat):Array Value:=#[Zi b.first,Zi b.step,Zi b.span,Zi b.press,Zi b.note,.slice A b.lows.length c,.slice B b.highs.length d,Zi b.t0,Zi b.t1,Zi b.r0,Zi b.r1,Zi b.u0,Zi b.u1,Zi b.d0,Zi b.d1,Zi b.a0,Zi b.a1,Zi b.b0,Zi b.b1,Zi b.le,Zi b.me]
def blankJ (b:Bx):Jb:={ p0:=0,p1:=0,t0:=b.t0,t1:=b.t1,r0:=b.r0,r1:=b.r1,u0:=b.u0,u1:=b.u1,d0:=b.d0,d1:=b.d1,a0:=b.a0,a1:=b.a1,b0:=b.b0,b1:=b.b1,le:=b.le,sh:=[],wi:=b.span,me:=b.me }
def checkB (b:Bx):Int :=
 if lawE b.law≠0 then lawE b.law else if ¬ ((0≤b.note∧b.note≤11)∧0≤b.due∧b.due≤30) then 1 else if sndsE b.lows 4≠0 then sndsE b.lows 4 else if sndsE b.highs 5≠0 then sndsE b.highs 5 else checkJ (blankJ b)
structure Bx.good (b:Bx):Prop where
 law:b.law.good
 note:0≤b.note∧b.note≤11
 due:0≤b.due∧b.due≤30
 lows:b.lows.length≤4∧∀ x∈b.lows,x.good
 highs:b.highs.length≤5∧∀ x∈b.highs,x.good
 job:checkJ (blankJ b)=0
theorem checkB_good {b:Bx}:checkB b=0↔b.good:=by
 unfold checkB
 constructor
 ·intro h
  split at h
  ·contradiction
  ·split at h
   ·omega
   ·split at h
    ·contradiction
    ·split at h
     ·contradiction
     ·rename_i h1 h2 h3 h4
      simp only [ne_eq,Decidable.not_not] at h1 h2 h3 h4
      have k3:=sndsE_good h3
      have k4:=sndsE_good h4
      exact ⟨lawE_good h1,h2.1,h2.2,⟨by omega,k3.2⟩,⟨by omega,k4.2⟩,h⟩
 ·rintro ⟨h1,h2,h3,h4,h5,h6⟩
  have k1:=good_lawE h1
  rw [if_neg (by simp [k1]),if_neg (by simp [h2,h3]),if_neg (by simp [good_sndsE (most:=4) (by omega) h4.2]),if_neg (by simp [good_sndsE (most:=5) (by omega) h5.2])]
  exact h6
def checkPB (b:Bx) (i k:Int):Int:=if checkB b≠0 then checkB b else if ¬ ((0≤i∧i < b.lows.length)∧0≤k∧k < b.highs.length) then 3 else 0
theorem checkPB_good {b:Bx} {i k:Int} (h:checkPB b i k=0):b.good∧(0≤i∧i < b.lows.length)∧0≤k∧k < b.highs.length:=by
 unfold checkPB at h
 split at h
 ·contradiction
 ·split at h
  ·omega
  ·rename_i h1 h2
   exact ⟨checkB_good.1 (by simpa using h1),by omega,by omega⟩
def Bx.low (b:Bx) (i:Int):Snd:=b.lows.getD i.toNat ⟨0,0,0,0⟩
def Bx.high (b:Bx) (i:Int):Snd:=b.highs.getD i.toNat ⟨0,0,0,0⟩
theorem Bx.low_get {b:Bx} {i:Int} (h:0≤i∧i < b.lows.length):b.lows[i.toNat]? = some (b.low i):=by
 unfold Bx.low
 rw [List.getD_eq_getElem?_getD,List.getElem?_eq_getElem (by omega)]
 rfl
theorem Bx.high_get {b:Bx} {i:Int} (h:0≤i∧i < b.highs.length):b.highs[i.toNat]? = some (b.high i):=by
 unfold Bx.high
 rw [List.getD_eq_getElem?_getD,List.getElem?_eq_getElem (by omega)]
 rfl
def beatE (b:Bx) (i k:Int):List (Int×Int):=if checkPB b i k=0 then beatsL b.law (b.low i) (b.high k) else []
def rowP (b:Bx) (x:Snd):List Int:=b.highs.map fun y=>keepsP b.law b.due [x,y]
def tableP (b:Bx):List (List Int):=b.lows.map (rowP b)
theorem blank_any (b:Bx) (A:Option Addr) (c:Nat) (B:Option Addr) (d:Nat) (w:World)  :
  Calls prog 102 #[bxV b A c B d] w fun e w'=>e=.returned (jobV (blankJ b) none 0)∧Below w.heap.size w w':=by
 refine Zpx noEx func102 Z 23 Z [bxV b A c B d] Z Z (Mem.init w _) ?_
 intro ac wc T M
 refine Zsr ?_
 refine Zl2 ?_
 refine Zob M T Z Z Z Z (T.e 0 Z) Z ?_;clear M T;intro g1 wc ac M T
 refine Zl2 ?_
 refine Zoa M T Z Z Z Z ?_;clear M T;intro g2 wc ac M T
 replace T:=T.pick [0,1] rfl
 refine Zln ?_
 refine Zsr ?_
 refine Zl2 ?_
 refine Zoa M T Z Z Z Z ?_;clear M T;intro g3 wc ac M T
 refine Zln ?_
 refine wp_seq ?_
 refine Zgs M (M.perm [1,2] Z Z) 23 (by kernel_rfl) Z (by kernel_rfl) ?_
 clear M;intro wc M
 refine g_addG 13 M ?_
 refine Zgq (v:=(.pointer (some ⟨g1,7,none⟩))) T 0 1 Z (fun _=>(Zrg 7 Z (T.e 2 Z))) ?_;intro ac T
 refine gq T 1 3 Z (fun B w' hD hl hS=>(Zrr (Mem.nth (show Mem w noEx w' _ from ((MA.lft hS) (hD.wait (i:=1) (m:=13) (by kernel_rfl) hl))) 2 Z) Z (T.e 0 Z) Z)) ?_;intro ac T
 refine Zgq (v:=(.pointer (some ⟨g1,9,none⟩))) T 2 7 Z (fun _=>(Zrg 9 Z (T.e 4 Z))) ?_;intro ac T
 refine gq T 3 15 Z (fun B w' hD hl hS=>(Zrr (Mem.nth (show Mem w noEx w' _ from (MA.rgt hS)) 1 Z) Z (T.e 0 Z) Z)) ?_;intro ac T
 refine Zgq (v:=(.pointer (some ⟨g1,11,none⟩))) T 4 31 Z (fun _=>(Zrg 11 Z (T.e 6 Z))) ?_;intro ac T
 refine gq T 5 63 Z (fun B w' hD hl hS=>(Zrr (Mem.nth (show Mem w noEx w' _ from (MA.rgt hS)) 1 Z) Z (T.e 0 Z) Z)) ?_;intro ac T
 refine Zgq (v:=(.pointer (some ⟨g1,20,none⟩))) T 6 127 Z (fun _=>(Zrg 20 Z (T.e 8 Z))) ?_;intro ac T
 refine gq T 7 255 Z (fun B w' hD hl hS=>(Zro (Mem.nth (show Mem w noEx w' _ from (MA.rgt hS)) 1 Z) Z (T.e 0 Z) Z)) ?_;intro ac T
 refine Zgq (v:=(Zj g1)) T 8 511 Z (fun _=>(Zrg 0 Z (T.e 10 Z))) ?_;intro ac T
 refine Zgq (v:=(.pointer (some ⟨g1,2,none⟩))) T 9 1023 Z (fun _=>(Zrg 2 Z (T.e 0 Z))) ?_;intro ac T
 refine gq T 10 2047 Z (fun B w' hD hl hS=>(Zro (Mem.nth (show Mem w noEx w' _ from (MA.rgt hS)) 1 Z) Z (T.e 0 Z) Z)) ?_;intro ac T
 refine Zgq (v:=(Zj g3)) T 11 4095 Z (fun _=>(Zrg 0 Z (T.e 11 Z))) ?_;intro ac T
 refine Zgq (v:=(.pointer (some ⟨g3,2,none⟩))) T 12 8191 Z (fun _=>(Zrg 2 Z (T.e 0 Z))) ?_;intro ac T
 refine gw 13 16383 ?_;intro K hK
 refine Zot M T Z Z (T.e 0 Z) (T.e 11 Z) Z .head Z Z ?_;clear M T;intro wc ac M T
 refine Zso hK _ _ (MA.mk (fun h=>(no_of (by kernel_rfl) h).elim) (M.mask [false,true,true] Z)) ?_;clear hK K
 refine Zgq (v:=(Zj g3)) T 14 32767 Z (fun _=>(Zrg 0 Z (T.e 13 Z))) ?_;intro ac T
 refine Zgq (v:=(.pointer (some ⟨g3,4,none⟩))) T 15 65535 Z (fun _=>(Zrg 4 Z (T.e 0 Z))) ?_;intro ac T
 refine gw 16 131071 ?_;intro K hK
 refine Zot M T Z Z (T.e 0 Z) (T.e 11 Z) Z .head Z Z ?_;clear M T;intro wc ac M T
 refine Zso hK _ _ (MA.mk (fun h=>(no_of (by kernel_rfl) h).elim) (M.mask [false,true,true] Z)) ?_;clear hK K
 refine Zgq (v:=(.pointer (some ⟨g3,6,none⟩))) T 17 262143 Z (fun _=>(Zrg 6 Z (T.e 15 Z))) ?_;intro ac T
 refine gw 18 524287 ?_;intro K hK
 refine Zot M T Z Z (T.e 0 Z) (T.e 10 Z) Z .head Z Z ?_;clear M T;intro wc ac M T
 refine Zso hK _ _ (MA.mk (fun h=>(no_of (by kernel_rfl) h).elim) (M.mask [false,true,true] Z)) ?_;clear hK K
 refine Zgq (v:=(.pointer (some ⟨g3,17,none⟩))) T 19 1048575 Z (fun _=>(Zrg 17 Z (T.e 16 Z))) ?_;intro ac T
 refine gw 20 2097151 ?_;intro K hK
 refine Zot M T Z Z (T.e 0 Z) (T.e 9 Z) Z .head Z Z ?_;clear M T;intro wc ac M T
 refine Zso hK _ _ (MA.mk (fun h=>(no_of (by kernel_rfl) h).elim) (M.mask [false,true,true] Z)) ?_;clear hK K
 refine Zgq (v:=(.pointer (some ⟨g3,16,none⟩))) T 21 4194303 Z (fun _=>(Zrg 16 Z (T.e 17 Z))) ?_;intro ac T
 refine gw 22 8388607 ?_;intro K hK
 refine Zot M T Z Z (T.e 0 Z) (T.e 7 Z) Z .head Z Z ?_;clear M T;intro wc ac M T
 refine Zso hK _ _ (MA.mk (fun h=>(no_of (by kernel_rfl) h).elim) (M.mask [false,true,true] Z)) ?_;clear hK K
 refine Zgd (by kernel_rfl) ?_
 replace T:=T.pick [18,19] rfl
 replace M:=M.mask [true,true,false] rfl
 refine nm_then ?_
 refine Zsr ?_
 refine lq T (Zrr (Mem.nth M 0 Z) Z (T.e 0 Z) Z) ?_;intro ac T
 refine Zl2 ?_
 refine Zot M T Z Z (T.e 2 Z) (T.e 0 Z) Z (.tail .head) Z Z ?_;clear M T;intro wc ac M T
 refine wpList_nil ?_
 replace T:=T.pick [2] rfl
 replace M:=M.mask [false,true] rfl
 refine Znr ?_
 refine rt_c M T Z (T.e 0 Z) (Zne (i:=0) Z) Z ?_
 exact ⟨rfl,M.below⟩
theorem vCheck_any (b:Bx) (A:Option Addr) (c:Nat) (B:Option Addr) (d:Nat) (w:World) (hA:Rd w w.heap.size 4 A b.lows.length (sc b.lows)) (hB:Rd w w.heap.size 4 B b.highs.length (sc b.highs)) (nA:b.lows.length≤1000000) (nB:b.highs.length≤1000000)  :
   Calls prog 39 #[bxV b A c B d] w fun e w'=>e=.returned (Zi (checkB b))∧Below w.heap.size w w':=by
 have hlA:=hA.len4
 have hlB:=hB.len4
 obtain ⟨bA,oA,SA⟩:=Sp.old hA
 obtain ⟨bB,oB,SB⟩:=Sp.old hB
 refine Zpx noEx func39 Z 40 Z [bxV b A c B d] Z Z (Mem.init w _) ?_
 intro ac wc T M
 refine Zsr ?_
 refine Zl2 ?_
 refine Zob M T Z Z Z Z (T.e 0 Z) Z ?_;clear M T;intro g1 wc ac M T
 refine lq T (Zra Z evc) ?_;intro ac T
 replace T:=T.pick [1] rfl
 refine Zln ?_
 refine wp_seq ?_
 refine Zsr ?_
 refine Zg2 (v1:=(Zj g1)) T (Zq (Zrg 0 Z (T.e 0 Z))) Z (Zr M 0 0 Z Z Z Z) Z ?_;intro ac T
 refine Zl2 ?_
 refine Zod T Z Z Z Z evf (.cons (T.e 0 Z) .nil) func98 Z Z ?_
 refine Calls.mono (checkLaw_any b.law _) ?_
 clear T;rintro e wc ⟨rfl,hb⟩ ac T
 replace M:=M.call hb;clear hb
 refine lq T (Zra Z (T.e 0 Z)) ?_;intro ac T
 replace T:=T.pick [0,4] rfl
 refine Zln ?_
 refine Zsr ?_
 refine Zg2 T (Zq (Zrm Z (T.e 0 Z))) Z (fun _ T=>Zq (rn_neq Z (T.e 0 Z) evc)) Z ?_;intro ac T
 replace T:=T.pick [0,2,3] rfl
 refine Zln ?_
 refine wp_ifn (T.e 0 Z) ?_ ?_
 ·intro h1
  refine Zsr ?_
  refine Zg2 T (Zq (Zrm Z (T.e 1 Z))) Z (Za 0 Z Z) Z ?_;intro ac T
  refine wpList_nil ?_
  replace T:=T.pick [0] rfl
  replace M:=M.mask [false] rfl
  refine Znr ?_
  refine Zrt ?_
  refine rt_1 T Z (T.e 0 Z) ?_
  refine ⟨ret_int ?_,M.below⟩
  unfold checkB
  first | (simp_all [withinB,Bx.due];done) | (simp_all [withinB,Bx.due];omega)
 intro h1
 have gl:=lawE_good (l:=b.law) (by simpa using h1)
 obtain ⟨gl1,gl2,gl3,gl4⟩:=gl
 dsimp only at gl1 gl2 gl3 gl4
 refine Zsk ?_
 refine wp_seq ?_
 refine cut_seq (fun ac wc=>Tm ac 40 [(1,Zj g1),(24,.bool ((!(withinB b.note 0 11)) || (!(withinB (b.first+b.step * b.note) 0 30))))]∧Mem w noEx wc [(g1,.cells (Zbx b A c B d))]) ?_ ?_
 ·refine wp_region_lit ?_
  refine Zg2 (v1:=(.pointer (some ⟨g1,4,none⟩))) T (Zq (Zrg 4 Z (T.e 2 Z))) Z (Zo M 0 0 Z Z Z Z) Z ?_;intro ac T
  refine Zl2 ?_
  refine Zod T Z Z Z Z evf (.cons (T.e 0 Z) (.cons evc (.cons evc .nil))) func99 Z Z ?_
  refine Calls.mono (vwithin_any b.note 0 11 _) ?_
  clear T;rintro e wc ⟨rfl,hb⟩ ac T
  replace M:=M.call hb;clear hb
  refine Zg2 T (Zq (rn_not Z (T.e 0 Z))) Z (Zm 0 Z Z) Z ?_;intro ac T
  rcases Zx9 (!(withinB b.note 0 11)) with h2 | h2
  ·have hn9:=h2
   refine Zg8 T (Zp (Zwn Z Z (T.e 0 Z) h2)) Z (fun _ T=>Zp (Zwn Z Z (T.e 1 Z) h2)) Z (fun _ T=>Zp (Zwn Z Z (T.e 2 Z) h2)) Z (fun _ T=>Zp (Zwn Z Z (T.e 3 Z) h2)) Z (fun _ T=>Zp (Zwn Z Z (T.e 4 Z) h2)) Z (fun _ T=>Zp (Zwn Z Z (T.e 5 Z) h2)) Z (fun _ T=>Zp (Zwn Z Z (T.e 6 Z) h2)) Z (fun _ T=>Zq (Zr1 Z (T.e 7 Z) h2 evc)) Z ?_;intro ac T
   refine wpList_nil ?_
   replace T:=T.pick [0,15] rfl
   exact ⟨(T.pick (E':=[(1,Zj g1),(24,.bool true)]) [1,0] Z).as (by (try rw [show (!(withinB b.note 0 11))=true from h2]);(try rfl)),M.mask [true] Z⟩
  have hn9:0≤b.note∧b.note≤11:=by unfold withinB at h2;simpa using h2
  refine Zg4 (v1:=(Zj g1)) (v3:=(.pointer (some ⟨g1,4,none⟩))) T (Zw (Zwy Z Z (T.e 0 Z) h2) (Zrg 0 Z (T.e 7 Z))) Z (fun _ T=>Zw (Zwy Z Z (T.e 1 Z) h2) (Zrr (Mem.nth M 0 Z) Z (T.e 0 Z) Z)) Z (fun _ T=>Zw (Zwy Z Z (T.e 2 Z) h2) (Zrg 4 Z (T.e 9 Z))) Z (fun _ T=>Zw (Zwy Z Z (T.e 3 Z) h2) (Zro (Mem.nth M 0 Z) Z (T.e 0 Z) Z)) Z ?_;intro ac T
  refine l_w (Zwy Z Z (T.e 4 Z) h2) ?_;intro K hK
  refine Zod T Z Z Z Z evf (.cons (T.e 2 Z) (.cons (T.e 0 Z) .nil)) func88 Z Z ?_
  refine Calls.mono (vdue_any b.law b.note _ (by (try dsimp only);omega) (by (try dsimp only);omega) (by (try dsimp only);omega)) ?_
  clear T;rintro e wc ⟨rfl,hb⟩ ac T
  replace M:=M.call hb;clear hb
  refine Zso hK _ _ ?_;clear hK K
  refine l_w (Zwy Z Z (T.e 5 Z) h2) ?_;intro K hK
  refine Zod T Z Z Z Z evf (.cons (T.e 0 Z) (.cons evc (.cons evc .nil))) func99 Z Z ?_
  refine Calls.mono (vwithin_any (b.first+b.step * b.note) 0 30 _) ?_
  clear T;rintro e wc ⟨rfl,hb⟩ ac T
  replace M:=M.call hb;clear hb
  refine Zso hK _ _ ?_;clear hK K
  refine Zg2 T (Zw (Zwy Z Z (T.e 6 Z) h2) (rn_not Z (T.e 0 Z))) Z (fun _ T=>Zq (Zr0 Z (T.e 7 Z) h2 (T.e 0 Z))) Z ?_;intro ac T
  refine wpList_nil ?_
  replace T:=T.pick [0,15] rfl
  exact ⟨(T.pick (E':=[(1,Zj g1),(24,.bool (!(withinB (b.first+b.step * b.note) 0 30)))]) [1,0] Z).as (by (try rw [show (!(withinB b.note 0 11))=false from h2]);(try rfl)),M.mask [true] Z⟩
 clear T M
 rintro ac wc ⟨T,M⟩
 refine wp_cond_split (T.e 1 Z) ?_ ?_
 ·intro h3
  (have h3':=h3;try simp only [Zb1,Zb2,Zb3,Zb4,Zb5,Zb6,Zb7] at h3')
  refine Zsr ?_
  refine lq T (Zra Z evc) ?_;intro ac T
  refine wpList_nil ?_
  replace T:=T.pick [0] rfl
  replace M:=M.mask [false] rfl
  refine Znr ?_
  refine Zrt ?_
  refine rt_1 T Z (T.e 0 Z) ?_
  refine ⟨ret_int ?_,M.below⟩
  unfold checkB
  first | (simp_all [withinB,Bx.due];done) | (simp_all [withinB,Bx.due];omega)
 intro h3
 (have h3':=h3;try simp only [Zb1,Zb2,Zb3,Zb4,Zb5,Zb6,Zb7] at h3')
 refine Zsk ?_
 refine wp_seq ?_
 refine Zsr ?_
 refine Zg2 (v1:=(.pointer (some ⟨g1,5,none⟩))) T (Zq (Zrg 5 Z (T.e 0 Z))) Z (Zo M 0 0 Z Z Z Z) Z ?_;intro ac T
 refine Zl2 ?_
 refine Zod T Z Z Z Z evf (.cons (T.e 0 Z) (.cons evc .nil)) func100 Z Z ?_
 refine Calls.mono (checkSounds_any _ _ _ b.lows 4 _ (SA.rd M (Zz9 _)) (by first | omega | (simp only [Zx1,Zx2];omega))) ?_
 clear T;rintro e wc ⟨rfl,hb⟩ ac T
 replace M:=M.call hb;clear hb
 refine lq T (Zra Z (T.e 0 Z)) ?_;intro ac T
 replace T:=T.pick [0,4] rfl
 refine Zln ?_
 refine Zsr ?_
 refine Zg2 T (Zq (Zrm Z (T.e 0 Z))) Z (fun _ T=>Zq (rn_neq Z (T.e 0 Z) evc)) Z ?_;intro ac T
 replace T:=T.pick [0,2,3] rfl
 refine Zln ?_
 refine wp_ifn (T.e 0 Z) ?_ ?_
 ·intro h4
  refine Zsr ?_
  refine Zg2 T (Zq (Zrm Z (T.e 1 Z))) Z (Za 0 Z Z) Z ?_;intro ac T
  refine wpList_nil ?_
  replace T:=T.pick [0] rfl
  replace M:=M.mask [false] rfl
  refine Znr ?_
  refine Zrt ?_
  refine rt_1 T Z (T.e 0 Z) ?_
  refine ⟨ret_int ?_,M.below⟩
  unfold checkB
  first | (simp_all [withinB,Bx.due];done) | (simp_all [withinB,Bx.due];omega)
 intro h4
 refine Zsk ?_
 refine wp_seq ?_
 refine Zsr ?_
 refine Zg2 (v1:=(.pointer (some ⟨g1,6,none⟩))) T (Zq (Zrg 6 Z (T.e 2 Z))) Z (Zo M 0 0 Z Z Z Z) Z ?_;intro ac T
 refine Zl2 ?_
 refine Zod T Z Z Z Z evf (.cons (T.e 0 Z) (.cons evc .nil)) func100 Z Z ?_
 refine Calls.mono (checkSounds_any _ _ _ b.highs 5 _ (SB.rd M (Zz9 _)) (by first | omega | (simp only [Zx1,Zx2];omega))) ?_
 clear T;rintro e wc ⟨rfl,hb⟩ ac T
 replace M:=M.call hb;clear hb
 refine lq T (Zra Z (T.e 0 Z)) ?_;intro ac T
 replace T:=T.pick [0,6] rfl
 refine Zln ?_
 refine Zsr ?_
 refine Zg2 T (Zq (Zrm Z (T.e 0 Z))) Z (fun _ T=>Zq (rn_neq Z (T.e 0 Z) evc)) Z ?_;intro ac T
 replace T:=T.pick [0,2,3] rfl
 refine Zln ?_
 refine wp_ifn (T.e 0 Z) ?_ ?_
 ·intro h5
  refine Zsr ?_
  refine Zg2 T (Zq (Zrm Z (T.e 1 Z))) Z (Za 0 Z Z) Z ?_;intro ac T
  refine wpList_nil ?_
  replace T:=T.pick [0] rfl
  replace M:=M.mask [false] rfl
  refine Znr ?_
  refine Zrt ?_
  refine rt_1 T Z (T.e 0 Z) ?_
  refine ⟨ret_int ?_,M.below⟩
  unfold checkB
  first | (simp_all [withinB,Bx.due];done) | (simp_all [withinB,Bx.due];omega)
 intro h5
 refine Zsk ?_
 refine Zsr ?_
 refine lq T (Zrr (Mem.nth M 0 Z) Z (T.e 2 Z) Z) ?_;intro ac T
 refine Zl2 ?_
 refine Zod T Z Z Z Z evf (.cons (T.e 0 Z) .nil) func102 Z Z ?_
 refine Calls.mono (blank_any b A c B d _) ?_
 clear T;rintro e wc ⟨rfl,hb⟩ ac T
 replace M:=M.call hb;clear hb
 refine Zl2 ?_
 refine Zod T Z Z Z Z evf (.cons (T.e 0 Z) .nil) func101 Z Z ?_
 refine Calls.mono (check_any (blankJ b) none 0 _ Rd.empty (by show (0:Nat)≤_;omega)) ?_
 clear T;rintro e wc ⟨rfl,hb⟩ ac T
 replace M:=M.call hb;clear hb
 refine lq T (Zra Z (T.e 0 Z)) ?_;intro ac T
 refine wpList_nil ?_
 replace T:=T.pick [0] rfl
 replace M:=M.mask [false] rfl
 refine Znr ?_
 refine rt_1 T Z (T.e 0 Z) ?_
 refine ⟨ret_int ?_,M.below⟩
 unfold checkB
 first | (simp_all [withinB,Bx.due];done) | (simp_all [withinB,Bx.due];omega)
theorem vcheckPair_any (b:Bx) (A:Option Addr) (c:Nat) (B:Option Addr) (d:Nat) (i k:Int) (w:World) (hA:Rd w w.heap.size 4 A b.lows.length (sc b.lows)) (hB:Rd w w.heap.size 4 B b.highs.length (sc b.highs)) (nA:b.lows.length≤1000000) (nB:b.highs.length≤1000000)  :
   Calls prog 77 #[bxV b A c B d,Zi i,Zi k] w fun e w'=>e=.returned (Zi (checkPB b i k))∧Below w.heap.size w w':=by
 have hlA:=hA.len4
 have hlB:=hB.len4
 obtain ⟨bA,oA,SA⟩:=Sp.old hA
 obtain ⟨bB,oB,SB⟩:=Sp.old hB
 refine Zpx noEx func77 Z 29 Z [(bxV b A c B d),Zi i,Zi k] Z Z (Mem.init w _) ?_
 intro ac wc T M
 refine Zsr ?_
 refine Zl2 ?_
 refine Zob M T Z Z Z Z (T.e 0 Z) Z ?_;clear M T;intro g1 wc ac M T
 refine lq T (Zra Z evc) ?_;intro ac T
 replace T:=T.pick [1,3,4] rfl
 refine Zln ?_
 refine wp_seq ?_
 refine Zsr ?_
 refine lq T (Zrr (Mem.nth M 0 Z) Z (T.e 0 Z) Z) ?_;intro ac T
 refine Zl2 ?_
 refine Zod T Z Z Z Z evf (.cons (T.e 0 Z) .nil) func39 Z Z ?_
 refine Calls.mono (vCheck_any b _ _ _ _ _ (SA.rd M (Zz9 _)) (SB.rd M (Zz9 _)) (by omega) (by omega)) ?_
 clear T;rintro e wc ⟨rfl,hb⟩ ac T
 replace M:=M.call hb;clear hb
 refine lq T (Zra Z (T.e 0 Z)) ?_;intro ac T
 replace T:=T.pick [0,3,4,5] rfl
 refine Zln ?_
 refine Zsr ?_
 refine Zg2 T (Zq (Zrm Z (T.e 0 Z))) Z (fun _ T=>Zq (rn_neq Z (T.e 0 Z) evc)) Z ?_;intro ac T
 replace T:=T.pick [0,2,3,4,5] rfl
 refine Zln ?_
 refine wp_ifn (T.e 0 Z) ?_ ?_
 ·intro h1
  refine Zsr ?_
  refine Zg2 T (Zq (Zrm Z (T.e 1 Z))) Z (Za 0 Z Z) Z ?_;intro ac T
  refine wpList_nil ?_
  replace T:=T.pick [0] rfl
  replace M:=M.mask [false] rfl
  refine Znr ?_
  refine Zrt ?_
  refine rt_1 T Z (T.e 0 Z) ?_
  refine ⟨ret_int ?_,M.below⟩
  unfold checkPB
  first | (simp_all [withinB];done) | (simp_all [withinB];omega)
 intro h1
 refine Zsk ?_
 refine wp_seq ?_
 refine cut_seq (fun ac wc=>Tm ac 29 [(28,.bool ((!(withinB i 0 (((b.lows.length:Nat):Int) - 1))) || (!(withinB k 0 (((b.highs.length:Nat):Int) - 1)))))]∧Mem w noEx wc []) ?_ ?_
 ·refine wp_region_lit ?_
  refine Zg5 (v2:=(.pointer (some ⟨g1,5,none⟩))) T (Zq (Zrm Z (T.e 3 Z))) Z (Zf 5 3 Z Z) Z (Zo M 0 0 Z Z Z Z) Z (Zl underlying24 0 Z Z) Z (fun _ T=>Zq (rn_sub Z (T.e 0 Z) evc (by omega))) Z ?_;intro ac T
  refine Zl2 ?_
  refine Zod T Z Z Z Z evf (.cons (T.e 4 Z) (.cons evc (.cons (T.e 0 Z) .nil))) func99 Z Z ?_
  refine Calls.mono (vwithin_any i 0 (((b.lows.length:Nat):Int) - 1) _) ?_
  clear T;rintro e wc ⟨rfl,hb⟩ ac T
  replace M:=M.call hb;clear hb
  refine Zg2 T (Zq (rn_not Z (T.e 0 Z))) Z (Zm 0 Z Z) Z ?_;intro ac T
  rcases Zx9 (!(withinB i 0 (((b.lows.length:Nat):Int) - 1))) with h2 | h2
  ·refine Zg8 T (Zp (Zwn Z Z (T.e 0 Z) h2)) Z (fun _ T=>Zp (Zwn Z Z (T.e 1 Z) h2)) Z (fun _ T=>Zp (Zwn Z Z (T.e 2 Z) h2)) Z (fun _ T=>Zp (Zwn Z Z (T.e 3 Z) h2)) Z (fun _ T=>Zp (Zwn Z Z (T.e 4 Z) h2)) Z (fun _ T=>Zp (Zwn Z Z (T.e 5 Z) h2)) Z (fun _ T=>Zp (Zwn Z Z (T.e 6 Z) h2)) Z (fun _ T=>Zq (Zr1 Z (T.e 7 Z) h2 evc)) Z ?_;intro ac T
   refine wpList_nil ?_
   replace T:=T.pick [0] rfl
   replace M:=M.mask [false] rfl
   exact ⟨(T.pick (E':=[(28,.bool true)]) [0] Z).as (by (try rw [show (!(withinB i 0 (((b.lows.length:Nat):Int) - 1)))=true from h2]);(try rfl)),M.mask [] Z⟩
  refine Zg5 (v2:=(.pointer (some ⟨g1,6,none⟩))) T (Zw (Zwy Z Z (T.e 0 Z) h2) (Zrm Z (T.e 12 Z))) Z (fun _ T=>Zw (Zwy Z Z (T.e 1 Z) h2) (Zrg 6 Z (T.e 11 Z))) Z (fun _ T=>Zw (Zwy Z Z (T.e 2 Z) h2) (Zro (Mem.nth M 0 Z) Z (T.e 0 Z) Z)) Z (fun _ T=>Zw (Zwy Z Z (T.e 3 Z) h2) (Zrl Z underlying24 (T.e 0 Z))) Z (fun _ T=>Zw (Zwy Z Z (T.e 4 Z) h2) (rn_sub Z (T.e 0 Z) evc (by omega))) Z ?_;intro ac T
  refine l_w (Zwy Z Z (T.e 5 Z) h2) ?_;intro K hK
  refine Zod T Z Z Z Z evf (.cons (T.e 4 Z) (.cons evc (.cons (T.e 0 Z) .nil))) func99 Z Z ?_
  refine Calls.mono (vwithin_any k 0 (((b.highs.length:Nat):Int) - 1) _) ?_
  clear T;rintro e wc ⟨rfl,hb⟩ ac T
  replace M:=M.call hb;clear hb
  refine Zso hK _ _ ?_;clear hK K
  refine Zg2 T (Zw (Zwy Z Z (T.e 6 Z) h2) (rn_not Z (T.e 0 Z))) Z (fun _ T=>Zq (Zr0 Z (T.e 7 Z) h2 (T.e 0 Z))) Z ?_;intro ac T
  refine wpList_nil ?_
  replace T:=T.pick [0] rfl
  replace M:=M.mask [false] rfl
  exact ⟨(T.pick (E':=[(28,.bool (!(withinB k 0 (((b.highs.length:Nat):Int) - 1))))]) [0] Z).as (by (try rw [show (!(withinB i 0 (((b.lows.length:Nat):Int) - 1)))=false from h2]);(try rfl)),M.mask [] Z⟩
 clear T M
 rintro ac wc ⟨T,M⟩
 refine wp_cond_split (T.e 0 Z) ?_ ?_
 ·intro h3
  (have h3':=h3;try simp only [Zb1,Zb2,Zb3,Zb4,Zb5,Zb6,Zb7] at h3')
  refine Zsr ?_
  refine lq T (Zra Z evc) ?_;intro ac T
  replace T:=T.pick [0] rfl
  refine Zln ?_
  refine wp_ret ?_
  refine Zrt ?_
  refine rt_1 T Z (T.e 0 Z) ?_
  refine ⟨ret_int ?_,M.below⟩
  unfold checkPB
  first | (simp_all [withinB];done) | (simp_all [withinB];omega)
 intro h3
 (have h3':=h3;try simp only [Zb1,Zb2,Zb3,Zb4,Zb5,Zb6,Zb7] at h3')
 refine Zsk ?_
 refine Zsr ?_
 refine lq T (Zra Z evc) ?_;intro ac T
 replace T:=T.pick [0] rfl
 refine Zln ?_
 refine wp_ret ?_
 refine rt_1 T Z (T.e 0 Z) ?_
 refine ⟨ret_int ?_,M.below⟩
 unfold checkPB
 first | (simp_all [withinB];done) | (simp_all [withinB];omega)
def BeatPost (b:Bx) (i k:Int) (w:World) (e:Ending) (w':World):Prop :=
 ∃ (A:Option Addr) (c:Nat) (I:List (Nat×BA)),e=.returned (.tuple #[.slice A (beatE b i k).length c,Zi (checkPB b i k)])∧Sl 26 2 (.slice A (beatE b i k).length c) (beatE b i k).length (rc (beatE b i k)) I∧Mem w noEx w' I
theorem Beat_any (b:Bx) (A:Option Addr) (c:Nat) (B:Option Addr) (d:Nat) (i k:Int) (w:World) (hA:Rd w w.heap.size 4 A b.lows.length (sc b.lows)) (hB:Rd w w.heap.size 4 B b.highs.length (sc b.highs)) (nA:b.lows.length≤1000000) (nB:b.highs.length≤1000000)  :
   Calls prog 23 #[bxV b A c B d,Zi i,Zi k] w (BeatPost b i k w):=by
 have hlA:=hA.len4
 have hlB:=hB.len4
 obtain ⟨bA,oA,SA⟩:=Sp.old hA
 obtain ⟨bB,oB,SB⟩:=Sp.old hB
 refine Zpx noEx func23 Z 29 Z [(bxV b A c B d),Zi i,Zi k] Z Z (Mem.init w _) ?_
 intro ac wc T M
 refine Zsr ?_
 refine Zl2 ?_
 refine Zob M T Z Z Z Z (T.e 0 Z) Z ?_;clear M T;intro g1 wc ac M T
 refine Zg2 T (Zq (Zra Z evc)) Z (Zc Z) Z ?_;intro ac T
 replace T:=T.pick [2,4,5] rfl
 refine Zln ?_
 refine wp_seq ?_
 refine Zsr ?_
 refine Zg3 T (Zq (Zrr (Mem.nth M 0 Z) Z (T.e 0 Z) Z)) Z (Zm 2 Z Z) Z (Zm 4 Z Z) Z ?_;intro ac T
 refine Zl2 ?_
 refine Zod T Z Z Z Z evf (.cons (T.e 2 Z) (.cons (T.e 1 Z) (.cons (T.e 0 Z) .nil))) func77 Z Z ?_
 refine Calls.mono (vcheckPair_any b _ _ _ _ i k _ (SA.rd M (Zz9 _)) (SB.rd M (Zz9 _)) (by omega) (by omega)) ?_
 clear T;rintro e wc ⟨rfl,hb⟩ ac T
 replace M:=M.call hb;clear hb
 refine lq T (Zra Z (T.e 0 Z)) ?_;intro ac T
 replace T:=T.pick [0,5,6,7] rfl
 refine Zln ?_
 refine Zsr ?_
 refine Zg2 T (Zq (Zrm Z (T.e 0 Z))) Z (fun _ T=>Zq (rn_neq Z (T.e 0 Z) evc)) Z ?_;intro ac T
 replace T:=T.pick [0,2,3,4,5] rfl
 refine Zln ?_
 refine wp_ifn (T.e 0 Z) ?_ ?_
 ·intro h1
  refine Zsr ?_
  refine Zg3 T (Zq (Zrm Z (T.e 1 Z))) Z (Zc Z) Z (Za 1 Z Z) Z ?_;intro ac T
  refine wpList_nil ?_
  replace T:=T.pick [0,1] rfl
  replace M:=M.mask [false] rfl
  refine Znr ?_
  refine Zrt ?_
  refine rt_2 T Z (T.e 1 Z) (T.e 0 Z) ?_
  unfold BeatPost
  have e9:beatE b i k=[]:=by unfold beatE;rw [if_neg (by assumption)]
  rw [e9]
  exact ⟨none,0,[],Z,Sl.nil _ _,M.mask [] Z⟩
 intro h1
 obtain ⟨gb,⟨i0,i1⟩,k0,k1⟩:=checkPB_good (b:=b) (i:=i) (k:=k) (by simpa using h1)
 obtain ⟨il,hil⟩:∃ q:Nat,i=(q:Int):=⟨i.toNat,by omega⟩
 obtain ⟨kl,hkl⟩:∃ q:Nat,k=(q:Int):=⟨k.toNat,by omega⟩
 have gl3:=gb.law.span
 have gl4:=gb.law.press
 have gn:=gb.note
 have gf:=gb.law.first
 have gs:=gb.law.step
 have gd:=gb.due
 unfold Bx.due at gd
 dsimp only at gl3 gl4 gf gs
 obtain ⟨x,hx9⟩:∃ q,q=b.low i:=⟨_,rfl⟩
 obtain ⟨y,hy9⟩:∃ q,q=b.high k:=⟨_,rfl⟩
 have hkx:b.lows[il]? = some x:=by rw [hx9,← Bx.low_get ⟨i0,i1⟩,hil];rfl
 have hky:b.highs[kl]? = some y:=by rw [hy9,← Bx.high_get ⟨k0,k1⟩,hkl];rfl
 have gx:=gb.lows.2 x (List.mem_of_getElem? hkx)
 have gy:=gb.highs.2 y (List.mem_of_getElem? hky)
 refine Zsk ?_
 refine wp_seq ?_
 refine Zgs M (M.mask [true] Z) 15 (by kernel_rfl) Z (by kernel_rfl) ?_
 clear M;intro wc M
 refine Zgq (v:=(Zj g1)) T 0 1 Z (fun _=>(Zrg 0 Z (T.e 2 Z))) ?_;intro ac T
 refine gq T 1 3 Z (fun B w' hD hl hS=>(Zrr (Mem.nth (show Mem w noEx w' _ from hS) 0 Z) Z (T.e 0 Z) Z)) ?_;intro ac T
 refine Zgq (v:=(.pointer (some ⟨g1,5,none⟩))) T 2 7 Z (fun _=>(Zrg 5 Z (T.e 4 Z))) ?_;intro ac T
 refine gq T 3 15 Z (fun B w' hD hl hS=>(Zro (Mem.nth (show Mem w noEx w' _ from hS) 0 Z) Z (T.e 0 Z) Z)) ?_;intro ac T
 refine Zgq T 4 31 Z (fun _=>(Zrm Z (T.e 7 Z))) ?_;intro ac T
 refine Zgq T 5 63 Z (fun _=>(Zri (size:=4) il Z (T.e 1 Z) (T.e 0 Z) ⟨_,underlying24,by kernel_rfl⟩ hil (by omega) (SA.at0 (by omega)))) ?_;intro ac T
 refine gq (v:=(.agg #[Zi x.t0,Zi x.t1,Zi x.s0,Zi x.s1])) T 6 127 Z (fun B w' hD hl hS=>(rn_rowat (Sp.scR4 SA (show Mem w noEx w' _ from hS) (Zz9 _) hkx) Z (T.e 0 Z) Z)) ?_;intro ac T
 refine Zgq (v:=(.pointer (some ⟨g1,6,none⟩))) T 7 255 Z (fun _=>(Zrg 6 Z (T.e 9 Z))) ?_;intro ac T
 refine gq T 8 511 Z (fun B w' hD hl hS=>(Zro (Mem.nth (show Mem w noEx w' _ from hS) 0 Z) Z (T.e 0 Z) Z)) ?_;intro ac T
 refine Zgq T 9 1023 Z (fun _=>(Zrm Z (T.e 13 Z))) ?_;intro ac T
 refine Zgq T 10 2047 Z (fun _=>(Zri (size:=4) kl Z (T.e 1 Z) (T.e 0 Z) ⟨_,underlying24,by kernel_rfl⟩ hkl (by omega) (SB.at0 (by omega)))) ?_;intro ac T
 refine gq (v:=(.agg #[Zi y.t0,Zi y.t1,Zi y.s0,Zi y.s1])) T 11 4095 Z (fun B w' hD hl hS=>(rn_rowat (Sp.scR4 SB (show Mem w noEx w' _ from hS) (Zz9 _) hky) Z (T.e 0 Z) Z)) ?_;intro ac T
 refine gw 12 8191 ?_;intro K hK
 refine Zod T Z Z Z Z evf (.cons (T.e 10 Z) (.cons (T.e 5 Z) (.cons (T.e 0 Z) .nil))) func78 Z Z ?_
 refine Calls.mono (beats_any b.law x y _ (by (try dsimp only);omega) gx gy) ?_
 clear T;rintro e wc ⟨Au2,cu2,Iu2,rfl,hslu2,N⟩ ac T
 obtain ⟨lbu2,hlbu2⟩:∃ q,q=(beatsL b.law x y):=⟨_,rfl⟩
 rw [← hlbu2] at hslu2
 obtain ⟨bu2,ou2,SVu2⟩:=hslu2.spV (rc_length _)
 have Su2:=SVu2 w noEx
 replace M:=(M.join N).swapI
 replace M:=M.mask [true] rfl
 clear N
 rw [← hlbu2] at T
 refine Zso hK _ _ (M.perm [0] Z Z) ?_;clear hK K
 refine Zgq T 13 16383 Z (fun _=>(Zra Z (T.e 0 Z))) ?_;intro ac T
 refine Zgq T 14 32767 Z (fun _=>(Zra Z evc)) ?_;intro ac T
 refine Zgd (by kernel_rfl) ?_
 replace T:=T.pick [0,1] rfl
 replace M:=M.mask [false] rfl
 refine Znr ?_
 refine rt_2 T Z (T.e 1 Z) (T.e 0 Z) ?_
 unfold BeatPost
 have e9:beatE b i k=lbu2:=by unfold beatE;rw [if_pos (by simpa using h1),← hx9,← hy9];exact hlbu2.symm
 rw [e9,show checkPB b i k=0 by simpa using h1]
 exact ⟨_,_,_,Z,hslu2,M.mask [] Z⟩
section
open Go.ChangeShapes Go.WideShapes Go.ChangeAt Go.RowKit
theorem cLaw:prog.cellsOf 23=4:=by kernel_rfl
theorem cSound:prog.cellsOf 77=4:=by kernel_rfl
theorem cSounds:prog.cellsOf 24=1:=by kernel_rfl
theorem cBox:prog.cellsOf 30=21:=by kernel_rfl
section
variable {H:Type} {enc:TypeId×Value→H} {P:Program} {W:World} {base:Nat} {sp:Nat→Bool} {hd:Bool}
theorem cells_sound {fuel:Nat} {cs:List Value} {x:DataW H×List MemPlace} (h:DataW.trod enc prog W base sp hd fuel 77 cs=some x):∃ s:Snd,cs=sndC s:=by
 have hl:cs.length=4:=by
  obtain ⟨_,_,_,_,hl,_⟩:=DataW.trod_struct underlying77 h
  rw [hl,cSound]
 match cs,hl with
 | [c0,c1,c2,c3],_ =>
  obtain ⟨_,_,h0⟩:=fieldOf underlying77 h 0 _ rfl
  obtain ⟨_,_,h1⟩:=fieldOf underlying77 h 1 _ rfl
  obtain ⟨a,b,e0⟩:=cells_range h0
  obtain ⟨c,d,e1⟩:=cells_range h1
  simp [cRange] at e0 e1
  exact ⟨⟨a,b,c,d⟩,by rw [e0.1,e0.2,e1.1,e1.2];rfl⟩
theorem cells_law {fuel:Nat} {cs:List Value} {x:DataW H×List MemPlace} (h:DataW.trod enc prog W base sp hd fuel 23 cs=some x):∃ l:Lw,cs=[.int .i64 l.first,.int .i64 l.step,.int .i64 l.span,.int .i64 l.press]:=by
 have hl:cs.length=4:=by
  obtain ⟨_,_,_,_,hl,_⟩:=DataW.trod_struct underlying23 h
  rw [hl,cLaw]
 match cs,hl with
 | [c0,c1,c2,c3],_ =>
  obtain ⟨_,_,h0⟩:=fieldOf underlying23 h 0 _ rfl
  obtain ⟨_,_,h1⟩:=fieldOf underlying23 h 1 _ rfl
  obtain ⟨_,_,h2⟩:=fieldOf underlying23 h 2 _ rfl
  obtain ⟨_,_,h3⟩:=fieldOf underlying23 h 3 _ rfl
  obtain ⟨a,e0⟩:=cell_int underlying3 h0
  obtain ⟨b,e1⟩:=cell_int underlying3 h1
  obtain ⟨c,e2⟩:=cell_int underlying3 h2
  obtain ⟨d,e3⟩:=cell_int underlying3 h3
  simp [cInt] at e0 e1 e2 e3
  exact ⟨⟨a,b,c,d⟩,by rw [e0,e1,e2,e3]⟩
theorem cells_listV {α:Type} [Inhabited α] (en:α→List Value) (z:Nat) (hz:∀ x,(en x).length=z) (h0:0 < z) (get:∀ (l:List α) (k:Nat) {x:α},l[k]? = some x→∀ (i:Nat) (v:Value),(en x)[i]? = some v→(l.flatMap en)[k * z+i]? = some v) {ts te:TypeId} (hts:prog.underlying ts=some (.slice te)) (hc:prog.cellsOf te=z)
  (hel:∀ (fuel:Nat) (cs:List Value) (x:DataW H×List MemPlace),DataW.trod enc prog W 0 (fun _=>true) true fuel te cs=some x→∃ p:α,cs=en p) {fuel:Nat} {cs:List Value} {x:DataW H×List MemPlace} (h:DataW.trod enc prog W 0 (fun _=>true) true fuel ts cs=some x) (hlt:∀ y∈x.2,y.block < W.heap.size) :
  ∃ (A:Option Addr) (c:Nat) (l:List α),cs=[.slice A l.length c]∧Rd W W.heap.size z A l.length (l.flatMap en)∧l.length≤9223372036854775807∧l.length≤c:=by
 rcases Go.Deep.open_slice hts h with ⟨rfl,_⟩ | ⟨a,len,cap,m,n,D,Pl,rfl,_,hl,hm,hmm,rfl,hx⟩
 ·exact ⟨none,0,[],Z,⟨by simp,fun h=>absurd h (by simp)⟩,by simp,Nat.le_refl _⟩
 simp only [if_true] at hmm
 subst hmm
 rw [hc] at hx hlt
 obtain ⟨V,hV⟩:=Go.Deep.choose_lt (α:=α) (p:=fun i v=>W.cells? 0 (a.add (i * z)) z=some (en v)) (fun i hi=>by
  obtain ⟨cs',h1,h2⟩:=hx i hi
  obtain ⟨v,rfl⟩:=hel _ _ _ h2
  exact ⟨v,h1⟩)
 have hlen:((List.range len).map V).length=len:=by simp
 refine ⟨some a,m,(List.range len).map V,by rw [hlen],?_,by rw [hlen];unfold maxLen at hm;omega,by rw [hlen];exact hl⟩
 rw [hlen]
 have hfl:∀ l:List α,(l.flatMap en).length=l.length * z:=fun l=>by
  induction l with
  | nil=>simp
  | cons y l ih=>rw [List.flatMap_cons,Zx3,ih,hz,Zx1,Nat.add_mul];omega
 refine ⟨by rw [hfl,hlen],fun hn=>?_⟩
 obtain ⟨b,off,spot⟩:=a
 have hcell:∀ k,k < m→∀ i,(hi:i < z)→W.cell? (((⟨b,off,spot⟩:Addr).add (k * z)).add i)=some ((en (V k))[i]'(by rw [hz];exact hi)):=fun k hk i hi=>by
  obtain ⟨_,_,h3⟩:=World.cells?_some (hV k hk)
  have q0:=h3 i (by omega)
  rw [q0,List.getElem?_eq_getElem]
 have hspot:spot=none:=by simpa [Addr.add] using World.cell?_spot (hcell 0 (by omega) 0 h0)
 subst hspot
 refine ⟨b,off,Z,hlt (.cell b off) (List.mem_append_left _ (MemPlace.mem_row.2 ⟨0,Nat.mul_pos (by omega) h0,by simp⟩)),fun j u hu=>?_⟩
 have hj:j < len * z:=by
  have:=(List.getElem?_eq_some_iff.1 hu).1
  rwa [hfl,hlen] at this
 have hk:j / z < len:=Nat.div_lt_of_lt_mul (by rw [Nat.mul_comm];exact hj)
 have hi:j % z < z:=Nat.mod_lt _ h0
 have e:j=j / z * z+j % z:=by rw [Nat.mul_comm];exact (Nat.div_add_mod j z).symm
 have hV0:((List.range len).map V)[j / z]? = some (V (j / z)):=by rw [List.getElem?_map,List.getElem?_range hk];rfl
 have g0:=get _ _ hV0 (j % z) _ (List.getElem?_eq_getElem (by rw [hz];exact hi))
 rw [← e,hu] at g0
 have g1:=Option.some.inj g0
 have c0:=hcell (j / z) (by omega) (j % z) hi
 rw [Addr.add_mid,Addr.add_mid,Nat.add_assoc,← e] at c0
 rw [c0,g1]
theorem cells_sounds {fuel:Nat} {cs:List Value} {x:DataW H×List MemPlace} (h:DataW.trod enc prog W 0 (fun _=>true) true fuel 24 cs=some x) (hlt:∀ y∈x.2,y.block < W.heap.size) :
  ∃ (A:Option Addr) (c:Nat) (l:List Snd),cs=[.slice A l.length c]∧Rd W W.heap.size 4 A l.length (sc l)∧l.length≤9223372036854775807∧l.length≤c :=
 letI:Inhabited Snd:=⟨⟨0,0,0,0⟩⟩
 cells_listV sndC 4 (fun _=>rfl) (by omega) sc_get underlying24 cSound (fun _ _ _ h9=>cells_sound h9) h hlt
theorem cells_box {fuel:Nat} {cs:List Value} {x:DataW H×List MemPlace} (h:DataW.trod enc prog W 0 (fun _=>true) true fuel 30 cs=some x) (hlt:∀ y∈x.2,y.block < W.heap.size) :
  ∃ (b:Bx) (A:Option Addr) (c:Nat) (B:Option Addr) (d:Nat),Value.agg cs.toArray=bxV b A c B d∧Rd W W.heap.size 4 A b.lows.length (sc b.lows)∧Rd W W.heap.size 4 B b.highs.length (sc b.highs)∧b.lows.length≤9223372036854775807∧b.highs.length≤9223372036854775807:=by
 have h':=h
 obtain ⟨xs,n,_,rfl,hl,hlen,hx⟩:=DataW.trod_struct underlying30 h
 rw [cBox] at hl
 match cs,hl with
 | [c0,c1,c2,c3,c4,c5,c6,c7,c8,c9,c10,c11,c12,c13,c14,c15,c16,c17,c18,c19,c20],_ =>
  obtain ⟨_,_,h0⟩:=fieldOf underlying30 h' 0 _ rfl
  obtain ⟨_,_,h1⟩:=fieldOf underlying30 h' 1 _ rfl
  obtain ⟨_,_,h4⟩:=fieldOf underlying30 h' 4 _ rfl
  obtain ⟨_,_,h5⟩:=fieldOf underlying30 h' 5 _ rfl
  obtain ⟨_,_,h6⟩:=fieldOf underlying30 h' 6 _ rfl
  obtain ⟨_,_,h7⟩:=fieldOf underlying30 h' 7 _ rfl
  have h2:=hx 2 _ rfl
  rw [List.getElem?_eq_getElem (by simp at hlen;omega)] at h2
  have h3:=hx 3 _ rfl
  rw [List.getElem?_eq_getElem (by simp at hlen;omega)] at h3
  obtain ⟨A,c,l,e2,hr,hn,-⟩:=cells_sounds h2 (fun y hy=>hlt y (List.mem_flatMap.2 ⟨_,List.getElem_mem _,hy⟩))
  obtain ⟨B,d,r,e3,hs,hm,-⟩:=cells_sounds h3 (fun y hy=>hlt y (List.mem_flatMap.2 ⟨_,List.getElem_mem _,hy⟩))
  obtain ⟨la,e0⟩:=cells_law h0
  obtain ⟨nt,e1⟩:=cell_int underlying3 h1
  obtain ⟨t0,t1,e4⟩:=cells_range h4
  obtain ⟨r0,r1,e5⟩:=cells_range h5
  obtain ⟨u0,u1,d0,d1,a0,a1,b0,b1,le,e6⟩:=cells_file h6
  obtain ⟨me,e7⟩:=cell_int underlying3 h7
  simp [cLaw,cInt,cSounds,cRange,cFile] at e0 e1 e2 e3 e4 e5 e6 e7
  obtain ⟨rfl,rfl,rfl,rfl⟩:=e0
  subst e1
  subst e2
  subst e3
  obtain ⟨rfl,rfl⟩:=e4
  obtain ⟨rfl,rfl⟩:=e5
  obtain ⟨rfl,rfl,rfl,rfl,rfl,rfl,rfl,rfl,rfl⟩:=e6
  subst e7
  exact ⟨⟨la.first,la.step,la.span,la.press,nt,l,r,t0,t1,r0,r1,u0,u1,d0,d1,a0,a1,b0,b1,le,me⟩,A,c,B,d,Z,hr,hs,hn,hm⟩
theorem read_box {v:Value} {d:DataW H} {ps:List MemPlace} {b0:Nat} (hv:Value.okWide prog W .any b0 30 v) (h:DataW.Trod enc prog W 0 (fun _=>true) true 30 v d ps) (hlt:∀ x∈ps,x.block < W.heap.size) :
  ∃ (b:Bx) (A:Option Addr) (c:Nat) (B:Option Addr) (d:Nat),v=bxV b A c B d∧Rd W W.heap.size 4 A b.lows.length (sc b.lows)∧Rd W W.heap.size 4 B b.highs.length (sc b.highs)∧b.lows.length≤9223372036854775807∧b.highs.length≤9223372036854775807:=by
 obtain ⟨cs,rfl,_⟩:=okWide_struct underlying30 hv
 obtain ⟨fuel,hf⟩:=h
 obtain ⟨b,A,c,B,d,e,h1,h2,h3,h4⟩:=cells_box hf hlt
 refine ⟨b,A,c,B,d,?_,h1,h2,h3,h4⟩
 rw [← e]
 show Value.agg cs=Value.agg cs.toList.toArray
 rw [Array.toArray_toList]
end
end
end Go.Proofs.YtaikhendogcflaaGreatDoor


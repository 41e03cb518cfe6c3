/-
  Walks of functions,and plain laws (texts put together). No condition.
-/
import Derived.Deep.DeepMust
import Derived.Deep.DeepFit
import Derived.Conc.DeferLaws
import Derived.Conc.Own2
import Derived.RangeFuncNested
import Derived.Scope
import Derived.RangeFuncBound
import Derived.RangeFuncCalls
import Derived.RangeFuncLeaves
import Derived.Conc.SmallLaws
import Derived.Maps.OwnOps
import Derived.DeepKeys4
import Derived.Maps.RangeWalk
import Derived.Test.YtoheddpnnjldgaaMBellowTurned1
import Derived.Test.YtoheddpnnjldgaaMBellowTurned2
set_option maxRecDepth 100000
set_option maxHeartbeats 1000000
set_option linter.unusedSimpArgs false
set_option linter.unusedVariables false
set_option linter.unusedSectionVars false
namespace Go.Proofs.Ytoheddpnnjldgaa
open Go.RowKit
section
open Go.RowKit Go.Proofs.Ytoheddpnnjldgaa.Bq
def fnOk (fn:Func):Bool:=(match fn.body with
 | some c=>codeOk c
 | none => true) && (fn.name != "runtime.NumGoroutine")
theorem fnOk_all:Try.prog.funcs.toList.all fnOk=true:=by kernel_rfl
theorem bodyless:((List.range Try.prog.funcs.size).all fun i=>match Try.prog.funcs[i]? with
 | some fn=>fn.body.isSome || [0,1,149,150,151,152,153,154,155,156,157,158,159,160,161,162,163,164,165].contains i
 | none=>true)=true:=by kernel_rfl
def RowOk (fn:Func):Prop:=Extern.findNext fn=none∧∀ e,Extern.find fn=some e→∀ args,Tame Try.prog okC (e args)
theorem rowOk_none {fn:Func} (h1:(Extern.findNext fn).isNone=true) (h2:(Extern.find fn).isNone=true):RowOk fn:=⟨Option.isNone_iff_eq_none.1 h1,fun e he=>by rw [he] at h2;cases h2⟩
theorem rowOk_some {fn:Func} {e:Array Value→Sem Value} (h1:(Extern.findNext fn).isNone=true) (h2:Extern.find fn=some e) (h:∀ args,Tame Try.prog okC (e args)):RowOk fn:=⟨Option.isNone_iff_eq_none.1 h1,fun e' he=>by rw [h2] at he;cases he;exact h⟩
theorem rowOk_0:RowOk Try.f0:=rowOk_none (by kernel_rfl) (by kernel_rfl)
theorem rowOk_1:RowOk Try.f1:=rowOk_none (by kernel_rfl) (by kernel_rfl)
theorem rowOk_149:RowOk Try.f149:=rowOk_some (e:=Extern.RuntimeError.boundsError) (by kernel_rfl) (by kernel_rfl) fun args=>t_bounds args
theorem rowOk_150:RowOk Try.f150:=rowOk_some (e:=Extern.RuntimeError.nothing) (by kernel_rfl) (by kernel_rfl) fun args=>t_nothing args
theorem rowOk_151 : RowOk Try.f151 := rowOk_some (e := fun args => do pure (.string ("runtime error: ".toUTF8 ++ (← asString (args.getD 0 (.tuple #[])))))) (by kernel_rfl) (by kernel_rfl) fun args => t_estr args
theorem rowOk_152:RowOk Try.f152:=rowOk_some (e:=Extern.RuntimeError.nothing) (by kernel_rfl) (by kernel_rfl) fun args=>t_nothing args
theorem rowOk_153:RowOk Try.f153:=rowOk_some (e:=fun args=>do pure (.string (← asString (args.getD 0 (.tuple #[]))))) (by kernel_rfl) (by kernel_rfl) fun args=>t_plain args
theorem rowOk_154:RowOk Try.f154:=rowOk_some (e:=Extern.RuntimeError.nothing) (by kernel_rfl) (by kernel_rfl) fun args=>t_nothing args
theorem rowOk_155 : RowOk Try.f155 := rowOk_some (e := fun args => do pure (.string ("runtime error: ".toUTF8 ++ (← asString ((← asAgg (args.getD 0 (.tuple #[]))).getD 0 (.tuple #[])))))) (by kernel_rfl) (by kernel_rfl) fun args => t_eas args
theorem rowOk_156:RowOk Try.f156:=rowOk_some (e:=Extern.RuntimeError.nothing) (by kernel_rfl) (by kernel_rfl) fun args=>t_nothing args
theorem rowOk_157:RowOk Try.f157:=rowOk_some (e:=Extern.RuntimeError.typeAssertionError) (by kernel_rfl) (by kernel_rfl) fun args=>t_tae args
theorem rowOk_158:RowOk Try.f158:=rowOk_some (e:=Extern.RuntimeError.nothing) (by kernel_rfl) (by kernel_rfl) fun args=>t_nothing args
theorem rowOk_159 : RowOk Try.f159 := rowOk_some (e := fun _ => Extern.RuntimeError.text "runtime error: panic called with nil argument") (by kernel_rfl) (by kernel_rfl) fun args => t_nilp
theorem rowOk_160:RowOk Try.f160:=rowOk_some (e:=Extern.RuntimeError.nothing) (by kernel_rfl) (by kernel_rfl) fun args=>t_nothing args
theorem rowOk_161:RowOk Try.f161:=rowOk_none (by kernel_rfl) (by kernel_rfl)
theorem rowOk_162:RowOk Try.f162:=rowOk_some (e:=Extern.RuntimeError.unhashableTypeError) (by kernel_rfl) (by kernel_rfl) fun args=>t_unhash args
theorem rowOk_163:RowOk Try.f163:=rowOk_some (e:=Extern.RuntimeError.nothing) (by kernel_rfl) (by kernel_rfl) fun args=>t_nothing args
theorem rowOk_164:RowOk Try.f164:=rowOk_none (by kernel_rfl) (by kernel_rfl)
theorem rowOk_165:RowOk Try.f165:=rowOk_some (e:=fun args=>do pure (strVal (Extern.Rtype.kindName (← asInt (args.getD 0 (.tuple #[]))).toNat))) (by kernel_rfl) (by kernel_rfl) fun args=>t_kind _ args
theorem rowOk_of {f:FuncId} {fn:Func} (hf:Try.prog.funcs[f]? = some fn) (hb:fn.body=none):RowOk fn:=by
 have h:=List.all_eq_true.1 bodyless f (List.mem_range.2 (Array.getElem?_eq_some_iff.1 hf).1)
 simp only [hf,hb,Option.isSome_none,Bool.false_or] at h
 have h2:f∈[0,1,149,150,151,152,153,154,155,156,157,158,159,160,161,162,163,164,165]:=by simpa using h
 simp only [Zx7,Zx8,or_false] at h2
 rcases h2 with rfl | rfl | rfl | rfl | rfl | rfl | rfl | rfl | rfl | rfl | rfl | rfl | rfl | rfl | rfl | rfl | rfl | rfl | rfl
 ·have e:Try.f0=fn:=Option.some.inj ((Try.func0).symm.trans hf)
  exact e ▸ rowOk_0
 ·have e:Try.f1=fn:=Option.some.inj ((Try.func1).symm.trans hf)
  exact e ▸ rowOk_1
 ·have e:Try.f149=fn:=Option.some.inj ((Try.func149).symm.trans hf)
  exact e ▸ rowOk_149
 ·have e:Try.f150=fn:=Option.some.inj ((Try.func150).symm.trans hf)
  exact e ▸ rowOk_150
 ·have e:Try.f151=fn:=Option.some.inj ((Try.func151).symm.trans hf)
  exact e ▸ rowOk_151
 ·have e:Try.f152=fn:=Option.some.inj ((Try.func152).symm.trans hf)
  exact e ▸ rowOk_152
 ·have e:Try.f153=fn:=Option.some.inj ((Try.func153).symm.trans hf)
  exact e ▸ rowOk_153
 ·have e:Try.f154=fn:=Option.some.inj ((Try.func154).symm.trans hf)
  exact e ▸ rowOk_154
 ·have e:Try.f155=fn:=Option.some.inj ((Try.func155).symm.trans hf)
  exact e ▸ rowOk_155
 ·have e:Try.f156=fn:=Option.some.inj ((Try.func156).symm.trans hf)
  exact e ▸ rowOk_156
 ·have e:Try.f157=fn:=Option.some.inj ((Try.func157).symm.trans hf)
  exact e ▸ rowOk_157
 ·have e:Try.f158=fn:=Option.some.inj ((Try.func158).symm.trans hf)
  exact e ▸ rowOk_158
 ·have e:Try.f159=fn:=Option.some.inj ((Try.func159).symm.trans hf)
  exact e ▸ rowOk_159
 ·have e:Try.f160=fn:=Option.some.inj ((Try.func160).symm.trans hf)
  exact e ▸ rowOk_160
 ·have e:Try.f161=fn:=Option.some.inj ((Try.func161).symm.trans hf)
  exact e ▸ rowOk_161
 ·have e:Try.f162=fn:=Option.some.inj ((Try.func162).symm.trans hf)
  exact e ▸ rowOk_162
 ·have e:Try.f163=fn:=Option.some.inj ((Try.func163).symm.trans hf)
  exact e ▸ rowOk_163
 ·have e:Try.f164=fn:=Option.some.inj ((Try.func164).symm.trans hf)
  exact e ▸ rowOk_164
 ·have e:Try.f165=fn:=Option.some.inj ((Try.func165).symm.trans hf)
  exact e ▸ rowOk_165
theorem funcsOk:FuncsOk Try.prog:=by
 have h:∀ (f:FuncId) (fn:Func),Try.prog.funcs[f]? = some fn→fnOk fn=true:=fun f fn hf=>List.all_eq_true.1 fnOk_all fn (Array.mem_toList_iff.2 (Array.mem_of_getElem? hf))
 refine ⟨fun f fn hf hb=>rowOk_of hf hb,fun f fn c hf hb=>?_,fun f fn hf=>?_⟩
 ·have:=h f fn hf
  simp only [fnOk,hb,Bool.and_eq_true] at this
  exact this.1
 ·have:=h f fn hf
  simp only [fnOk,Bool.and_eq_true,bne_iff_ne,ne_eq] at this
  exact this.2
end
structure Lk where
 A:Option Addr
 c:Nat
 op:List Int
 sec:Int
 lo:Int
 hi:Int
abbrev Lk.cells (t:Lk):List Value:=[.slice t.A t.op.length t.c,Zi t.sec,Zi t.lo,Zi t.hi]
def lkc (ts:List Lk):List Value:=ts.flatMap Lk.cells
structure Bw where
 full:Int
 a0:Int
 a1:Int
 cs:List (Int×Int)
 ts:List Lk
abbrev Bw.cells (b:Bw) (A:Option Addr) (c:Nat) (B:Option Addr) (d:Nat):List Value:=[Zi b.full,Zi b.a0,Zi b.a1,.slice A b.cs.length c,.slice B b.ts.length d]
def upI (lo hi:Int):List Int:=(List.range (hi - lo+1).toNat).map fun (k:Nat)=>lo+(k:Int)
theorem upI_nil {lo hi:Int} (h:hi < lo):upI lo hi=[]:=by
 unfold upI
 rw [show (hi - lo+1).toNat=0 by omega]
 rfl
theorem upI_cons {lo hi:Int} (h:lo≤hi):upI lo hi=lo::upI (lo+1) hi:=by
 unfold upI
 obtain ⟨m,hm⟩:∃ m,(hi - lo+1).toNat=m+1:=⟨(hi - lo).toNat,by omega⟩
 rw [hm,show (hi - (lo+1)+1).toNat=m by omega,List.range_succ_eq_map]
 simp only [List.map_cons,List.map_map,List.cons.injEq]
 refine ⟨by simp,List.map_congr_left fun k _=>?_⟩
 simp only [Function.comp_apply]
 push_cast
 omega
theorem upI_mem {lo hi n:Int}:n∈upI lo hi↔lo≤n∧n≤hi:=by
 unfold upI
 simp only [List.mem_map,List.mem_range]
 constructor
 · rintro ⟨k,hk,rfl⟩;omega
 · rintro ⟨h1,h2⟩;exact ⟨(n - lo).toNat,by omega,by omega⟩
def totL (l:List Int) (op:List Int):Int:=(op.map fun c=>l.getD c.toNat 0).sum
theorem totL_succ (l op:List Int) {k:Nat} {c:Int} (h:op[k]? = some c):totL l (op.take (k+1))=totL l (op.take k)+l.getD c.toNat 0:=by
 unfold totL
 rw [List.take_add_one,h]
 simp
theorem totL_bound {l op:List Int} (hl:∀ v∈l,0≤v∧v≤5):0≤totL l op∧totL l op≤5 * op.length:=by
 unfold totL
 induction op with
 | nil=>simp
 | cons c r ih =>
  simp only [List.map_cons,List.sum_cons,Zx1]
  have:0≤l.getD c.toNat 0∧l.getD c.toNat 0≤5:=by
   rw [List.getD_eq_getElem?_getD]
   cases h:l[c.toNat]? with
   | none=>simp
   | some v=>exact hl v (List.mem_of_getElem? h)
  push_cast
  omega
def okT (l:List Int) (t:Lk):Bool:=decide (t.lo≤t.sec * totL l t.op∧t.sec * totL l t.op≤t.hi)
def trs (ts:List Lk):List (Int×Int)→Nat→List Int→List (List Int)
 | [],_,l=>if ts.all (okT l) then [l] else []
 | x::r,k,l=>(upI x.1 x.2).flatMap fun n=>trs ts r (k+1) (l.set k n)
def truthsB (b:Bw):List (List Int):=trs b.ts b.cs 0 [0,0,0,0]
theorem trs_len (ts:List Lk):∀ (r:List (Int×Int)) (k:Nat) (l x:List Int),x∈trs ts r k l→x.length=l.length
 | [],k,l,x,h=>by
  unfold trs at h
  split at h
  ·simp at h;rw [h]
  ·cases h
 | y::r,k,l,x,h=>by
  unfold trs at h
  obtain ⟨n,-,h⟩:=List.mem_flatMap.1 h
  have:=trs_len ts r (k+1) _ x h
  simpa using this
theorem nthE_ic {l:List Int} {k:Nat} (h:k < l.length):nthE (ic l) k=some (Zi (l.getD k 0)):=by
 refine nthE_of ?_
 unfold ic
 rw [List.getElem?_map,List.getElem?_eq_getElem h,List.getD_eq_getElem?_getD,List.getElem?_eq_getElem h]
 rfl
theorem storeO_one {α:Type}:∀ (l:List α) (k:Nat) (v:α),k < l.length→storeO l k [v]=some (l.set k v)
 | [],k,v,h=>by simp at h
 | x::r,0,v,h=>by cases r <;> rfl
 | x::r,k+1,v,h=>by
  have:=storeO_one r k v (by simpa using h)
  unfold storeO
  rw [this]
  rfl
theorem storeO_ic {l:List Int} {k:Nat} (n:Int) (h:k < l.length):storeO (ic l) k [Zi n]=some (ic (l.set k n)):=by
 rw [storeO_one _ _ _ (by simpa [ic] using h)]
 unfold ic
 rw [List.map_set]
theorem sliceO_all {α:Type}:∀ (l:List α),sliceO 0 l.length l=some l
 | []=>rfl
 | x::r=>by
  have:=sliceO_all r
  simp only [Zx1]
  unfold sliceO
  rw [this]
theorem sliceO_ic {l:List Int} (h:l.length=4):sliceO 0 4 (ic l)=some (ic l):=by
 have:=sliceO_all (ic l)
 rwa [show (ic l).length=4 by simpa [ic] using h] at this
abbrev R2 (a b:Int):Value:=.agg #[Zi a,Zi b]
def withinB (n lo hi:Int):Bool:=decide (lo≤n∧n≤hi)
def chkR (x0 x1 lo hi:Int):Int:=if withinB x0 lo hi=true∧withinB x1 lo hi=true then (if x1 < x0 then 5 else 0) else 1
structure Jb where
 p0:Int
 p1:Int
 t0:Int
 t1:Int
 r0:Int
 r1:Int
 u0:Int
 u1:Int
 d0:Int
 d1:Int
 a0:Int
 a1:Int
 b0:Int
 b1:Int
 le:Int
 sh:List (Int×Int)
 wi:Int
 me:Int
open Go.RowKit
theorem take_eq_succ {k l:List Int} {p:Nat} {x y:Int} (h1:k.drop p=x::k.drop (p+1)) (h2:l.drop p=y::l.drop (p+1)):decide (k.take (p+1)=l.take (p+1))=(decide (k.take p=l.take p) && decide (x=y)):=by
 have a:∀ {m:List Int} {z:Int},m.drop p=z::m.drop (p+1)→m.take (p+1)=m.take p++[z]:=by
  intro m z h
  have hk:p < m.length:=by
   rcases Nat.lt_or_ge p m.length with h' | h'
   ·exact h'
   ·rw [List.drop_of_length_le h'] at h;cases h
  rw [List.drop_eq_getElem_cons hk] at h
  injection h with h _
  rw [List.take_succ_eq_append_getElem hk,h]
 rw [a h1,a h2]
 rw [Bool.eq_iff_iff]
 simp only [Bool.and_eq_true,decide_eq_true_eq]
 constructor
 ·intro h
  have:=List.append_inj' h rfl
  exact ⟨this.1,by simpa using this.2⟩
 ·rintro ⟨h,rfl⟩;rw [h]
theorem sameInts_any (A B:Option Addr) (n m c d:Nat) (k l:List Int) (w:World) (ha:Rd w w.heap.size 1 A n (ic k)) (hb:Rd w w.heap.size 1 B m (ic l)) (hn:n≤9223372036854775807) (hm:m≤9223372036854775807) :
   Calls Try.prog 31 #[.slice A n c,.slice B m d] w fun e w'=>e=.returned (.bool (decide (k=l)))∧Below w.heap.size w w':=by
 have HA:=Lib.hid ha
 have HB:=Lib.hid hb
 have HK:=Lib.hid ha.len1
 have HL:=Lib.hid hb.len1
 clear ha hb
 by_cases hnm:n=m
 · subst hnm
   have e0:((n:Int) == (n:Int))=true:=by simp
   have e1:(n == n)=true:=by simp
   go_enter Try.func31,Try.ntmps31
   go_wp2
   go_loopw [5,6] (fun s i wr=>∃ (p:Nat) (b:Bool),p≤n∧i=Zi p∧s=.bool b∧Hid (b=decide (k.take p=l.take p))∧Below w.heap.size w wr) (fun _ i _=>n - (intOf i).toNat)
   case atStart=>exact ⟨0,true,by omega,rfl,rfl,by show _=_;simp,Below.refl _ _⟩
   case round =>
     obtain ⟨p,b,hp,rfl,rfl,he,hbw⟩:=hrel
     cases b with
     | false =>
       go_wp2
       go_ret
       have h:=he.out
       exact ⟨ret_bool (by symm;simp;rintro rfl;simp at h),hbw⟩
     | true =>
       by_cases hlt:p < n
       · obtain ⟨b1,o1,x,rfl,hb1,hd1,d1⟩:=(HA.out.below hbw).at1 hlt
         obtain ⟨b2,o2,y,rfl,hb2,hd2,d2⟩:=(HB.out.below hbw).at1 hlt
         have HD1:=Lib.hid hd1
         have HD2:=Lib.hid hd2
         clear hd1 hd2
         have i0:(0:Int)≤(p:Int):=by omega
         have i1:(p:Int) < (n:Int):=by omega
         go_wp2
         refine wp_region_G (fun _ W=>W.cell? ⟨b1,o1+p,none⟩=some (Zi x)∧W.cell? ⟨b2,o2+p,none⟩=some (Zi y)∧Below w.heap.size w W) 10 (by kernel_rfl) (by kernel_rfl) ?s0 ?r0
         case s0=>(exact ⟨d1,d2,hbw.drew⟩)
         intro W0
         refine ZT 0 Z ?r1
         (try simp only [Act.put,Zz3,Zz4,Zz5,Zz6,Zz7,Zz8])
         refine ZT 1 Z ?r2
         (try simp only [Act.put,Zz3,Zz4,Zz5,Zz6,Zz7,Zz8])
         refine ZT 2 Z ?r3
         (try simp only [Act.put,Zz3,Zz4,Zz5,Zz6,Zz7,Zz8])
         refine wpG_take (i:=3) (v:=?v4) Z (by kernel_rfl) (by exact fun _ _=>Iff.rfl) (fun _ _ _ h=>h) (Or.inl ⟨by rfl,?y4⟩) ?r4
         case y4=>(intro w' hy;obtain ⟨L,hD,hl,hS⟩:=hy;obtain ⟨s1,s2,_⟩:=hS;clear hD hl;go_simp;(try with_reducible rfl))
         (try simp only [Act.put,Zz3,Zz4,Zz5,Zz6,Zz7,Zz8])
         refine ZT 4 Z ?r5
         (try simp only [Act.put,Zz3,Zz4,Zz5,Zz6,Zz7,Zz8])
         refine ZT 5 Z ?r6
         (try simp only [Act.put,Zz3,Zz4,Zz5,Zz6,Zz7,Zz8])
         refine ZT 6 Z ?r7
         (try simp only [Act.put,Zz3,Zz4,Zz5,Zz6,Zz7,Zz8])
         refine wpG_take (i:=7) (v:=?v8) Z (by kernel_rfl) (by exact fun _ _=>Iff.rfl) (fun _ _ _ h=>h) (Or.inl ⟨by rfl,?y8⟩) ?r8
         case y8=>(intro w' hy;obtain ⟨L,hD,hl,hS⟩:=hy;obtain ⟨s1,s2,_⟩:=hS;clear hD hl;go_simp;(try with_reducible rfl))
         (try simp only [Act.put,Zz3,Zz4,Zz5,Zz6,Zz7,Zz8])
         refine ZT 8 Z ?r9
         (try simp only [Act.put,Zz3,Zz4,Zz5,Zz6,Zz7,Zz8])
         refine ZT 9 Z ?r10
         (try simp only [Act.put,Zz3,Zz4,Zz5,Zz6,Zz7,Zz8])
         refine wpG_end (by kernel_rfl) ?_
         intro W
          hS
         have hbz:=hS.2.2
         clear hS
         go_wp2
         go_roundw
         case rel=>exact ⟨p+1,(x == y),by omega,by go_num,rfl,by (show _=_;rw [take_eq_succ HD1.out HD2.out,← he.out];rw [Bool.eq_iff_iff];simp),hbz⟩
         case measure=>simp [intOf];omega
       · go_wp2
         go_ret
         have e1:k.take p=k:=List.take_of_length_le (by have:=HK.out;omega)
         have e2:l.take p=l:=List.take_of_length_le (by have:=HL.out;omega)
         have h:=he.out
         rw [e1,e2] at h
         exact ⟨ret_bool h,hbw⟩
 · have e0:((n:Int) == (m:Int))=false:=by simp;omega
   have e1:(n == m)=false:=by simp;omega
   have HE:Hid (decide (k=l)=false):=by show _=_;simp;intro h;have h1:=HK.out;have h2:=HL.out;rw [h] at h1;omega
   generalize decide (k=l)=dk at *
   go_enter Try.func31,Try.ntmps31
   go_wp2
   go_loopw [5,6] (fun s i wr=>s=.bool false∧Below w.heap.size w wr) (fun _ _ _=>0)
   case atStart=>exact ⟨rfl,Below.refl _ _⟩
   case round =>
     obtain ⟨rfl,hbw⟩:=hrel
     go_wp2
     go_ret
     exact ⟨ret_bool HE.out.symm,hbw⟩
def u64ok (s:Int):Prop:=0≤s∧s < 18446744073709551616
theorem u64_wrap (n:Int):u64ok (IntKind.u64.wrap n):=by
 unfold u64ok IntKind.wrap
 simp [IntKind.signed,IntKind.bits]
 omega
theorem u64_bits (a b:Int):u64ok (bits .xor .u64 a b):=by unfold bits;exact u64_wrap _
theorem Mem.callC {w0 w w':World} {ex:Nat→Prop} {L L':List (Nat×BA)} {g:Nat} {cs cs':List Value} (M:Mem w0 ex w L) (hu:Upd L g (.cells cs) (.cells cs') L') (h:w.grownBy w' (some g)) (hp:Bk w' g cs'.toArray):Mem w0 ex w' L':=M.callW hu h hp
def PotPost (bp:Nat) (R:Int→Prop) (k:IntKind) (w:World) (e:Ending) (w':World):Prop :=
 ∃ n s:Int,R n∧u64ok s∧e=.returned (.int k n)∧w.grownBy w' (some bp)∧Bk w' bp #[.int .u64 s]
theorem step_any (s:Int) (bp:Nat) (w:World) (hp:Bk w bp #[.int .u64 s]) :
  Calls Try.prog 74 #[Zj bp] w (PotPost bp u64ok .u64 w):=by
 have M:=Mem.initEx (p:=.cells [.int .u64 s]) hp
 clear hp
 go_enter Try.func74,Try.ntmps74
 refine m_start M ?_
 clear M
 intro wc M
 go_wp2_with (first | (refine Zm1 M rfl rfl rfl ?_) | (refine Zm2 M rfl rfl rfl ?_) | (refine Zm3 M rfl rfl rfl ?_;clear M;(try clear wc);intro wc M) | (refine m_al M rfl rfl ?_;clear M;(try clear wc);intro g wc M) | (refine Zm4 M rfl rfl ?_;clear M;(try clear wc);intro g wc M))
 go_ret
 exact ⟨_,_,u64_bits _ _,u64_wrap _,Z,M.grown,M.get (by (repeat' (first | exact Zz2 | refine Zz1 ?_)))⟩
theorem upto_any (s:Int) (bp:Nat) (most:Int) (w:World) (hm:most≤1000000) (hm0:0≤most) (hp:Bk w bp #[.int .u64 s]) (hs:u64ok s) :
  Calls Try.prog 19 #[Zj bp,Zi most] w (PotPost bp (fun n=>0≤n∧n≤most) .i64 w):=by
 have M:=Mem.initEx (p:=.cells [.int .u64 s]) hp
 have HS:=Lib.hid hs
 clear hp hs
 by_cases h1:most < 1
 ·go_enter Try.func19,Try.ntmps19
  refine m_start M ?_
  clear M
  intro wc M
  go_wp2_with (first | (refine Zm1 M rfl rfl rfl ?_) | (refine Zm2 M rfl rfl rfl ?_) | (refine Zm3 M rfl rfl rfl ?_;clear M;(try clear wc);intro wc M) | (refine m_al M rfl rfl ?_;clear M;(try clear wc);intro g wc M) | (refine Zm4 M rfl rfl ?_;clear M;(try clear wc);intro g wc M))
  go_ret
  exact ⟨0,s,⟨by omega,by omega⟩,HS.out,Z,M.grown,M.get (by (repeat' (first | exact Zz2 | refine Zz1 ?_)))⟩
 ·go_enter Try.func19,Try.ntmps19
  refine m_start M ?_
  clear M
  intro wc M
  go_wp2_with (first | (refine Zm1 M rfl rfl rfl ?_) | (refine Zm2 M rfl rfl rfl ?_) | (refine Zm3 M rfl rfl rfl ?_;clear M;(try clear wc);intro wc M) | (refine m_al M rfl rfl ?_;clear M;(try clear wc);intro g wc M) | (refine Zm4 M rfl rfl ?_;clear M;(try clear wc);intro g wc M) | (go_at_call 74;refine (step_any s bp _ (M.get (by (repeat' (first | exact Zz2 | refine Zz1 ?_))))).mono ?_;rintro e wc ⟨v,s',hv,hs',rfl,hgr,hb⟩;have HV:=Lib.hid hv;have HS':=Lib.hid hs';have v0:0≤v:=hv.1;clear hv hs';replace M:=M.callC (cs':=[.int .u64 s']) (by (repeat (first | exact Upd.head | apply Upd.tail))) hgr hb;clear hgr hb))
  go_ret
  have r0:0≤v / 2048 % (most+1):=Int.emod_nonneg _ (by omega)
  have r1:v / 2048 % (most+1) < most+1:=Int.emod_lt_of_pos _ (by omega)
  generalize v / 2048 % (most+1)=rr at *
  have e:wrap64 rr=rr:=IntWalk.wrap64_in rr (by omega)
  rw [e]
  exact ⟨rr,s',⟨r0,by omega⟩,HS'.out,Z,M.grown,M.get (by (repeat' (first | exact Zz2 | refine Zz1 ?_)))⟩
theorem within_pot (s:Int) (bp:Nat) (lo hi:Int) (w:World) (hl : -1000≤lo) (hh:hi≤1000) (hlh:lo≤hi) (hp:Bk w bp #[.int .u64 s]) (hs:u64ok s) :
  Calls Try.prog 20 #[Zj bp,Zi lo,Zi hi] w (PotPost bp (fun n=>lo≤n∧n≤hi) .i64 w):=by
 have M:=Mem.initEx (p:=.cells [.int .u64 s]) hp
 have HS:=Lib.hid hs
 clear hp hs
 go_enter Try.func20,Try.ntmps20
 refine m_start M ?_
 clear M
 intro wc M
 go_wp2_with (first | (refine Zm1 M rfl rfl rfl ?_) | (refine Zm2 M rfl rfl rfl ?_) | (refine Zm3 M rfl rfl rfl ?_;clear M;(try clear wc);intro wc M) | (refine m_al M rfl rfl ?_;clear M;(try clear wc);intro g wc M) | (refine Zm4 M rfl rfl ?_;clear M;(try clear wc);intro g wc M) | (go_at_call 19;refine (upto_any s bp (hi - lo) _ (by omega) (by omega) (M.get (by (repeat' (first | exact Zz2 | refine Zz1 ?_)))) HS.out).mono ?_;rintro e wc ⟨v,s,hv,hs,rfl,hgr,hb⟩;have HS:=Lib.hid hs;clear hs;replace M:=M.callC (cs':=[.int .u64 s]) (by (repeat (first | exact Upd.head | apply Upd.tail))) hgr hb;clear hgr hb;skip))
 go_ret
 exact ⟨_,_,⟨by omega,by omega⟩,HS.out,Z,M.grown,M.get (by (repeat' (first | exact Zz2 | refine Zz1 ?_)))⟩
theorem three {v:Int} (h:0≤v∧v≤2):v=0∨v=1∨v=2:=by omega
theorem of_pot (s:Int) (bp g:Nat) (a b c:Int) (w:World) (hg:g≠bp) (hl:Bk w g #[Zi a,Zi b,Zi c]) (hp:Bk w bp #[.int .u64 s]) (hs:u64ok s) :
  Calls Try.prog 101 #[Zj bp,.slice (some ⟨g,0,none⟩) 3 3] w (PotPost bp (fun n=>n=a∨n=b∨n=c) .i64 w):=by
 have M:=Mem.initEx (p:=.cells [.int .u64 s]) hp
 have HS:=Lib.hid hs
 have HL:=Lib.hid hl
 clear hp hs hl
 go_enter Try.func101,Try.ntmps101
 refine m_start M ?_
 clear M
 intro wc M
 go_wp2_with (first | (refine Zm1 M rfl rfl rfl ?_) | (refine Zm2 M rfl rfl rfl ?_) | (refine Zm3 M rfl rfl rfl ?_;clear M;(try clear wc);intro wc M) | (refine m_al M rfl rfl ?_;clear M;(try clear wc);intro g wc M) | (refine Zm4 M rfl rfl ?_;clear M;(try clear wc);intro g wc M) | (refine lo_one (M.old HL.out hg) rfl rfl rfl (by rfl) ?_) | (go_at_call 19;refine (upto_any s bp 2 _ (by omega) (by omega) (M.get (by (repeat' (first | exact Zz2 | refine Zz1 ?_)))) HS.out).mono ?_;rintro e wc ⟨v,s,hv,hs,rfl,hgr,hb⟩;have HS:=Lib.hid hs;clear hs;replace M:=M.callC (cs':=[.int .u64 s]) (by (repeat (first | exact Upd.head | apply Upd.tail))) hgr hb;clear hgr hb;rcases three hv with rfl | rfl | rfl))
 all_goals
  go_ret
  exact ⟨_,_,by simp,HS.out,Z,M.grown,M.get (by (repeat' (first | exact Zz2 | refine Zz1 ?_)))⟩
def NearPost (bp:Nat) (n lo hi wd:Int) (w:World) (e:Ending) (w':World):Prop:=∃ x y s':Int,(lo≤x∧n - wd≤x∧x≤n∧n≤y∧y≤n+wd∧y≤hi)∧u64ok s'∧e=.returned (R2 x y)∧w.grownBy w' (some bp)∧Bk w' bp #[.int .u64 s']
theorem near_pot (s:Int) (bp:Nat) (n lo hi wd:Int) (w:World) (hl : -1000≤lo) (hh:hi≤1000) (h1:lo≤n) (h2:n≤hi) (hw0:0≤wd) (hw1:wd≤1000) (hp:Bk w bp #[.int .u64 s]) (hs:u64ok s) :
  Calls Try.prog 73 #[Zj bp,Zi n,Zi lo,Zi hi,Zi wd] w (NearPost bp n lo hi wd w):=by
 have M:=Mem.initEx (p:=.cells [.int .u64 s]) hp
 have HS:=Lib.hid hs
 clear hp hs
 go_enter Try.func73,Try.ntmps73
 refine m_start M ?_
 clear M
 intro wc M
 go_wp2_with (first | (refine Zm1 M rfl rfl rfl ?_) | (refine Zm2 M rfl rfl rfl ?_) | (refine Zm3 M rfl rfl rfl ?_;clear M;(try clear wc);intro wc M) | (refine m_al M rfl rfl ?_;clear M;(try clear wc);intro g wc M) | (refine Zm4 M rfl rfl ?_;clear M;(try clear wc);intro g wc M) | (refine absorb M ?_;intro M';clear M;(obtain ⟨M,-⟩:_∧True:=⟨M',trivial⟩);clear M';revert M;generalize World.alloc _ _=wn;generalize wc.heap.size=g;(try clear wc);intro M;(obtain ⟨wc,rfl⟩:∃ x:World,x=wn:=⟨_,rfl⟩)) | (go_at_call 19;refine (upto_any _ bp _ _ (by omega) (by omega) (M.get (by (repeat' (first | exact Zz2 | refine Zz1 ?_)))) HS.out).mono ?_;rintro e wc ⟨v,s,hv,hs,rfl,hgr,hb⟩;have HS:=Lib.hid hs;clear hs;replace M:=M.callC (cs':=[.int .u64 s]) (by (repeat (first | exact Upd.head | apply Upd.tail))) hgr hb;clear hgr hb;skip) | (go_at_call 20;refine (within_pot _ bp _ _ _ (by omega) (by omega) (by omega) (M.get (by (repeat' (first | exact Zz2 | refine Zz1 ?_)))) HS.out).mono ?_;rintro e wc ⟨v,s,hv,hs,rfl,hgr,hb⟩;have HS:=Lib.hid hs;clear hs;replace M:=M.callC (cs':=[.int .u64 s]) (by (repeat (first | exact Upd.head | apply Upd.tail))) hgr hb;clear hgr hb;skip) | (go_at_call 101;refine (of_pot _ bp _ _ _ _ _ (by have hnd:=M.nd;simp only [List.map_cons,List.map_nil,List.nodup_cons,Zx7,not_or] at hnd;omega) (M.get (by (repeat' (first | exact Zz2 | refine Zz1 ?_)))) (M.get (by (repeat' (first | exact Zz2 | refine Zz1 ?_)))) HS.out).mono ?_;rintro e wc ⟨v,s,hv,hs,rfl,hgr,hb⟩;have HS:=Lib.hid hs;clear hs;replace M:=M.callC (cs':=[.int .u64 s]) (by (repeat (first | exact Upd.head | apply Upd.tail))) hgr hb;clear hgr hb;skip))
 all_goals
  refine ret_M (t:=10) (ty:=23) M (by rfl) (by rfl) (by rfl) (by (repeat' (first | exact Zz2 | refine Zz1 ?_))) (by rfl) ?_
  refine ⟨_,_,s,⟨?_,?_,?_,?_,?_,?_⟩,HS.out,Z,M.grown,M.get (by (repeat' (first | exact Zz2 | refine Zz1 ?_)))⟩ <;> (split <;> omega)
theorem newPot_any (A:Option Addr) (n c:Nat) (l:List Int) (w:World) (hr:Rd w w.heap.size 1 A n (ic l)) (hn:n≤9223372036854775807) :
   Calls Try.prog 17 #[.slice A n c] w fun e w'=>∃ (bp:Nat) (s:Int),u64ok s∧e=.returned (Zj bp)∧Mem w noEx w' [(bp,.cells [.int .u64 s])]:=by
 have HR:=Lib.hid hr
 clear hr
 go_enter Try.func17,Try.ntmps17
 refine start noEx ?_
 intro wc M
 go_wp2_with (first | (refine Zm1 M rfl rfl rfl ?_) | (refine Zm2 M rfl rfl rfl ?_) | (refine Zm3 M rfl rfl rfl ?_;clear M;(try clear wc);intro wc M) | (refine m_al M rfl rfl ?_;clear M;(try clear wc);intro g wc M) | (refine Zm4 M rfl rfl ?_;clear M;(try clear wc);intro g wc M))
 rename_i K0 hK0
 go_loopw [4] (fun v wr=>∃ (k:Nat) (s:Int),k≤n∧v=Zi k∧Hid (u64ok s)∧Mem w noEx wr [(g,.cells [.int .u64 s])]) (fun v _=>n - (intOf v).toNat)
 case atStart=>exact ⟨0,_,by omega,rfl,by (show u64ok _;unfold u64ok;decide),M⟩
 case round =>
   clear M wc
   obtain ⟨k,s,hk,rfl,hs,M⟩:=hrel
   obtain ⟨wc,rfl⟩:∃ x:World,x=wr:=⟨_,rfl⟩
   by_cases hlt:k < n
   · obtain ⟨b,o,x,rfl,hbb,hd,d0⟩:=HR.out.at1 hlt
     clear hd
     have D0:=Lib.hid d0
     clear d0
     have i0:(0:Int)≤(k:Int):=by omega
     have i1:(k:Int) < (n:Int):=by omega
     go_wp2
     refine wp_region_G (fun L W=>(L.getD 14 true=false→Mem w noEx W [(g,.cells [.int .u64 s])])∧(L.getD 14 true=true→∃ s1,u64ok s1∧Mem w noEx W [(g,.cells [.int .u64 s1])])) 15 (by kernel_rfl) (by kernel_rfl) ?s0 ?r0
     case s0=>(exact ⟨fun _=>M.drew,fun h=>(no_of h (by kernel_rfl)).elim⟩)
     intro W0
     refine ZT 0 Z ?r1
     (try simp only [Act.put,Zz3,Zz4,Zz5,Zz6,Zz7,Zz8])
     refine ZT 1 Z ?r2
     (try simp only [Act.put,Zz3,Zz4,Zz5,Zz6,Zz7,Zz8])
     refine ZT 2 Z ?r3
     (try simp only [Act.put,Zz3,Zz4,Zz5,Zz6,Zz7,Zz8])
     refine ZT 3 Z ?r4
     (try simp only [Act.put,Zz3,Zz4,Zz5,Zz6,Zz7,Zz8])
     refine wpG_take (i:=4) (v:=?v5) Z (by kernel_rfl) (by intro L w;simp only [getD_set_ne true (show (4:Nat)≠14 from by decide)]) (fun _ _ _ h=>h) (Or.inl ⟨by rfl,?y5⟩) ?r5
     case y5=>(intro w' hy;obtain ⟨L,hD,hl,hS⟩:=hy;have M0:=hS.1 (hD.wait (by kernel_rfl) hl);clear hS;first | (refine Eq.trans (Zro (Mem.get M0 (by (repeat' (first | exact Zz2 | refine Zz1 ?_)))) rfl rfl (by rfl)) ?_;with_reducible rfl) | (refine Eq.trans (rn_row (Mem.get M0 (by (repeat' (first | exact Zz2 | refine Zz1 ?_)))) rfl rfl (by (try simp only [Zy2,List.take_zero,List.take_nil,Zy1,List.drop_zero,List.drop_nil,Zx6,Zx5,Zx4,Zx1,Zx2,Nat.reduceAdd,Zxa,Zx0]);rfl) (by rfl)) ?_;with_reducible rfl);(try with_reducible rfl))
     (try simp only [Act.put,Zz3,Zz4,Zz5,Zz6,Zz7,Zz8])
     refine ZT 5 Z ?r6
     (try simp only [Act.put,Zz3,Zz4,Zz5,Zz6,Zz7,Zz8])
     refine ZT 6 Z ?r7
     (try simp only [Act.put,Zz3,Zz4,Zz5,Zz6,Zz7,Zz8])
     refine ZT 7 Z ?r8
     (try simp only [Act.put,Zz3,Zz4,Zz5,Zz6,Zz7,Zz8])
     refine wpG_take (i:=8) (v:=?v9) Z (by kernel_rfl) (by intro L w;simp only [getD_set_ne true (show (8:Nat)≠14 from by decide)]) (fun _ _ _ h=>h) (Or.inl ⟨by rfl,?y9⟩) ?r9
     case y9=>(intro w' hy;obtain ⟨L,hD,hl,hS⟩:=hy;have M0:=hS.1 (hD.wait (by kernel_rfl) hl);clear hS hD hl;have cc:w'.cell? ⟨b,o+k,none⟩=some (Zi x):=(World.cell?_of_block (w:=w) (a:=⟨b,o+k,none⟩) (M0.block b hbb (fun h=>h))).trans D0.out;clear M0;go_simp;(try with_reducible rfl))
     (try simp only [Act.put,Zz3,Zz4,Zz5,Zz6,Zz7,Zz8])
     refine ZT 9 Z ?r10
     (try simp only [Act.put,Zz3,Zz4,Zz5,Zz6,Zz7,Zz8])
     refine ZT 10 Z ?r11
     (try simp only [Act.put,Zz3,Zz4,Zz5,Zz6,Zz7,Zz8])
     refine ZT 11 Z ?r12
     (try simp only [Act.put,Zz3,Zz4,Zz5,Zz6,Zz7,Zz8])
     refine ZT 12 Z ?r13
     (try simp only [Act.put,Zz3,Zz4,Zz5,Zz6,Zz7,Zz8])
     refine ZT 13 Z ?r14
     (try simp only [Act.put,Zz3,Zz4,Zz5,Zz6,Zz7,Zz8])
     refine wpG_step (i:=14) (by kernel_rfl) Z (by rfl) ?r15
     intro hS K hK
     (have M0:=hS.1 (by kernel_rfl);clear hS;refine m_stw M0 rfl rfl (by first | exact (rfl:_=Value.agg _) | exact (rfl:_=Value.int _ _) | exact (rfl:_=Value.bool _) | exact (rfl:_=Value.slice _ _ _) | exact (rfl:_=Value.pointer _) | exact (rfl:_=Value.map _) | exact (rfl:_=Value.func _ _ _) | exact (rfl:_=Value.string _)) (by rfl) (by (repeat (first | exact Upd.head | apply Upd.tail))) (by (try simp only [Zy2,List.take_zero,List.take_nil,Zy1,List.drop_zero,List.drop_nil,Zx6,Zx5,Zx4,Zx1,Zx2,Nat.reduceAdd,Zxa,Zx0]);rfl) (by simp) (by simp [Value.oneCell']) (by kernel_rfl) ?_;intro V2 M2;refine hK.out _ _ ⟨fun h=>(no_of (by kernel_rfl) h).elim,fun _=>⟨_,u64_wrap _,M2⟩⟩ ?_;clear M0 M2)
     clear hK K;intro W15
     (try simp only [Act.put,Zz3,Zz4,Zz5,Zz6,Zz7,Zz8])
     refine wpG_end (by kernel_rfl) ?_
     intro W
      hS
     obtain ⟨s2,hs2,M⟩:=hS.2 (by kernel_rfl)
     have HS2:=Lib.hid hs2
     clear hS hs2
     obtain ⟨wc,rfl⟩:∃ x:World,x=W:=⟨_,rfl⟩
     go_wp2
     refine wp_region_G (fun L W=>(L.getD 13 true=false→Mem w noEx W [(g,.cells [.int .u64 s2])])∧(L.getD 13 true=true→∃ s1,u64ok s1∧Mem w noEx W [(g,.cells [.int .u64 s1])])) 14 (by kernel_rfl) (by kernel_rfl) ?s0b ?r0b
     case s0b=>(exact ⟨fun _=>M.drew,fun h=>(no_of h (by kernel_rfl)).elim⟩)
     intro W0
     refine ZT 0 Z ?r1b
     (try simp only [Act.put,Zz3,Zz4,Zz5,Zz6,Zz7,Zz8])
     refine ZT 1 Z ?r2b
     (try simp only [Act.put,Zz3,Zz4,Zz5,Zz6,Zz7,Zz8])
     refine ZT 2 Z ?r3b
     (try simp only [Act.put,Zz3,Zz4,Zz5,Zz6,Zz7,Zz8])
     refine ZT 3 Z ?r4b
     (try simp only [Act.put,Zz3,Zz4,Zz5,Zz6,Zz7,Zz8])
     refine wpG_take (i:=4) (v:=?v5b) Z (by kernel_rfl) (by intro L w;simp only [getD_set_ne true (show (4:Nat)≠13 from by decide)]) (fun _ _ _ h=>h) (Or.inl ⟨by rfl,?y5b⟩) ?r5b
     case y5b=>(intro w' hy;obtain ⟨L,hD,hl,hS⟩:=hy;have M0:=hS.1 (hD.wait (by kernel_rfl) hl);clear hS;first | (refine Eq.trans (Zro (Mem.get M0 (by (repeat' (first | exact Zz2 | refine Zz1 ?_)))) rfl rfl (by rfl)) ?_;with_reducible rfl) | (refine Eq.trans (rn_row (Mem.get M0 (by (repeat' (first | exact Zz2 | refine Zz1 ?_)))) rfl rfl (by (try simp only [Zy2,List.take_zero,List.take_nil,Zy1,List.drop_zero,List.drop_nil,Zx6,Zx5,Zx4,Zx1,Zx2,Nat.reduceAdd,Zxa,Zx0]);rfl) (by rfl)) ?_;with_reducible rfl);(try with_reducible rfl))
     (try simp only [Act.put,Zz3,Zz4,Zz5,Zz6,Zz7,Zz8])
     refine ZT 5 Z ?r6b
     (try simp only [Act.put,Zz3,Zz4,Zz5,Zz6,Zz7,Zz8])
     refine ZT 6 Z ?r7b
     (try simp only [Act.put,Zz3,Zz4,Zz5,Zz6,Zz7,Zz8])
     refine ZT 7 Z ?r8b
     (try simp only [Act.put,Zz3,Zz4,Zz5,Zz6,Zz7,Zz8])
     refine wpG_take (i:=8) (v:=?v9b) Z (by kernel_rfl) (by intro L w;simp only [getD_set_ne true (show (8:Nat)≠13 from by decide)]) (fun _ _ _ h=>h) (Or.inl ⟨by rfl,?y9b⟩) ?r9b
     case y9b=>(intro w' hy;obtain ⟨L,hD,hl,hS⟩:=hy;have M0:=hS.1 (hD.wait (by kernel_rfl) hl);clear hS;first | (refine Eq.trans (Zro (Mem.get M0 (by (repeat' (first | exact Zz2 | refine Zz1 ?_)))) rfl rfl (by rfl)) ?_;with_reducible rfl) | (refine Eq.trans (rn_row (Mem.get M0 (by (repeat' (first | exact Zz2 | refine Zz1 ?_)))) rfl rfl (by (try simp only [Zy2,List.take_zero,List.take_nil,Zy1,List.drop_zero,List.drop_nil,Zx6,Zx5,Zx4,Zx1,Zx2,Nat.reduceAdd,Zxa,Zx0]);rfl) (by rfl)) ?_;with_reducible rfl);(try with_reducible rfl))
     (try simp only [Act.put,Zz3,Zz4,Zz5,Zz6,Zz7,Zz8])
     refine ZT 9 Z ?r10b
     (try simp only [Act.put,Zz3,Zz4,Zz5,Zz6,Zz7,Zz8])
     refine ZT 10 Z ?r11b
     (try simp only [Act.put,Zz3,Zz4,Zz5,Zz6,Zz7,Zz8])
     refine ZT 11 Z ?r12b
     (try simp only [Act.put,Zz3,Zz4,Zz5,Zz6,Zz7,Zz8])
     refine ZT 12 Z ?r13b
     (try simp only [Act.put,Zz3,Zz4,Zz5,Zz6,Zz7,Zz8])
     refine wpG_step (i:=13) (by kernel_rfl) Z (by rfl) ?r14b
     intro hS K hK
     (have M0:=hS.1 (by kernel_rfl);clear hS;refine m_stw M0 rfl rfl (by first | exact (rfl:_=Value.agg _) | exact (rfl:_=Value.int _ _) | exact (rfl:_=Value.bool _) | exact (rfl:_=Value.slice _ _ _) | exact (rfl:_=Value.pointer _) | exact (rfl:_=Value.map _) | exact (rfl:_=Value.func _ _ _) | exact (rfl:_=Value.string _)) (by rfl) (by (repeat (first | exact Upd.head | apply Upd.tail))) (by (try simp only [Zy2,List.take_zero,List.take_nil,Zy1,List.drop_zero,List.drop_nil,Zx6,Zx5,Zx4,Zx1,Zx2,Nat.reduceAdd,Zxa,Zx0]);rfl) (by simp) (by simp [Value.oneCell']) (by kernel_rfl) ?_;intro V2 M2;refine hK.out _ _ ⟨fun h=>(no_of (by kernel_rfl) h).elim,fun _=>⟨_,u64_bits _ _,M2⟩⟩ ?_;clear M0 M2)
     clear hK K;intro W14
     (try simp only [Act.put,Zz3,Zz4,Zz5,Zz6,Zz7,Zz8])
     refine wpG_end (by kernel_rfl) ?_
     intro W
      hS
     obtain ⟨s3,hs3,M⟩:=hS.2 (by kernel_rfl)
     have HS3:=Lib.hid hs3
     clear hS hs3
     go_wp2
     go_roundw
     case rel=>exact ⟨k+1,s3,by omega,by go_num,HS3,M⟩
     case measure=>simp [intOf];omega
   · go_wp2_with (first | (refine Zm1 M rfl rfl rfl ?_) | (refine Zm2 M rfl rfl rfl ?_) | (refine Zm3 M rfl rfl rfl ?_;clear M;(try clear wc);intro wc M) | (refine m_al M rfl rfl ?_;clear M;(try clear wc);intro g wc M) | (refine Zm4 M rfl rfl ?_;clear M;(try clear wc);intro g wc M))
     go_ret
     exact ⟨g,s,hs.out,Z,M⟩
def Sl (e size:Nat) (v:Value) (n:Nat) (xs:List Value) (I:List (Nat×BA)):Prop :=
 (v=.slice none 0 0∧n=0∧xs=[]∧I=[])∨∃ g cap,v=.slice (some ⟨g,0,none⟩) n cap∧I=[(g,.row e size n xs cap)]
theorem Sl.nil (e size:Nat):Sl e size (.slice none 0 0) 0 [] []:=.inl ⟨rfl,rfl,rfl,rfl⟩
section
variable {w0 w w':World} {ex:Nat→Prop} {L I:List (Nat×BA)} {e size n:Nat} {v:Value} {xs:List Value}
theorem own_rebase {base g cap:Nat} (h:w.ownsRow base e size (.slice (some ⟨g,0,none⟩) n cap) n xs) (hn:0 < n):BA.holds w g (.row e size n xs cap):=by
 refine ⟨⟨h.1,?_⟩,hn⟩
 rcases h.2 with ⟨h2,_⟩ | ⟨g',c',cur,h2,_,hg,hr⟩
 ·cases h2
 ·injection h2 with h2 _ hc
  injection h2 with h2
  injection h2 with h2 _ _
  subst h2
  exact .inr ⟨g,c',cur,by rw [hc],Nat.le_refl _,hg,hr⟩
theorem Sl.row (e size g n:Nat) (xs:List Value) (cap:Nat):Sl e size (.slice (some ⟨g,0,none⟩) n cap) n xs [(g,.row e size n xs cap)]:=.inr ⟨g,cap,rfl,rfl⟩
theorem app_wp {P : Program} {o : Oper} {a : Act} {K : Act → World → Prop} {Q : Exit → Act → World → Prop} {s x : Operand} {t : TypeId} {z : Value} {bytes b c : Nat} {cs : List Value}
   (ht:P.underlying t=some (.slice e)) (hinfo:(P.info? e).map (fun i=>(i.zero,i.size,i.bytes))=some (some z,size,bytes)) (hzs:z.cells.size=size) (hsz:0 < size) (hby:bytes≤1000)
   (M:Mem w0 ex w (I++L)) (hS:Sl e size v n xs I) (hn:n≤1000000)
   (ho:o.op=.call { callee:=.builtin .append,args:=#[s,x],argTypes:=#[t,t] }) (hs:a.eval s=v) (hx:a.eval x=.slice (some ⟨b,0,none⟩) 1 c) (hm:(b,BA.cells cs)∈L) (hl:cs.length=size) (h1:cs.all (·.oneCell')=true)
   (h:∀ g cap w',Mem w0 ex w' ((g,.row e size (n+1) (xs++cs) cap)::L)→K (a.put o.dst (.slice (some ⟨g,0,none⟩) (n+1) cap)) w'):o.wp P a w K Q:=by
 obtain ⟨i,hi,hz0,hz1,hz2⟩:=info_parts hinfo
 have hb:Bk w b cs.toArray:=M.get (List.mem_append_right _ hm)
 have hnews:∀ j u,cs[j]? = some u→w.cell? ((⟨b,0,none⟩:Addr).add j)=some u:=fun j u hu=>by
   rw [Addr.add_mid,hb.cell,Zxa];simpa using hu
 have h1':∀ u∈cs,u.oneCell'=true:=fun u hu=>List.all_eq_true.1 h1 u hu
 have hbb:(n+1) * bytes≤140737488355328:=by
   have:(n+1) * bytes≤1000001 * 1000:=Nat.mul_le_mul (by omega) hby
   omega
 rcases hS with ⟨rfl,rfl,rfl,rfl⟩ | ⟨g0,cap0,rfl,rfl⟩
 · refine wp_append_lies w s x t ho w.heap.size e i z size bytes ht hi hz0 hz1 hz2 hzs hsz (.slice none 0 0) 0 [] hs ⟨by simp,.inl ⟨rfl,Z⟩⟩ ⟨b,0,none⟩ 1 c cs hx (by omega) hnews h1' (by omega) (by unfold maxLen;omega) (by simpa using hbb) (Nat.le_refl _) w.heap.size Z ?_
   intro g cap w' hown hgr hat hlt
   have hg:g=w.heap.size:=by
     rcases hat with h | h
     · cases h
     · exact h
   have M1:Mem w0 ex w' L:=M.call ⟨hgr.os,hgr.tape,hgr.output,hgr.size,fun k hk=>hgr.block k hk (fun e=>by cases e)⟩
   exact h g cap w' (M1.add (by rw [hg];exact M.size) (own_rebase hown (by omega)) (fun q hq e=>by have:=BA.lt (M.blk q hq).2;omega))
 · have hrow:=(M.blk (g0,.row e size n xs cap0) (by simp)).2
   have hnp:0 < n:=hrow.2
   refine wp_append_lies w s x t ho g0 e i z size bytes ht hi hz0 hz1 hz2 hzs hsz _ n xs hs hrow.1 ⟨b,0,none⟩ 1 c cs hx (by omega) hnews h1' (by omega) (by unfold maxLen;omega) hbb (Nat.le_of_lt (BA.lt hrow)) w.heap.size Z ?_
   intro g cap w' hown hgr hat hlt
   have hgr:w.grownBy w' (some g0):=hgr
   rcases hat with h2 | h2
   · have h2:some g0=some g:=h2
     injection h2 with h2
     subst h2
     exact h g0 cap w' (M.callW (L':=(g0,.row e size (n+1) (xs++cs) cap)::L) .head hgr (own_rebase hown (by omega)))
   · have M1:=M.callW (L':=(g0,.any (fun _=>True))::L) .head hgr (by
       have hl0:g0 < w'.heap.size:=Nat.lt_of_lt_of_le (BA.lt hrow) hgr.size
       exact ⟨w'.heap[g0],Array.getElem?_eq_getElem hl0,trivial⟩)
     exact h g cap w' (M1.forget.add (by rw [h2];exact M.size) (own_rebase hown (by omega)) (fun q hq e=>by have:=BA.lt (M.blk q (List.mem_append_right _ hq)).2;omega))
end
open Go.RowKit
open Go.RowKit
open Go.RowKit
open Go.RowKit
open Go.RowKit
section
variable {w wr w5 w6:World} {T k m:Nat} {v5 v6:Value} {xs ys:List Value} {z m3 cx:Array Value} {H:Nat} {Y Zq:Obj}
end
open Go.RowKit
open Go.RowKit
open Go.RowKit
theorem Sp.oldEx {w:World} {size n bp:Nat} {A:Option Addr} {xs:List Value} (h:Rd w w.heap.size size A n xs) (hne:∀ b o,A=some ⟨b,o,none⟩→b≠bp):∃ b o,Sp w (fun b=>b=bp) [] A n size b o xs:=by
 rcases Nat.eq_zero_or_pos n with rfl | hn
 ·refine ⟨0,0,by omega,h.1,fun _ _ _ _ h=>absurd h (by omega),fun _ _ _ _ j u hu=>?_⟩
  have:xs=[]:=List.eq_nil_of_length_eq_zero (by have:=h.1;omega)
  simp [this] at hu
 ·obtain ⟨b,o,h1,h2,h3⟩:=h.2 hn
  exact ⟨b,o,fun _=>h1,h.1,fun w' L M _ _=>Nat.lt_of_lt_of_le h2 M.size,fun w' L M _ j u hu=>(World.cell?_of_block (w:=w) (a:=⟨b,o+j,none⟩) (M.block b h2 (hne b o h1))).trans (h3 j u hu)⟩
theorem ow_app {P : Program} {op : Oper} {a : Act} {K : Act → World → Prop} {Q : Exit → Act → World → Prop} {s x : Operand} {ty e size bytes b c m nn t' : Nat} {z : Value} {cs xs : List Value} {v : Value} {w0 w : World} {ex : Nat → Prop} {L0 I : List (Nat × BA)} {E : List (Nat × Value)} (L1 : List (Nat × BA))
   (hinfo:(P.info? e).map (fun i=>(i.zero,i.size,i.bytes))=some (some z,size,bytes)) (hS:Sl e size v m xs I) (M:Mem w0 ex w L0) (hsp:L0=L1++I) (T:Tm a nn E)
   (ho:op.op=.call { callee:=.builtin .append,args:=#[s,x],argTypes:=#[ty,ty] }) (hd:op.dst=some t') (hf:freshE E t'=true) (hnn:Nat.blt t' nn=true)
   (ht:P.underlying ty=some (.slice e)) (hzs:z.cells.size=size) (hsz:Nat.blt 0 size=true) (hby:Nat.ble bytes 1000=true) (hm:m≤1000000)
   (hs:a.eval s=v) (hx:a.eval x=.slice (some ⟨b,0,none⟩) 1 c) (hmem:(b,BA.cells cs)∈L1) (hl:cs.length=size) (h1:cs.all (·.oneCell')=true)
   (h:∀ g cap w' a',Mem w0 ex w' ((g,.row e size (m+1) (xs++cs) cap)::L1)→Tm a' nn ((t',.slice (some ⟨g,0,none⟩) (m+1) cap)::E)→K a' w'):op.wp P a w K Q:=by
 subst hsp
 exact app_wp ht hinfo hzs (Nat.le_of_ble_eq_true hsz) (Nat.le_of_ble_eq_true hby) (Mem.swapI (I:=L1) (L:=I) M) hS hm ho hs hx hmem hl h1 fun g cap w' M'=>h g cap w' _ M' (by rw [hd];exact T.put hnn hf _)
theorem Try.info23:(Try.prog.info? 23).map (fun i=>(i.zero,i.size,i.bytes))=some (some (.agg #[Zi 0,Zi 0]),2,16):=by kernel_rfl
theorem Try.info3:(Try.prog.info? 3).map (fun i=>(i.zero,i.size,i.bytes))=some (some (Zi 0),1,8):=by kernel_rfl
theorem rc_snoc (l:List (Int×Int)) (x y:Int):rc l++[Zi x,Zi y]=rc (l++[(x,y)]):=by rw [rc_append];rfl
structure Nt where
 sec:Int
 lo:Int
 hi:Int
 rest:Bool
def lkcE (p:Lk):List Value:=[.slice p.A p.op.length p.c,Zi p.sec,Zi p.lo,Zi p.hi]
theorem lkc_length (l:List Lk):(lkc l).length=l.length * 4:=by
 induction l with
 | nil=>rfl
 | cons x l ih =>
  show (lkcE x++lkc l).length=_
  rw [Zx3,ih,Zx1]
  show 4+_=_
  omega
theorem lkc_get:∀ (l:List Lk) (k:Nat) {x:Lk},l[k]? = some x→∀ (i:Nat) (v:Value),(lkcE x)[i]? = some v→(lkc l)[k * 4+i]? = some v
 | [],k,x,h=>by simp at h
 | y::l,0,x,h=>by
  intro i v hv
  simp only [List.getElem?_cons_zero,Option.some.injEq] at h
  subst h
  show (lkcE y++lkc l)[0 * 4+i]? = some v
  rw [Nat.zero_mul,Zxa,List.getElem?_append_left (List.getElem?_eq_some_iff.1 hv).1]
  exact hv
 | y::l,k+1,x,h=>by
  intro i v hv
  have:=lkc_get l k (by simpa using h) i v hv
  show (lkcE y++lkc l)[(k+1) * 4+i]? = some v
  have e:(lkcE y).length=4:=rfl
  rw [List.getElem?_append_right (by rw [e];omega),e,show (k+1) * 4+i - 4=k * 4+i by omega]
  exact this
theorem lkc_snoc (l:List Lk) (p:Lk):lkc l++[.slice p.A p.op.length p.c,Zi p.sec,Zi p.lo,Zi p.hi]=lkc (l++[p]):=by simp [lkc,lkcE]
theorem lkc_next {l:List Lk} {k:Nat} (h:k < l.length):∃ x,l[k]? = some x∧l.drop k=x::l.drop (k+1):=⟨l[k],List.getElem?_eq_getElem h,List.drop_eq_getElem_cons h⟩
section
variable {w w':World} {ex:Nat→Prop} {I L:List (Nat×BA)} {n b o k:Nat} {A:Option Addr} {l:List Lk} {p:Lk}
theorem Sp.lkcA (S:Sp w ex I A n 4 b o (lkc l)) (M:Mem w ex w' L) (hI:I.Sublist L) (h:l[k]? = some p) (f:Nat) (v:Value) (hv:(lkcE p)[f]? = some v):w'.cell? ⟨b,o+k * 4+f,none⟩=some v:=by
 have:=S.cell w' L M hI _ _ (lkc_get l k h f v hv)
 rwa [← Nat.add_assoc] at this
theorem Sp.lkcR (S:Sp w ex I A n 4 b o (lkc l)) (M:Mem w ex w' L) (hI:I.Sublist L) (h:l[k]? = some p):w'.rangeAt b (o+k * 4) [.slice p.A p.op.length p.c,Zi p.sec,Zi p.lo,Zi p.hi]:=fun j v hv=>S.lkcA M hI h j v hv
end
def ntcE (p:Nt):List Value:=[Zi p.sec,Zi p.lo,Zi p.hi,.bool p.rest]
def ntc (l:List Nt):List Value:=l.flatMap ntcE
theorem ntc_length (l:List Nt):(ntc l).length=l.length * 4:=by
 induction l with
 | nil=>rfl
 | cons x l ih =>
  show (ntcE x++ntc l).length=_
  rw [Zx3,ih,Zx1]
  show 4+_=_
  omega
theorem ntc_get:∀ (l:List Nt) (k:Nat) {x:Nt},l[k]? = some x→∀ (i:Nat) (v:Value),(ntcE x)[i]? = some v→(ntc l)[k * 4+i]? = some v
 | [],k,x,h=>by simp at h
 | y::l,0,x,h=>by
  intro i v hv
  simp only [List.getElem?_cons_zero,Option.some.injEq] at h
  subst h
  show (ntcE y++ntc l)[0 * 4+i]? = some v
  rw [Nat.zero_mul,Zxa,List.getElem?_append_left (List.getElem?_eq_some_iff.1 hv).1]
  exact hv
 | y::l,k+1,x,h=>by
  intro i v hv
  have:=ntc_get l k (by simpa using h) i v hv
  show (ntcE y++ntc l)[(k+1) * 4+i]? = some v
  have e:(ntcE y).length=4:=rfl
  rw [List.getElem?_append_right (by rw [e];omega),e,show (k+1) * 4+i - 4=k * 4+i by omega]
  exact this
theorem ntc_snoc (l:List Nt) (p:Nt):ntc l++[Zi p.sec,Zi p.lo,Zi p.hi,.bool p.rest]=ntc (l++[p]):=by simp [ntc,ntcE]
theorem ntc_next {l:List Nt} {k:Nat} (h:k < l.length):∃ x,l[k]? = some x∧l.drop k=x::l.drop (k+1):=⟨l[k],List.getElem?_eq_getElem h,List.drop_eq_getElem_cons h⟩
section
variable {w w':World} {ex:Nat→Prop} {I L:List (Nat×BA)} {n b o k:Nat} {A:Option Addr} {l:List Nt} {p:Nt}
theorem Sp.ntcA (S:Sp w ex I A n 4 b o (ntc l)) (M:Mem w ex w' L) (hI:I.Sublist L) (h:l[k]? = some p) (f:Nat) (v:Value) (hv:(ntcE p)[f]? = some v):w'.cell? ⟨b,o+k * 4+f,none⟩=some v:=by
 have:=S.cell w' L M hI _ _ (ntc_get l k h f v hv)
 rwa [← Nat.add_assoc] at this
theorem Sp.ntcR (S:Sp w ex I A n 4 b o (ntc l)) (M:Mem w ex w' L) (hI:I.Sublist L) (h:l[k]? = some p):w'.rangeAt b (o+k * 4) [Zi p.sec,Zi p.lo,Zi p.hi,.bool p.rest]:=fun j v hv=>S.ntcA M hI h j v hv
theorem Sp.ntcC3 (S:Sp w ex I A n 4 b o (ntc l)) (M:Mem w ex w' L) (hI:I.Sublist L) (h:l[k]? = some p):w'.cell? ⟨b,o+k * 4+3,none⟩=some (.bool p.rest):=S.ntcA M hI h 3 _ rfl
end
def leP:Option Int→Int→Bool
 | some q,c=>decide (c≤q)
 | none,_=>false
def opE (n:Int):List Int→Option Int→Int
 | [],_=>0
 | c::r,p=>if withinB c 0 (n - 1)=false then 3 else if leP p c=true then 5 else opE n r (some c)
def prevE (op:List Int) (k:Nat):Option Int:=if k=0 then none else some (op.getD (k - 1) 0)
theorem prevE_succ {op:List Int} {k:Nat} {c:Int} (h:op[k]? = some c):prevE op (k+1)=some c:=by
 unfold prevE
 rw [if_neg (by omega),Nat.add_sub_cancel,List.getD_eq_getElem?_getD,h]
 rfl
def tstE (n:Int) (t:Lk):Int:=if t.op.length=0 then 7 else if opE n t.op none≠0 then opE n t.op none else if withinB t.sec 1 20=false then 1 else chkR t.lo t.hi 0 400
def rngsE (hi:Int):List (Int×Int)→Int
 | []=>0
 | x::l=>if chkR x.1 x.2 0 hi=0 then rngsE hi l else chkR x.1 x.2 0 hi
def tstsE (n:Int):List Lk→Int
 | []=>0
 | t::l=>if tstE n t=0 then tstsE n l else tstE n t
def chkB (b:Bw):Int :=
 if withinB b.full 1 200=false then 1 else if chkR b.a0 b.a1 0 b.full≠0 then chkR b.a0 b.a1 0 b.full else if 4 < b.cs.length then 6 else if rngsE 5 b.cs≠0 then rngsE 5 b.cs
 else if 3 < b.ts.length then 6 else tstsE b.cs.length b.ts
def ntE (p:Nt):Int:=if withinB p.sec 1 20=false then 1 else chkR p.lo p.hi 0 9
def ntsE:List Nt→Int
 | []=>0
 | p::l=>if ntE p=0 then ntsE l else ntE p
def pieceE (l:List Nt):Int:=if 6 < l.length then 6 else ntsE l
theorem bin_any (n lo hi:Int) (w:World)  :
   Calls Try.prog 76 #[Zi n,Zi lo,Zi hi] w fun e w'=>e=.returned (.bool (withinB n lo hi))∧Below w.heap.size w w':=by
 refine Zpx noEx Try.func76 Z 15 Z [Zi n,Zi lo,Zi hi] Z Z (Mem.init w _) ?_
 intro ac wc T M
 refine Zsr ?_
 refine lq T (Zra Z evc) ?_;intro ac T
 replace T:=T.pick [1,2,3] rfl
 refine Zln ?_
 refine cut_seq (fun ac wc=>Tm ac 15 [(6,.bool ((decide (lo≤n)) && (decide (n≤hi))))]∧Mem w noEx wc []) ?_ ?_
 ·refine wp_region_lit ?_
  refine Zg4 T (Zq (Zrm Z (T.e 1 Z))) Z (Zm 1 Z Z) Z (fun _ T=>Zq (rn_leq Z (T.e 1 Z) (T.e 0 Z))) Z (Zm 0 Z Z) Z ?_;intro ac T
  rcases Zx9 (decide (lo≤n)) with h1 | h1
  ·replace h1:=of_decide_eq_true h1
   refine Zg5 T (Zw (Zwy Z Z (T.e 0 Z) (Zdt h1)) (Zrm Z (T.e 4 Z))) Z (fun _ T=>Zw (Zwy Z Z (T.e 1 Z) (Zdt h1)) (Zrm Z (T.e 7 Z))) Z (fun _ T=>Zw (Zwy Z Z (T.e 2 Z) (Zdt h1)) (rn_leq Z (T.e 1 Z) (T.e 0 Z))) Z (fun _ T=>Zq (Zr1 Z (T.e 3 Z) (Zdt h1) (T.e 0 Z))) Z (Za 0 Z Z) Z ?_;intro ac T
   refine wpList_nil ?_
   replace T:=T.pick [0] rfl
   exact ⟨(T.pick (E':=[(6,.bool (decide (n≤hi)))]) [0] Z).as (by (try rw [show (decide (lo≤n))=true from (Zdt h1)]);(try rfl)),M.mask [] Z⟩
  replace h1:=of_decide_eq_false h1
  refine Zg5 T (Zp (Zwn Z Z (T.e 0 Z) (Zdf h1))) Z (fun _ T=>Zp (Zwn Z Z (T.e 1 Z) (Zdf h1))) Z (fun _ T=>Zp (Zwn Z Z (T.e 2 Z) (Zdf h1))) Z (fun _ T=>Zq (Zr0 Z (T.e 3 Z) (Zdf h1) evc)) Z (Za 0 Z Z) Z ?_;intro ac T
  refine wpList_nil ?_
  replace T:=T.pick [0] rfl
  exact ⟨(T.pick (E':=[(6,.bool false)]) [0] Z).as (by (try rw [show (decide (lo≤n))=false from (Zdf h1)]);(try rfl)),M.mask [] Z⟩
 clear T M
 rintro ac wc ⟨T,M⟩
 refine wp_ret ?_
 refine rt_1 T Z (T.e 0 Z) ?_
 exact ⟨ret_bool (by unfold withinB;simp),M.below⟩
theorem bchkR_any (x y h:Int) (w:World)  :
   Calls Try.prog 99 #[.agg #[Zi x,Zi y],Zi h] w fun e w'=>e=.returned (Zi (chkR x y 0 h))∧Below w.heap.size w w':=by
 refine Zpx noEx Try.func99 Z 22 Z [.agg #[Zi x,Zi y],Zi h] Z Z (Mem.init w _) ?_
 intro ac wc T M
 refine Zsr ?_
 refine Zl2 ?_
 refine Zob M T Z Z Z Z (T.e 0 Z) Z ?_;clear M T;intro g1 wc ac M T
 refine lq T (Zra Z evc) ?_;intro ac T
 replace T:=T.pick [1,3] rfl
 refine Zln ?_
 refine wp_seq ?_
 refine wp_block ?_
 refine wp_seq ?_
 refine Zsr ?_
 refine Zg3 (v1:=(Zj g1)) T (Zq (Zrg 0 Z (T.e 0 Z))) Z (Zo M 0 0 Z Z Z Z) Z (Zm 3 Z Z) Z ?_;intro ac T
 refine Zl2 ?_
 refine Zod T Z Z Z Z evf (.cons (T.e 1 Z) (.cons evc (.cons (T.e 0 Z) .nil))) Try.func76 Z Z ?_
 refine Calls.mono (bin_any x 0 h _) ?_
 clear T;rintro e wc ⟨rfl,hb⟩ ac T
 replace M:=M.call hb;clear hb
 refine Zg2 T (Zq (rn_not Z (T.e 0 Z))) Z (Za 0 Z Z) Z ?_;intro ac T
 replace T:=T.pick [0,6,7] rfl
 refine Zln ?_
 refine wp_cond_split (T.e 0 Z) ?_ ?_
 ·intro h1
  (have h1':=h1;try simp only [Zb1,Zb2,Zb3,Zb4,Zb5,Zb6,Zb7] at h1')
  refine Zsk ?_
  refine wp_cond_true ((T.e 0 Z).trans (congrArg Value.bool h1)) ?_
  refine Zsr ?_
  refine lq T (Zra Z evc) ?_;intro ac T
  refine wpList_nil ?_
  replace T:=T.pick [0] rfl
  replace M:=M.mask [false] rfl
  refine Znr ?_
  refine Zrb ?_
  refine Zrt ?_
  refine rt_1 T Z (T.e 0 Z) ?_
  refine ⟨ret_int ?_,M.below⟩
  unfold chkR
  (repeat' split) <;> first | rfl | omega | contradiction | (simp_all;done) | (simp_all;omega)
 intro h1
 (have h1':=h1;try simp only [Zb1,Zb2,Zb3,Zb4,Zb5,Zb6,Zb7] at h1')
 refine wp_region_lit ?_
 refine Zg3 (v1:=(.pointer (some ⟨g1,1,none⟩))) T (Zq (Zrg 1 Z (T.e 1 Z))) Z (Zo M 0 0 Z Z Z Z) Z (Zm 4 Z Z) Z ?_;intro ac T
 refine Zl2 ?_
 refine Zod T Z Z Z Z evf (.cons (T.e 1 Z) (.cons evc (.cons (T.e 0 Z) .nil))) Try.func76 Z Z ?_
 refine Calls.mono (bin_any y 0 h _) ?_
 clear T;rintro e wc ⟨rfl,hb⟩ ac T
 replace M:=M.call hb;clear hb
 refine lq T (rn_not Z (T.e 0 Z)) ?_;intro ac T
 refine l_q (v:=(.bool (!(withinB y 0 h)))) (T.pick [0,1,2,3,4,6,7] Z) Z Z Z Z (Zra Z (T.e 0 Z)) ?_;intro ac T
 replace T:=T.pick [0,6] rfl
 refine Zln ?_
 refine wp_cond_split (T.e 0 Z) ?_ ?_
 ·intro h2
  (have h2':=h2;try simp only [Zb1,Zb2,Zb3,Zb4,Zb5,Zb6,Zb7] at h2')
  refine Zsr ?_
  refine lq T (Zra Z evc) ?_;intro ac T
  refine wpList_nil ?_
  replace T:=T.pick [0] rfl
  replace M:=M.mask [false] rfl
  refine Znr ?_
  refine Zrb ?_
  refine Zrt ?_
  refine rt_1 T Z (T.e 0 Z) ?_
  refine ⟨ret_int ?_,M.below⟩
  unfold chkR
  (repeat' split) <;> first | rfl | omega | contradiction | (simp_all;done) | (simp_all;omega)
 intro h2
 (have h2':=h2;try simp only [Zb1,Zb2,Zb3,Zb4,Zb5,Zb6,Zb7] at h2')
 refine Zsr ?_
 refine Zg6 (v1:=(Zj g1)) (v3:=(.pointer (some ⟨g1,1,none⟩))) T (Zq (Zrg 0 Z (T.e 1 Z))) Z (Zo M 0 0 Z Z Z Z) Z (Zf 1 3 Z Z) Z (Zo M 0 0 Z Z Z Z) Z (fun _ T=>Zq (rn_gtr Z (T.e 2 Z) (T.e 0 Z))) Z (Za 0 Z Z) Z ?_;intro ac T
 refine wpList_nil ?_
 replace T:=T.pick [0] rfl
 replace M:=M.mask [false] rfl
 refine nm_then ?_
 refine wp_if (T.e 0 Z) ?_ ?_
 ·intro h3
  refine Zsr ?_
  refine lq T (Zra Z evc) ?_;intro ac T
  replace T:=T.pick [0] rfl
  refine Zln ?_
  refine wp_ret ?_
  refine Zrb ?_
  refine Zrt ?_
  refine rt_1 T Z (T.e 0 Z) ?_
  refine ⟨ret_int ?_,M.below⟩
  unfold chkR
  (repeat' split) <;> first | rfl | omega | contradiction | (simp_all;done) | (simp_all;omega)
 intro h3
 refine wp_skip ?_
 refine Znb ?_
 refine nm_then ?_
 refine Zsr ?_
 refine lq T (Zra Z evc) ?_;intro ac T
 replace T:=T.pick [0] rfl
 refine Zln ?_
 refine wp_ret ?_
 refine rt_1 T Z (T.e 0 Z) ?_
 refine ⟨ret_int ?_,M.below⟩
 unfold chkR
 (repeat' split) <;> first | rfl | omega | contradiction | (simp_all;done) | (simp_all;omega)
theorem bchkT_any (t:Lk) (cn:Int) (w:World) (hr:Rd w w.heap.size 1 t.A t.op.length (ic t.op)) (hn:t.op.length≤1000) (hc:0≤cn∧cn≤1000) :
   Calls Try.prog 110 #[.agg #[.slice t.A t.op.length t.c,Zi t.sec,Zi t.lo,Zi t.hi],Zi cn] w fun e w'=>e=.returned (Zi (tstE cn t))∧Below w.heap.size w w':=by
 obtain ⟨bO,oO,SO⟩:=Sp.old hr
 refine Zpx noEx Try.func110 Z 46 Z [.agg #[.slice t.A t.op.length t.c,Zi t.sec,Zi t.lo,Zi t.hi],Zi cn] Z Z (Mem.init w _) ?_
 intro ac wc T M
 refine Zsr ?_
 refine Zl2 ?_
 refine Zob M T Z Z Z Z (T.e 0 Z) Z ?_;clear M T;intro g1 wc ac M T
 refine lq T (Zra Z evc) ?_;intro ac T
 replace T:=T.pick [1,3] rfl
 refine Zln ?_
 refine wp_seq ?_
 refine Zsr ?_
 refine Zg4 (v1:=(Zj g1)) T (Zq (Zrg 0 Z (T.e 0 Z))) Z (Zo M 0 0 Z Z Z Z) Z (Zl Try.underlying28 0 Z Z) Z (fun _ T=>Zq (rn_eql Z (T.e 0 Z) evc)) Z ?_;intro ac T
 replace T:=T.pick [0,4,5] rfl
 refine Zln ?_
 refine wp_if (T.e 0 Z) ?_ ?_
 ·intro h1
  refine Zsr ?_
  refine lq T (Zra Z evc) ?_;intro ac T
  refine wpList_nil ?_
  replace T:=T.pick [0] rfl
  replace M:=M.mask [false] rfl
  refine Znr ?_
  refine Zrt ?_
  refine rt_1 T Z (T.e 0 Z) ?_
  refine ⟨ret_int ?_,M.below⟩
  (try rw [hpv (by omega)] at H)
  (try rw [hp0 (by omega)] at H)
  unfold tstE
  (repeat' split) <;> first | rfl | omega | contradiction | (simp_all [leP];done) | (simp_all [leP];omega)
 intro h1
 refine Zsk ?_
 refine wp_seq ?_
 refine Zsr ?_
 refine Zg4 (v1:=(Zj g1)) T (Zq (Zrg 0 Z (T.e 1 Z))) Z (Zo M 0 0 Z Z Z Z) Z (Zl Try.underlying28 0 Z Z) Z (fun _ T=>Zq (Zrm Z evc)) Z ?_;intro ac T
 replace T:=T.pick [0,1,2,5,6] rfl
 refine Zln ?_
 refine wp_block ?_
 refine wp_loop_n (fun mz ac wc=>∃ (k:Nat),mz=t.op.length - k∧(k≤t.op.length)∧(opE cn t.op none=opE cn (t.op.drop k) (prevE t.op k))∧Tm ac 46 [(1,Zi cn),(2,Zj g1),(12,.slice t.A t.op.length t.c),(13,Zi ((t.op.length:Nat):Int)),(14,Zi (k:Int))]∧Mem w noEx wc [(g1,.cells [.slice t.A t.op.length t.c,Zi t.sec,Zi t.lo,Zi t.hi])]) ?_ ?_
 ·exact ⟨_,0,Z,(Nat.zero_le _),Z,T.pick [4,3,2,1,0] Z,M.mask [true] Z⟩
 clear T M
 rintro mz ac wc ⟨k,hmm1,hk,H,T,M⟩
 refine Zsr ?_
 refine lq T (rn_lss Z (T.e 4 Z) (T.e 3 Z)) ?_;intro ac T
 refine Zln ?_
 refine wp_seq ?_
 refine wp_if (T.e 0 Z) ?_ ?_
 ·intro h2
  obtain ⟨p,hkp,hd⟩:=ic_next (l:=t.op) (k:=k) (by omega)
  rw [hd,opE] at H
  obtain ⟨q,hq,hpv⟩:∃ q,(0 < k→t.op[k - 1]? = some q)∧(0 < k→prevE t.op k=some q):=⟨t.op.getD (k - 1) 0,fun h=>by rw [List.getD_eq_getElem?_getD,List.getElem?_eq_getElem (by omega:k - 1 < t.op.length)];rfl,fun h=>by unfold prevE;rw [if_neg (by omega)]⟩
  have hp0:k=0→prevE t.op k=none:=fun h=>by unfold prevE;rw [if_pos h]
  refine Zsk ?_
  refine wp_seq ?_
  refine wp_block ?_
  refine Zsr ?_
  refine Zg5 T (Zq (Zrm Z (T.e 5 Z))) Z (fun _ T=>Zq (Zri (size:=1) k Z (T.e 4 Z) (T.e 6 Z) ⟨_,Try.underlying28,by kernel_rfl⟩ Z (by omega) (SO.at0 (by omega)))) Z (fun _ T=>Zq (rn_cell (Sp.ic0 SO M (Zz9 _) hkp) Z (T.e 0 Z))) Z (Za 2 Z Z) Z (Za 1 Z Z) Z ?_;intro ac T
  replace T:=T.pick [0,1,6,7,8,9,10] rfl
  refine Zln ?_
  refine wp_block ?_
  refine Zsr ?_
  refine Zg3 T (Zq (Zrm Z (T.e 0 Z))) Z (Zm 3 Z Z) Z (fun _ T=>Zq (rn_sub Z (T.e 0 Z) evc (by omega))) Z ?_;intro ac T
  refine Zl2 ?_
  refine Zod T Z Z Z Z evf (.cons (T.e 2 Z) (.cons evc (.cons (T.e 0 Z) .nil))) Try.func76 Z Z ?_
  refine Calls.mono (bin_any p 0 (cn - 1) _) ?_
  clear T;rintro e wc ⟨rfl,hb⟩ ac T
  replace M:=M.call hb;clear hb
  refine Zg2 T (Zq (rn_not Z (T.e 0 Z))) Z (Za 0 Z Z) Z ?_;intro ac T
  replace T:=T.pick [0,6,7,8,9,10,11,12] rfl
  refine Zln ?_
  refine wp_cond_split (T.e 0 Z) ?_ ?_
  ·intro h3
   (have h3':=h3;try simp only [Zb1,Zb2,Zb3,Zb4,Zb5,Zb6,Zb7] at h3')
   refine Zsr ?_
   refine lq T (Zra Z evc) ?_;intro ac T
   refine wpList_nil ?_
   replace T:=T.pick [0] rfl
   replace M:=M.mask [false] rfl
   refine Znr ?_
   refine Zrb ?_
   refine Zrb ?_
   refine Zrt ?_
   refine Zrt ?_
   refine Zrb ?_
   refine Zrt ?_
   refine rt_1 T Z (T.e 0 Z) ?_
   refine ⟨ret_int ?_,M.below⟩
   (try rw [hpv (by omega)] at H)
   (try rw [hp0 (by omega)] at H)
   unfold tstE
   (repeat' split) <;> first | rfl | omega | contradiction | (simp_all [leP];done) | (simp_all [leP];omega)
  intro h3
  (have h3':=h3;try simp only [Zb1,Zb2,Zb3,Zb4,Zb5,Zb6,Zb7] at h3')
  refine cut_seq (fun ac wc=>Tm ac 46 [(1,Zi cn),(2,Zj g1),(12,.slice t.A t.op.length t.c),(13,Zi ((t.op.length:Nat):Int)),(14,Zi (k:Int)),(25,.bool ((decide (0 < (k:Int))) && (decide (p≤q))))]∧Mem w noEx wc [(g1,.cells [.slice t.A t.op.length t.c,Zi t.sec,Zi t.lo,Zi t.hi])]) ?_ ?_
  ·refine wp_region_lit ?_
   refine Zg3 T (Zq (Zrm Z (T.e 2 Z))) Z (fun _ T=>Zq (rn_gtr Z (T.e 0 Z) evc)) Z (Zm 0 Z Z) Z ?_;intro ac T
   rcases Zx9 (decide (0 < (k:Int))) with h4 | h4
   ·replace h4:=of_decide_eq_true h4
    refine Zg8 (v2:=(Zj g1)) T (Zw (Zwy Z Z (T.e 0 Z) (Zdt h4)) (Zrm Z (T.e 4 Z))) Z (fun _ T=>Zw (Zwy Z Z (T.e 1 Z) (Zdt h4)) (Zrg 0 Z (T.e 8 Z))) Z (fun _ T=>Zw (Zwy Z Z (T.e 2 Z) (Zdt h4)) (Zro (Mem.nth M 0 Z) Z (T.e 0 Z) Z)) Z (fun _ T=>Zw (Zwy Z Z (T.e 3 Z) (Zdt h4)) (Zrm Z (T.e 8 Z))) Z (fun _ T=>Zw (Zwy Z Z (T.e 4 Z) (Zdt h4)) (rn_sub Z (T.e 0 Z) evc (by omega))) Z (fun _ T=>Zw (Zwy Z Z (T.e 5 Z) (Zdt h4)) (Zri (size:=1) (k - 1) Z (T.e 2 Z) (T.e 0 Z) ⟨_,Try.underlying28,by kernel_rfl⟩ (by omega) (by omega) (SO.at0 (by omega)))) Z (fun _ T=>Zw (Zwy Z Z (T.e 6 Z) (Zdt h4)) (rn_cell (Sp.ic0 SO M (Zz9 _) (hq (by omega))) Z (T.e 0 Z))) Z (fun _ T=>Zw (Zwy Z Z (T.e 7 Z) (Zdt h4)) (rn_leq Z (T.e 6 Z) (T.e 0 Z))) Z ?_;intro ac T
    refine Zg2 T (Zq (Zr1 Z (T.e 8 Z) (Zdt h4) (T.e 0 Z))) Z (Za 0 Z Z) Z ?_;intro ac T
    refine wpList_nil ?_
    replace T:=T.pick [0,2,3,4,5,6,7,8,9,16,17,18,19,20] rfl
    exact ⟨(T.pick (E':=[(1,Zi cn),(2,Zj g1),(12,.slice t.A t.op.length t.c),(13,Zi ((t.op.length:Nat):Int)),(14,Zi (k:Int)),(25,.bool (decide (p≤q)))]) [9,10,11,12,13,0] Z).as (by (try rw [show (decide (0 < (k:Int)))=true from (Zdt h4)]);(try rfl)),M.mask [true] Z⟩
   replace h4:=of_decide_eq_false h4
   refine Zg8 T (Zp (Zwn Z Z (T.e 0 Z) (Zdf h4))) Z (fun _ T=>Zp (Zwn Z Z (T.e 1 Z) (Zdf h4))) Z (fun _ T=>Zp (Zwn Z Z (T.e 2 Z) (Zdf h4))) Z (fun _ T=>Zp (Zwn Z Z (T.e 3 Z) (Zdf h4))) Z (fun _ T=>Zp (Zwn Z Z (T.e 4 Z) (Zdf h4))) Z (fun _ T=>Zp (Zwn Z Z (T.e 5 Z) (Zdf h4))) Z (fun _ T=>Zp (Zwn Z Z (T.e 6 Z) (Zdf h4))) Z (fun _ T=>Zp (Zwn Z Z (T.e 7 Z) (Zdf h4))) Z ?_;intro ac T
   refine Zg2 T (Zq (Zr0 Z (T.e 8 Z) (Zdf h4) evc)) Z (Za 0 Z Z) Z ?_;intro ac T
   refine wpList_nil ?_
   replace T:=T.pick [0,2,3,4,5,6,7,8,9,16,17,18,19,20] rfl
   exact ⟨(T.pick (E':=[(1,Zi cn),(2,Zj g1),(12,.slice t.A t.op.length t.c),(13,Zi ((t.op.length:Nat):Int)),(14,Zi (k:Int)),(25,.bool false)]) [9,10,11,12,13,0] Z).as (by (try rw [show (decide (0 < (k:Int)))=false from (Zdf h4)]);(try rfl)),M.mask [true] Z⟩
  clear T M
  rintro ac wc ⟨T,M⟩
  refine wp_cond_split (T.e 5 Z) ?_ ?_
  ·intro h5
   (have h5':=h5;try simp only [Zb1,Zb2,Zb3,Zb4,Zb5,Zb6,Zb7] at h5')
   refine Zsr ?_
   refine lq T (Zra Z evc) ?_;intro ac T
   refine wpList_nil ?_
   replace T:=T.pick [0] rfl
   replace M:=M.mask [false] rfl
   refine Znr ?_
   refine Zrb ?_
   refine Zrb ?_
   refine Zrt ?_
   refine Zrt ?_
   refine Zrb ?_
   refine Zrt ?_
   refine rt_1 T Z (T.e 0 Z) ?_
   refine ⟨ret_int ?_,M.below⟩
   (try rw [hpv (by omega)] at H)
   (try rw [hp0 (by omega)] at H)
   unfold tstE
   (repeat' split) <;> first | rfl | omega | contradiction | (simp_all [leP];done) | (simp_all [leP];omega)
  intro h5
  (have h5':=h5;try simp only [Zb1,Zb2,Zb3,Zb4,Zb5,Zb6,Zb7] at h5')
  refine wp_skip ?_
  refine Znb ?_
  refine Znb ?_
  refine nm_then ?_
  refine wp_region_lit ?_
  refine lq T (rn_add Z (T.e 4 Z) evc (by omega)) ?_;intro ac T
  refine l_q (v:=(Zi ((k:Int)+1))) (T.pick [0,1,2,3,4,6] Z) Z Z Z Z (Zrm Z (T.e 0 Z)) ?_;intro ac T
  replace T:=T.pick [0,2,3,4,5] rfl
  refine Zln ?_
  have hlp:leP (prevE t.op k) p=false:=by
    rcases Nat.eq_zero_or_pos k with hk0 | hk0
    · rw [hp0 hk0];rfl
    · rw [hpv hk0];first | (simp_all [leP];done) | (exfalso;omega)
  rw [if_neg (by simp_all),if_neg (by rw [hlp];simp),← prevE_succ hkp] at H
  exact ⟨_,by omega,k+1,Z,(by omega),H,T.pick [1,2,3,4,0] Z,M.mask [true] Z⟩
 intro h2
 rw [List.drop_of_length_le (by omega),opE] at H
 refine wp_exit ?_
 refine Zet ?_
 refine Zet ?_
 refine ex_hit ?_
 refine Zns ?_
 refine Zsr ?_
 refine Zg2 (v1:=(.pointer (some ⟨g1,1,none⟩))) T (Zq (Zrg 1 Z (T.e 2 Z))) Z (Zo M 0 0 Z Z Z Z) Z ?_;intro ac T
 refine Zl2 ?_
 refine Zod T Z Z Z Z evf (.cons (T.e 0 Z) (.cons evc (.cons evc .nil))) Try.func76 Z Z ?_
 refine Calls.mono (bin_any t.sec 1 20 _) ?_
 clear T;rintro e wc ⟨rfl,hb⟩ ac T
 replace M:=M.call hb;clear hb
 refine lq T (rn_not Z (T.e 0 Z)) ?_;intro ac T
 replace T:=T.pick [0,6] rfl
 refine Zln ?_
 refine wp_cond_split (T.e 0 Z) ?_ ?_
 ·intro h6
  (have h6':=h6;try simp only [Zb1,Zb2,Zb3,Zb4,Zb5,Zb6,Zb7] at h6')
  refine Zsr ?_
  refine lq T (Zra Z evc) ?_;intro ac T
  refine wpList_nil ?_
  replace T:=T.pick [0] rfl
  replace M:=M.mask [false] rfl
  refine Znr ?_
  refine Zrt ?_
  refine rt_1 T Z (T.e 0 Z) ?_
  refine ⟨ret_int ?_,M.below⟩
  (try rw [hpv (by omega)] at H)
  (try rw [hp0 (by omega)] at H)
  unfold tstE
  (repeat' split) <;> first | rfl | omega | contradiction | (simp_all [leP];done) | (simp_all [leP];omega)
 intro h6
 (have h6':=h6;try simp only [Zb1,Zb2,Zb3,Zb4,Zb5,Zb6,Zb7] at h6')
 refine Zsk ?_
 refine Zsr ?_
 refine Zg2 (v1:=(.pointer (some ⟨g1,2,none⟩))) T (Zq (Zrg 2 Z (T.e 1 Z))) Z (Zr M 0 0 Z Z Z Z) Z ?_;intro ac T
 refine Zl2 ?_
 refine Zod T Z Z Z Z evf (.cons (T.e 0 Z) (.cons evc .nil)) Try.func99 Z Z ?_
 refine Calls.mono (bchkR_any t.lo t.hi 400 _) ?_
 clear T;rintro e wc ⟨rfl,hb⟩ ac T
 replace M:=M.call hb;clear hb
 refine lq T (Zra Z (T.e 0 Z)) ?_;intro ac T
 refine wpList_nil ?_
 replace T:=T.pick [0] rfl
 replace M:=M.mask [false] rfl
 refine Znr ?_
 refine rt_1 T Z (T.e 0 Z) ?_
 refine ⟨ret_int ?_,M.below⟩
 (try rw [hpv (by omega)] at H)
 (try rw [hp0 (by omega)] at H)
 unfold tstE
 (repeat' split) <;> first | rfl | omega | contradiction | (simp_all [leP];done) | (simp_all [leP];omega)
theorem bChk_any (b:Bw) (A:Option Addr) (c:Nat) (D:Option Addr) (d:Nat)  (w:World) (hA:Rd w w.heap.size 2 A b.cs.length (rc b.cs)) (hD:Rd w w.heap.size 4 D b.ts.length (lkc b.ts)) (hop:∀ t∈b.ts,Rd w w.heap.size 1 t.A t.op.length (ic t.op)) (nA:b.cs.length≤1000) (nD:b.ts.length≤1000) (nop:∀ t∈b.ts,t.op.length≤1000)  :
   Calls Try.prog 60 #[.agg #[Zi b.full,Zi b.a0,Zi b.a1,.slice A b.cs.length c,.slice D b.ts.length d]] w fun e w'=>e=.returned (Zi (chkB b))∧Below w.heap.size w w':=by
 obtain ⟨bA,oA,SA⟩:=Sp.old hA
 obtain ⟨bD,oD,SD⟩:=Sp.old hD
 refine Zpx noEx Try.func60 Z 59 Z [.agg #[Zi b.full,Zi b.a0,Zi b.a1,.slice A b.cs.length c,.slice D b.ts.length d]] Z Z (Mem.init w _) ?_
 intro ac wc T M
 refine Zsr ?_
 refine Zl2 ?_
 refine Zob M T Z Z Z Z (T.e 0 Z) Z ?_;clear M T;intro g1 wc ac M T
 refine lq T (Zra Z evc) ?_;intro ac T
 replace T:=T.pick [1] rfl
 refine Zln ?_
 refine wp_seq ?_
 refine Zsr ?_
 refine Zg2 (v1:=(Zj g1)) T (Zq (Zrg 0 Z (T.e 0 Z))) Z (Zo M 0 0 Z Z Z Z) Z ?_;intro ac T
 refine Zl2 ?_
 refine Zod T Z Z Z Z evf (.cons (T.e 0 Z) (.cons evc (.cons evc .nil))) Try.func76 Z Z ?_
 refine Calls.mono (bin_any b.full 1 200 _) ?_
 clear T;rintro e wc ⟨rfl,hb⟩ ac T
 replace M:=M.call hb;clear hb
 refine lq T (rn_not Z (T.e 0 Z)) ?_;intro ac T
 replace T:=T.pick [0,4] rfl
 refine Zln ?_
 refine wp_cond_split (T.e 0 Z) ?_ ?_
 ·intro h1
  (have h1':=h1;try simp only [Zb1,Zb2,Zb3,Zb4,Zb5,Zb6,Zb7] at h1')
  refine Zsr ?_
  refine lq T (Zra Z evc) ?_;intro ac T
  refine wpList_nil ?_
  replace T:=T.pick [0] rfl
  replace M:=M.mask [false] rfl
  refine Znr ?_
  refine Zrt ?_
  refine rt_1 T Z (T.e 0 Z) ?_
  refine ⟨ret_int ?_,M.below⟩
  unfold chkB
  (repeat' split) <;> first | rfl | omega | contradiction | (simp_all [leP];done) | (simp_all [leP];omega)
 intro h1
 (have h1':=h1;try simp only [Zb1,Zb2,Zb3,Zb4,Zb5,Zb6,Zb7] at h1')
 refine Zsk ?_
 refine wp_seq ?_
 refine Zsr ?_
 refine Zg4 (v1:=(.pointer (some ⟨g1,1,none⟩))) (v3:=(Zj g1)) T (Zq (Zrg 1 Z (T.e 1 Z))) Z (Zr M 0 0 Z Z Z Z) Z (Zf 0 3 Z Z) Z (Zo M 0 0 Z Z Z Z) Z ?_;intro ac T
 refine Zl2 ?_
 refine Zod T Z Z Z Z evf (.cons (T.e 2 Z) (.cons (T.e 0 Z) .nil)) Try.func99 Z Z ?_
 refine Calls.mono (bchkR_any b.a0 b.a1 b.full _) ?_
 clear T;rintro e wc ⟨rfl,hb⟩ ac T
 replace M:=M.call hb;clear hb
 refine lq T (Zra Z (T.e 0 Z)) ?_;intro ac T
 replace T:=T.pick [0,7] rfl
 refine Zln ?_
 refine Zsr ?_
 refine Zg2 T (Zq (Zrm Z (T.e 0 Z))) Z (fun _ T=>Zq (rn_neq Z (T.e 0 Z) evc)) Z ?_;intro ac T
 replace T:=T.pick [0,2,3] rfl
 refine Zln ?_
 refine wp_ifn (T.e 0 Z) ?_ ?_
 ·intro h2
  refine Zsr ?_
  refine Zg2 T (Zq (Zrm Z (T.e 1 Z))) Z (Za 0 Z Z) Z ?_;intro ac T
  refine wpList_nil ?_
  replace T:=T.pick [0] rfl
  replace M:=M.mask [false] rfl
  refine Znr ?_
  refine Zrt ?_
  refine rt_1 T Z (T.e 0 Z) ?_
  refine ⟨ret_int ?_,M.below⟩
  unfold chkB
  (repeat' split) <;> first | rfl | omega | contradiction | (simp_all [leP];done) | (simp_all [leP];omega)
 intro h2
 refine Zsk ?_
 refine wp_seq ?_
 refine Zsr ?_
 refine Zg4 (v1:=(.pointer (some ⟨g1,3,none⟩))) T (Zq (Zrg 3 Z (T.e 2 Z))) Z (Zo M 0 0 Z Z Z Z) Z (Zl Try.underlying24 0 Z Z) Z (fun _ T=>Zq (rn_gtr Z (T.e 0 Z) evc)) Z ?_;intro ac T
 replace T:=T.pick [0,6] rfl
 refine Zln ?_
 refine wp_if (T.e 0 Z) ?_ ?_
 ·intro h3
  refine Zsr ?_
  refine lq T (Zra Z evc) ?_;intro ac T
  refine wpList_nil ?_
  replace T:=T.pick [0] rfl
  replace M:=M.mask [false] rfl
  refine Znr ?_
  refine Zrt ?_
  refine rt_1 T Z (T.e 0 Z) ?_
  refine ⟨ret_int ?_,M.below⟩
  unfold chkB
  (repeat' split) <;> first | rfl | omega | contradiction | (simp_all [leP];done) | (simp_all [leP];omega)
 intro h3
 refine Zsk ?_
 refine wp_seq ?_
 refine Zsr ?_
 refine Zg4 (v1:=(.pointer (some ⟨g1,3,none⟩))) T (Zq (Zrg 3 Z (T.e 1 Z))) Z (Zo M 0 0 Z Z Z Z) Z (Zl Try.underlying24 0 Z Z) Z (fun _ T=>Zq (Zrm Z evc)) Z ?_;intro ac T
 replace T:=T.pick [0,1,2,5] rfl
 refine Zln ?_
 refine wp_block ?_
 refine wp_loop_n (fun mz ac wc=>∃ (k:Nat),mz=b.cs.length - k∧(k≤b.cs.length)∧(rngsE 5 b.cs=rngsE 5 (b.cs.drop k))∧Tm ac 59 [(1,Zj g1),(27,.slice A b.cs.length c),(28,Zi ((b.cs.length:Nat):Int)),(29,Zi (k:Int))]∧Mem w noEx wc [(g1,.cells [Zi b.full,Zi b.a0,Zi b.a1,.slice A b.cs.length c,.slice D b.ts.length d])]) ?_ ?_
 ·exact ⟨_,0,Z,(Nat.zero_le _),Z,T.pick [3,2,1,0] Z,M.mask [true] Z⟩
 clear T M
 rintro mz ac wc ⟨k,hmm1,hk,H,T,M⟩
 refine Zsr ?_
 refine lq T (rn_lss Z (T.e 3 Z) (T.e 2 Z)) ?_;intro ac T
 refine Zln ?_
 refine wp_seq ?_
 refine wp_if (T.e 0 Z) ?_ ?_
 ·intro h4
  obtain ⟨x0,x1,hkx,hd⟩:=rc_next (l:=b.cs) (k:=k) (by omega)
  rw [hd,rngsE] at H
  refine Zsk ?_
  refine wp_seq ?_
  refine wp_block ?_
  refine Zsr ?_
  refine Zg2 (v2:=(.agg #[Zi x0,Zi x1])) T (Zq (Zri (size:=2) k Z (T.e 2 Z) (T.e 4 Z) ⟨_,Try.underlying24,by kernel_rfl⟩ Z (by omega) (SA.at0 (by omega)))) Z (fun _ T=>Zq (rn_rowat (Sp.rcR SA M (Zz9 _) hkx) Z (T.e 0 Z) Z)) Z ?_;intro ac T
  refine Zl2 ?_
  refine Zoa M T Z Z Z Z ?_;clear M T;intro g2 wc ac M T
  refine Zl2 ?_
  refine Zot M T Z Z (T.e 0 Z) (T.e 1 Z) Z .head Z Z ?_;clear M T;intro wc ac M T
  replace T:=T.pick [0,4,5,6,7] rfl
  refine Zln ?_
  refine Zsr ?_
  refine lq T (Zrr (Mem.nth M 0 Z) Z (T.e 0 Z) Z) ?_;intro ac T
  refine Zl2 ?_
  refine Zod T Z Z Z Z evf (.cons (T.e 0 Z) (.cons evc .nil)) Try.func99 Z Z ?_
  refine Calls.mono (bchkR_any x0 x1 5 _) ?_
  clear T;rintro e wc ⟨rfl,hb⟩ ac T
  replace M:=M.call hb;clear hb
  refine lq T (Zra Z (T.e 0 Z)) ?_;intro ac T
  refine wpList_nil ?_
  replace T:=T.pick [0,4,5,6,7] rfl
  replace M:=M.mask [false,true] rfl
  refine nm_then ?_
  refine Zsr ?_
  refine Zg2 T (Zq (Zrm Z (T.e 0 Z))) Z (fun _ T=>Zq (rn_neq Z (T.e 0 Z) evc)) Z ?_;intro ac T
  replace T:=T.pick [0,2,3,4,5,6] rfl
  refine Zln ?_
  refine wp_ifn (T.e 0 Z) ?_ ?_
  ·intro h5
   refine Zsr ?_
   refine Zg2 T (Zq (Zrm Z (T.e 1 Z))) Z (Za 0 Z Z) Z ?_;intro ac T
   refine wpList_nil ?_
   replace T:=T.pick [0] rfl
   replace M:=M.mask [false] rfl
   refine Znr ?_
   refine Zrb ?_
   refine Zrt ?_
   refine Zrt ?_
   refine Zrb ?_
   refine Zrt ?_
   refine rt_1 T Z (T.e 0 Z) ?_
   refine ⟨ret_int ?_,M.below⟩
   unfold chkB
   (repeat' split) <;> first | rfl | omega | contradiction | (simp_all [leP];done) | (simp_all [leP];omega)
  intro h5
  refine wp_skip ?_
  refine Znb ?_
  refine nm_then ?_
  refine wp_region_lit ?_
  refine lq T (rn_add Z (T.e 5 Z) evc (by omega)) ?_;intro ac T
  refine l_q (v:=(Zi ((k:Int)+1))) (T.pick [0,1,2,3,4,5] Z) Z Z Z Z (Zrm Z (T.e 0 Z)) ?_;intro ac T
  replace T:=T.pick [0,4,5,6] rfl
  refine Zln ?_
  rw [if_pos (by simp_all)] at H
  exact ⟨_,by omega,k+1,Z,(by omega),H,T.pick [1,2,3,0] Z,M.mask [true] Z⟩
 intro h4
 rw [List.drop_of_length_le (by omega),rngsE] at H
 refine wp_exit ?_
 refine Zet ?_
 refine Zet ?_
 refine ex_hit ?_
 refine Zns ?_
 refine Zsr ?_
 refine Zg4 (v1:=(.pointer (some ⟨g1,4,none⟩))) T (Zq (Zrg 4 Z (T.e 1 Z))) Z (Zo M 0 0 Z Z Z Z) Z (Zl Try.underlying25 0 Z Z) Z (fun _ T=>Zq (rn_gtr Z (T.e 0 Z) evc)) Z ?_;intro ac T
 replace T:=T.pick [0,5] rfl
 refine Zln ?_
 refine wp_if (T.e 0 Z) ?_ ?_
 ·intro h6
  refine Zsr ?_
  refine lq T (Zra Z evc) ?_;intro ac T
  refine wpList_nil ?_
  replace T:=T.pick [0] rfl
  replace M:=M.mask [false] rfl
  refine Znr ?_
  refine Zrt ?_
  refine rt_1 T Z (T.e 0 Z) ?_
  refine ⟨ret_int ?_,M.below⟩
  unfold chkB
  (repeat' split) <;> first | rfl | omega | contradiction | (simp_all [leP];done) | (simp_all [leP];omega)
 intro h6
 refine Zsk ?_
 refine wp_seq ?_
 refine Zsr ?_
 refine Zg4 (v1:=(.pointer (some ⟨g1,4,none⟩))) T (Zq (Zrg 4 Z (T.e 1 Z))) Z (Zo M 0 0 Z Z Z Z) Z (Zl Try.underlying25 0 Z Z) Z (fun _ T=>Zq (Zrm Z evc)) Z ?_;intro ac T
 replace T:=T.pick [0,1,2,5] rfl
 refine Zln ?_
 refine wp_block ?_
 refine wp_loop_n (fun mz ac wc=>∃ (j:Nat),mz=b.ts.length - j∧(j≤b.ts.length)∧(tstsE b.cs.length b.ts=tstsE b.cs.length (b.ts.drop j))∧Tm ac 59 [(1,Zj g1),(44,.slice D b.ts.length d),(45,Zi ((b.ts.length:Nat):Int)),(46,Zi (j:Int))]∧Mem w noEx wc [(g1,.cells [Zi b.full,Zi b.a0,Zi b.a1,.slice A b.cs.length c,.slice D b.ts.length d])]) ?_ ?_
 ·exact ⟨_,0,Z,(Nat.zero_le _),Z,T.pick [3,2,1,0] Z,M.mask [true] Z⟩
 clear T M
 rintro mz ac wc ⟨j,hmm2,hj,G,T,M⟩
 refine Zsr ?_
 refine lq T (rn_lss Z (T.e 3 Z) (T.e 2 Z)) ?_;intro ac T
 refine Zln ?_
 refine wp_seq ?_
 refine wp_if (T.e 0 Z) ?_ ?_
 ·intro h7
  obtain ⟨p,hkp,hd2⟩:=lkc_next (l:=b.ts) (k:=j) (by omega)
  have hmp:=List.mem_of_getElem? hkp
  rw [hd2,tstsE] at G
  refine Zsk ?_
  refine wp_seq ?_
  refine wp_block ?_
  refine Zsr ?_
  refine Zg2 (v2:=(.agg #[.slice p.A p.op.length p.c,Zi p.sec,Zi p.lo,Zi p.hi])) T (Zq (Zri (size:=4) j Z (T.e 2 Z) (T.e 4 Z) ⟨_,Try.underlying25,by kernel_rfl⟩ Z (by omega) (SD.at0 (by omega)))) Z (fun _ T=>Zq (rn_rowat (Sp.lkcR SD M (Zz9 _) hkp) Z (T.e 0 Z) Z)) Z ?_;intro ac T
  refine Zl2 ?_
  refine Zoa M T Z Z Z Z ?_;clear M T;intro g3 wc ac M T
  refine Zl2 ?_
  refine Zot M T Z Z (T.e 0 Z) (T.e 1 Z) Z .head Z Z ?_;clear M T;intro wc ac M T
  replace T:=T.pick [0,4,5,6,7] rfl
  refine Zln ?_
  refine Zsr ?_
  refine Zg4 (v2:=(.pointer (some ⟨g1,3,none⟩))) T (Zq (Zrr (Mem.nth M 0 Z) Z (T.e 0 Z) Z)) Z (Zf 3 2 Z Z) Z (Zo M 1 0 Z Z Z Z) Z (Zl Try.underlying24 0 Z Z) Z ?_;intro ac T
  refine Zl2 ?_
  refine Zod T Z Z Z Z evf (.cons (T.e 3 Z) (.cons (T.e 0 Z) .nil)) Try.func110 Z Z ?_
  refine Calls.mono (bchkT_any p ((b.cs.length:Nat):Int) _ ((M.rd (hop p hmp) (Nat.le_refl _))) (by first | omega | exact nop _ hmp) (by omega)) ?_
  clear T;rintro e wc ⟨rfl,hb⟩ ac T
  replace M:=M.call hb;clear hb
  refine lq T (Zra Z (T.e 0 Z)) ?_;intro ac T
  refine wpList_nil ?_
  replace T:=T.pick [0,7,8,9,10] rfl
  replace M:=M.mask [false,true] rfl
  refine nm_then ?_
  refine Zsr ?_
  refine Zg2 T (Zq (Zrm Z (T.e 0 Z))) Z (fun _ T=>Zq (rn_neq Z (T.e 0 Z) evc)) Z ?_;intro ac T
  replace T:=T.pick [0,2,3,4,5,6] rfl
  refine Zln ?_
  refine wp_ifn (T.e 0 Z) ?_ ?_
  ·intro h8
   refine Zsr ?_
   refine Zg2 T (Zq (Zrm Z (T.e 1 Z))) Z (Za 0 Z Z) Z ?_;intro ac T
   refine wpList_nil ?_
   replace T:=T.pick [0] rfl
   replace M:=M.mask [false] rfl
   refine Znr ?_
   refine Zrb ?_
   refine Zrt ?_
   refine Zrt ?_
   refine Zrb ?_
   refine Zrt ?_
   refine rt_1 T Z (T.e 0 Z) ?_
   refine ⟨ret_int ?_,M.below⟩
   unfold chkB
   (repeat' split) <;> first | rfl | omega | contradiction | (simp_all [leP];done) | (simp_all [leP];omega)
  intro h8
  refine wp_skip ?_
  refine Znb ?_
  refine nm_then ?_
  refine wp_region_lit ?_
  refine lq T (rn_add Z (T.e 5 Z) evc (by omega)) ?_;intro ac T
  refine l_q (v:=(Zi ((j:Int)+1))) (T.pick [0,1,2,3,4,5] Z) Z Z Z Z (Zrm Z (T.e 0 Z)) ?_;intro ac T
  replace T:=T.pick [0,4,5,6] rfl
  refine Zln ?_
  rw [if_pos (by simp_all)] at G
  exact ⟨_,by omega,j+1,Z,(by omega),G,T.pick [1,2,3,0] Z,M.mask [true] Z⟩
 intro h7
 rw [List.drop_of_length_le (by omega),tstsE] at G
 refine wp_exit ?_
 refine Zet ?_
 refine Zet ?_
 refine ex_hit ?_
 refine nm_then ?_
 refine Zsr ?_
 refine lq T (Zra Z evc) ?_;intro ac T
 refine wpList_nil ?_
 replace T:=T.pick [0] rfl
 replace M:=M.mask [false] rfl
 refine Znr ?_
 refine rt_1 T Z (T.e 0 Z) ?_
 refine ⟨ret_int ?_,M.below⟩
 unfold chkB
 (repeat' split) <;> first | rfl | omega | contradiction | (simp_all [leP];done) | (simp_all [leP];omega)
section
open Go.RowKit Go.Proofs.Ytoheddpnnjldgaa.Bi Go.Proofs.Ytoheddpnnjldgaa.Bq
def IKeeps (P:Program) (I:World→Prop):Prop:=∀ (Z:Type) (op:Oper) (a:Act) (df:List Deferred) (n:Nat) (L:List (Nat×BA)) (L':Z→List (Nat×BA)) (E':Z→List (Nat×Value)),opOk op.op=true→(∀ p∈L,p.2.flat=true)→Lone P op a df n L L' E'→Plain P op a →
 ∀ (W0 W1:World) (r:Next),Mem W0 (inK L) W0 L→(execOp a.eval op).run P W0=.ok r W1→I W0→I W1
theorem ikeeps_J {P:Program} {J:Nat→Option Obj} {T:Nat→Question→Nat} {m:Nat} (hP:FuncsOk P) (hJ:∀ b o,J b=some o→junk o=true∧b < m∧¬ okC o):IKeeps P (InvJ J T m) :=
 fun _ _ _ _ _ _ _ _ ho hf h hp _ _ _ M hr hI=>inv_exec hP ho hJ hf h hp M hr hI
def flatL (L:List (Nat×BA)):Bool:=L.all fun p=>p.2.flat
theorem flatL_spec {L:List (Nat×BA)} (h:flatL L=true):∀ p∈L,p.2.flat=true:=fun p hp=>List.all_eq_true.1 h p hp
section
variable {P:Program} {main:Bool} {Y:Type} {I:World→Prop} {Rd:Nat→Prop} {wb:World} {ex:Nat→Prop} {fn:FuncId} {St:Y→XS→Goroutine→Prop} {Q:Exit→Y→XS→Act→Prop} {s:Y} {L:List (Nat×BA)} {W:Nat→Prop} {a:Act}
variable {df:List Deferred} {ops:Array Oper} {i:Nat} {rest:List Nat} {op:Oper} {v:Value} {n t:Nat} {E:List (Nat×Value)}
theorem plain_v {q:Sem Value} (h:execOp a.eval op=(do pure (.value (← q)))):Plain P op a:=by
 intro w r w1 hr
 rw [h,Sem.run_bind] at hr
 cases hq:q.run P w with
 | halt x w'=>rw [hq] at hr;cases hr
 | ok x w'=>rw [hq] at hr;cases hr;exact .inl ⟨x,rfl⟩
theorem plain_u {q:Sem Unit} (h:execOp a.eval op=(do q;pure .skip)):Plain P op a:=by
 intro w r w1 hr
 rw [h,Sem.run_bind] at hr
 cases hq:q.run P w with
 | halt x w'=>rw [hq] at hr;cases hr
 | ok x w'=>rw [hq] at hr;cases hr;exact .inr rfl
theorem ev_none {w:World} (h:(execOp a.eval op).events P w #[] = #[]):∀ e∈(execOp a.eval op).events P w #[],EvS (mSide wb ex) Rd (L,W) w.heap.size e:=fun e he=>by rw [h] at he;simp at he
theorem oi_bx {ty:TypeId} {x:Operand} {l:List Value} (hI:IKeeps P I) (T:TmD df a n E) (hi:ops[i]? = some op) (ho:op.op=.box ty x) (hx:a.eval x=v) (hv:v.cells=l.toArray)
  (h:∀ g (W':Nat→Prop) a',(∀ b,W b→W' b)→TmD df a' n ((t,Zj g)::E)→oI P main I Rd wb ex fn St ops rest Q s ((g,.cells l)::L,W') a')
  (hfl:flatL L=true:=by rfl) (hw:Region.wanted op (yielded ops a.tmps)=true:=by rfl) (hd:op.dst=some t:=by rfl) (hf:freshE E t=true:=by rfl) (hn:Nat.blt t n=true:=by rfl):oI P main I Rd wb ex fn St ops (i::rest) Q s (L,W) a:=by
 have hl:Lone P op a df n L (fun g:Nat=>(g,.cells l)::L) (fun g=>(t,Zj g)::E):=fun w K M hK=>Zob M T ho hd hf hn hx hv fun g w' a' M' T'=>hK g w' a' M' T'
 have hp:Plain P op a:=plain_v (q:=Instr.box ty (a.eval x)) (by unfold execOp;simp only [ho])
 exact oi_w (fun W0 W1 r M hr=>hI _ op a df n L _ _ (by rw [ho];rfl) (flatL_spec hfl) hl hp W0 W1 r M hr) hi hl hp (fun w _=>ev_none (by
  unfold execOp
  simp only [ho,hx,Instr.box,Sem.events_bind,newVar,newRow,Sem.run_bind,Sem.run_pure,run_newObj,Result.andThen_ok,Result.evThen_ok,events_newObj,Sem.events_pure])) h hw
theorem oi_al {ty:TypeId} {l:List Value} [hZ:ZeroTy P ty l] (hI:IKeeps P I) (T:TmD df a n E) (hi:ops[i]? = some op) (ho:op.op=.alloc ty)
  (hev:∀ w:World,(Instr.alloc ty true (.tuple #[])).events P w #[] = #[])
  (h:∀ g (W':Nat→Prop) a',(∀ b,W b→W' b)→TmD df a' n ((t,Zj g)::E)→oI P main I Rd wb ex fn St ops rest Q s ((g,.cells l)::L,W') a')
  (hfl:flatL L=true:=by rfl) (hw:Region.wanted op (yielded ops a.tmps)=true:=by rfl) (hd:op.dst=some t:=by rfl) (hf:freshE E t=true:=by rfl) (hn:Nat.blt t n=true:=by rfl):oI P main I Rd wb ex fn St ops (i::rest) Q s (L,W) a:=by
 have hl:Lone P op a df n L (fun g:Nat=>(g,.cells l)::L) (fun g=>(t,Zj g)::E):=fun w K M hK=>Zoa M T ho hd hf hn fun g w' a' M' T'=>hK g w' a' M' T'
 have hp:Plain P op a:=plain_v (q:=Instr.alloc ty true (.tuple #[])) (by unfold execOp;simp only [ho])
 exact oi_w (fun W0 W1 r M hr=>hI _ op a df n L _ _ (by rw [ho];rfl) (flatL_spec hfl) hl hp W0 W1 r M hr) hi hl hp (fun w _=>ev_none (by
  unfold execOp
  simp only [ho,Sem.events_bind,hev]
  exact evThen_const _ _)) h hw
theorem evS_at {ad:Addr} {e:Event} {w:World} {p:BA} (hs:(mSide wb ex).Sit (L,W) w) (hm:(ad.block,p)∈L) (hl:e.loc=.cell ad):EvS (mSide wb ex) Rd (L,W) w.heap.size e:=by
 obtain ⟨l,wr,sy⟩:=e
 dsimp only at hl
 subst hl
 refine ⟨fun y hy=>?_,by simp,by simp,by rw [Conc.ofEvent_cell0];exact BA.lt (hs.1.blk _ hm).2⟩
 simp only [Conc.ofEvent_cell0,MemAct.touch?,Option.some.injEq] at hy
 subst hy
 exact .inl (hs.2.2 _ hm)
theorem ev_storeCells (g o:Nat):∀ (vs:List Value) (i:Nat) (w:World) (es:Array Event) (cs:Array Value),Bk w g cs→o+i+vs.length≤cs.size→(vs.all (·.oneCell')=true) →
   ∀ e∈(storeCells ⟨g,o,none⟩ vs i).events P w es,e∈es∨∃ ad:Addr,e.loc=.cell ad∧ad.block=g
 | [],_,_,_,_,_,_,_=>fun e he=>.inl (by simpa [storeCells] using he)
 | u::vs,i,w,es,cs,hB,hlen,h1=>fun e he=>by
   simp only [List.all_cons,Bool.and_eq_true] at h1
   simp only [Zx1] at hlen
   have ha:(⟨g,o,none⟩:Addr).add i=⟨g,o+i,none⟩:=Addr.add_mid _ _ _
   have hc:w.cell? ⟨g,o+i,none⟩=some cs[o+i]:=by rw [hB.cell,Array.getElem?_eq_getElem (by omega)]
   have hz:w.frozen? ⟨g,o+i,none⟩=false:=hB.frozen _
   simp only [storeCells,Sem.events_bind,ha] at he
   rw [run_store P w ⟨g,o+i,none⟩ u .plain h1.1,events_store P w es ⟨g,o+i,none⟩ u .plain h1.1] at he
   simp only [stored,hc,hz,Bool.false_eq_true,if_false,Result.evThen_ok] at he
   rcases ev_storeCells g o vs (i+1) _ _ _ (hB.put (o+i) u (by omega)) (by simp;omega) h1.2 e he with h | h
   · rcases Array.mem_push.1 h with h | rfl
     · exact .inl h
     · exact .inr ⟨_,Z,Z⟩
   · exact .inr h
theorem oi_st {ty : TypeId} {x y : Operand} {g o : Nat} {cs ds cs' : List Value} {L' : List (Nat × BA)} (hI : IKeeps P I) (T : TmD df a n E) (hi : ops[i]? = some op) (ho : op.op = .store ty x y) (hx : a.eval x = .pointer (some ⟨g, o, none⟩)) (hy : a.eval y = v) (hv : v.cells = ds.toArray)
   (hu:Upd L g (.cells cs) (.cells cs') L') (hc:storeO cs o ds=some cs') (hne:ds≠[]) (h1:ds.all (·.oneCell')=true) (hsz:(P.info? ty).map (·.size)=some ds.length)
   (h:∀ (W':Nat→Prop) a',(∀ b,W b→W' b)→TmD df a' n E→oI P main I Rd wb ex fn St ops rest Q s (L',W') a')
   (hfl:flatL L=true:=by rfl) (hw:Region.wanted op (yielded ops a.tmps)=true:=by rfl) (hd:op.dst=none:=by rfl):oI P main I Rd wb ex fn St ops (i::rest) Q s (L,W) a:=by
 have hl:Lone P op a df n L (fun _:Unit=>L') (fun _=>E):=fun w K M hK=>Zos M T ho hd hx hy hv hu hc hne h1 hsz fun w' a' M' T'=>hK () w' a' M' T'
 have hp:Plain P op a:=plain_u (q:=Instr.storeAt ty (a.eval x) (a.eval y)) (by unfold execOp;simp only [ho])
 refine oi_w (fun W0 W1 r M hr=>hI _ op a df n L _ _ (by rw [ho];rfl) (flatL_spec hfl) hl hp W0 W1 r M hr) hi hl hp (fun w hs e he=>?_) (fun _ W' a' hW T'=>h W' a' hW T') hw
 have hm:=hu.mem
 have hB:Bk w g cs.toArray:=(hs.1.blk _ hm).2
 obtain ⟨h2,h3⟩:=storeO_eq hc hne
 have hsize:(sizeOf ty).run P w=.ok ds.length w:=by
   cases hq:P.info? ty with
   | none=>rw [hq] at hsz;simp at hsz
   | some inf=>rw [hq] at hsz;simp at hsz;simp [sizeOf,typeInfo,hq,hsz]
 unfold execOp at he
 simp only [ho,hx,hy,Instr.storeAt,Instr.sureAddr,Sem.events_bind,Sem.run_pure,Sem.events_pure,Result.evThen_ok,evThen_const] at he
 unfold storeVar at he
 simp only [Sem.events_bind,hsize,Result.evThen_ok,events_sizeOf,hv,List.size_toArray,ne_eq,not_true,if_false,Sem.run_pure,Sem.events_pure,List.toList_toArray] at he
 rcases ev_storeCells (P:=P) g o ds 0 w #[] cs.toArray hB (by simpa using h2) h1 e he with h4 | ⟨ad,h4,h5⟩
 · simp at h4
 · exact evS_at hs (h5 ▸ hm) h4
theorem oi_bs {ty len e:TypeId} {parts:List (Nat×Operand)} {vs:List (Nat×Value)} (l:List Value) (hI:IKeeps P I) (T:TmD df a n E) (hi:ops[i]? = some op) (ho:op.op=.buildSlice ty len parts.toArray) (hv:EvP a parts vs)
  (hr:∀ w:World,(Instr.buildSlice ty len vs.toArray).run P w=.ok (.slice (some ⟨w.heap.size,0,none⟩) len len) (w.alloc (.cells l.toArray e))) (hev:∀ w:World,(Instr.buildSlice ty len vs.toArray).events P w #[] = #[])
  (h:∀ g (W':Nat→Prop) a',(∀ b,W b→W' b)→TmD df a' n ((t,.slice (some ⟨g,0,none⟩) len len)::E)→oI P main I Rd wb ex fn St ops rest Q s ((g,.cells l)::L,W') a')
  (hfl:flatL L=true:=by rfl) (hw:Region.wanted op (yielded ops a.tmps)=true:=by rfl) (hd:op.dst=some t:=by rfl) (hf:freshE E t=true:=by rfl) (hn:Nat.blt t n=true:=by rfl):oI P main I Rd wb ex fn St ops (i::rest) Q s (L,W) a:=by
 have e1:(parts.toArray.map fun x=>(x.1,a.eval x.2))=vs.toArray:=by simp [← hv.map]
 have e2:(parts.toArray.map fun (i,x)=>(i,a.eval x))=vs.toArray:=e1
 have hl:Lone P op a df n L (fun g:Nat=>(g,.cells l)::L) (fun g=>(t,.slice (some ⟨g,0,none⟩) len len)::E):=fun w K M hK=>ow_bs l M T ho hd hf hn hv hr fun g w' a' M' T'=>hK g w' a' M' T'
 have hp:Plain P op a:=plain_v (q:=Instr.buildSlice ty len vs.toArray) (by unfold execOp;simp only [ho,e2])
 exact oi_w (fun W0 W1 r M hr=>hI _ op a df n L _ _ (by rw [ho];rfl) (flatL_spec hfl) hl hp W0 W1 r M hr) hi hl hp (fun w _=>ev_none (by
  unfold execOp
  simp only [ho,e2,Sem.events_bind,hev]
  exact evThen_const _ _)) h hw
theorem evS_neutral {m:Mark} {B:Nat} (h:Conc.Neutral m):EvS (mSide wb ex) Rd (L,W) B ⟨.mark m,false,true⟩:=by
 unfold Conc.Neutral at h
 subst h
 exact ⟨fun y hy=>by simp [MemAct.ofEvent,MemAct.touch?] at hy,by simp,by simp,trivial⟩
theorem oi_app {sl x : Operand} {ty e size bytes b c m : Nat} {z : Value} {cs xs : List Value} {J0 : List (Nat × BA)} (L1 : List (Nat × BA)) (hI : IKeeps P I)
   (hinfo:(P.info? e).map (fun i=>(i.zero,i.size,i.bytes))=some (some z,size,bytes)) (hS:Sl e size v m xs J0) (hsp:L=L1++J0) (T:TmD df a n E) (hi:ops[i]? = some op)
   (ho:op.op=.call { callee:=.builtin .append,args:=#[sl,x],argTypes:=#[ty,ty] })
   (ht:P.underlying ty=some (.slice e)) (hzs:z.cells.size=size) (hsz:Nat.blt 0 size=true) (hby:Nat.ble bytes 1000=true) (hm:m≤1000000)
   (hs:a.eval sl=v) (hx:a.eval x=.slice (some ⟨b,0,none⟩) 1 c) (hmem:(b,BA.cells cs)∈L1) (hl:cs.length=size) (h1:cs.all (·.oneCell')=true)
   (h:∀ g cap (W':Nat→Prop) a',(∀ b,W b→W' b)→TmD df a' n ((t,.slice (some ⟨g,0,none⟩) (m+1) cap)::E)→oI P main I Rd wb ex fn St ops rest Q s ((g,.row e size (m+1) (xs++cs) cap)::L1,W') a')
   (hfl:flatL L=true:=by rfl) (hw:Region.wanted op (yielded ops a.tmps)=true:=by rfl) (hd:op.dst=some t:=by rfl) (hf:freshE E t=true:=by rfl) (hn:Nat.blt t n=true:=by rfl):oI P main I Rd wb ex fn St ops (i::rest) Q s (L,W) a:=by
 subst hsp
 have hlone:Lone P op a df n (L1++J0) (fun y:Nat×Nat=>(y.1,.row e size (m+1) (xs++cs) y.2)::L1) (fun y=>(t,.slice (some ⟨y.1,0,none⟩) (m+1) y.2)::E):=fun w K M hK =>
   app_wp ht hinfo hzs (Nat.le_of_ble_eq_true hsz) (Nat.le_of_ble_eq_true hby) (Mem.swapI (I:=L1) (L:=J0) M) hS hm ho hs hx hmem hl h1 fun g cap w' M'=>hK (g,cap) w' _ M' (by rw [hd];exact T.put hn hf _)
 have harg:execOp a.eval op=(do pure (.value (← Builtin.append_ #[ty,ty] op.type #[v,.slice (some ⟨b,0,none⟩) 1 c]))):=by
   unfold execOp
   simp [ho,resolve,invoke,builtin,hs,hx]
 have hp:Plain P op a:=plain_v harg
 refine oi_w (fun W0 W1 r M hr=>hI _ op a df n _ _ _ (by rw [ho];rfl) (flatL_spec hfl) hlone hp W0 W1 r M hr) hi hlone hp (fun w hs' ev he=>?_) (fun y W' a' hW T'=>h y.1 y.2 W' a' hW T') hw
 rw [harg,Sem.events_bind] at he
 simp only [Sem.events_pure,evThen_const] at he
 have hB:Bk w b cs.toArray:=(hs'.1.blk _ (List.mem_append_left _ hmem)).2
 cases hq:P.info? e with
 | none=>rw [hq] at hinfo;simp at hinfo
 | some inf =>
   rw [hq] at hinfo
   simp only [Option.map_some,Option.some.injEq,Prod.mk.injEq] at hinfo
   obtain ⟨hz,hsi,hbyt⟩:=hinfo
   have hown:w.ownsRow 0 e size v m xs:=by
     rcases hS with ⟨rfl,rfl,rfl,rfl⟩ | ⟨g,cap,rfl,rfl⟩
     · exact ⟨by simp,.inl ⟨rfl,Z⟩⟩
     · have:=(hs'.1.blk (g,.row e size m xs cap) (by simp)).2
       obtain ⟨⟨h5,h6⟩,h7⟩:=this
       refine ⟨h5,h6.imp id fun ⟨g',c',cur,e1,h8,h9⟩=>⟨g',c',cur,e1,Nat.zero_le _,h9⟩⟩
   have hb1:bytes≤1000:=Nat.le_of_ble_eq_true hby
   rcases events_append_where w 0 ty op.type e inf z size bytes ht hq hz hsi hbyt v m xs hown ⟨b,0,none⟩ 1 c cs (by rw [hl,Nat.one_mul]) (fun j u hu=>by
     rw [Addr.add_mid,hB.cell];simpa using hu) (fun u hu=>List.all_eq_true.1 h1 u hu) (by simp only [maxLen];omega) (by have:(m+1) * bytes≤1000001 * 1000:=Nat.mul_le_mul (by omega) hb1;omega) ev he with ⟨ad,h2,h3⟩ | ⟨mk,rfl,h3⟩
   · rcases h3 with ⟨-,h3⟩ | h3
     · exact evS_at (ad:=ad) (p:=.cells cs) hs' (by rw [show ad.block=b from h3];exact List.mem_append_left _ hmem) h2
     · rcases hS with ⟨rfl,-,-,-⟩ | ⟨g,cap,rfl,rfl⟩
       · simp [Value.ownBlock] at h3
       · have h4:ad.block=g:=by simpa [Value.ownBlock] using h3
         exact evS_at (ad:=ad) (p:=.row e size m xs cap) hs' (by rw [h4];simp) h2
   · exact evS_neutral h3
theorem oi_call {Post:Y→XS→Value→Prop} {x:Operand} {xs:List Operand} {ts:Array TypeId} {f:FuncId} {first cap vs:List Value} {fn':Func} (T:TmD df a n E) (hi:ops[i]? = some op) (ho:op.op=.call { callee:=.value x,args:=xs.toArray,argTypes:=ts })
  (hx : a.eval x = .func (.func f) first.toArray cap.toArray) (hv : EvL a xs vs) (hfn : P.funcs[f]? = some fn') (hnm : (fn'.name == "runtime.NumGoroutine") = false) (hb : fn'.body.isNone = false)
  (hc:CallsI P main (mSide wb ex).Sit (Gd I (mSide wb ex) Rd) St f (first++vs++cap).toArray s (L,W) Post)
  (h:∀ s' x' v,Post s' x' v→∀ a',TmD df a' n ((t,v)::E)→oI P main I Rd wb ex fn St ops rest Q s' x' a')
  (hw:Region.wanted op (yielded ops a.tmps)=true:=by rfl) (hd:op.dst=some t:=by rfl) (hf:freshE E t=true:=by rfl) (hn:Nat.blt t n=true:=by rfl):oI P main I Rd wb ex fn St ops (i::rest) Q s (L,W) a:=by
 have hne : fn'.name ≠ "runtime.NumGoroutine" := by simpa using hnm
 have hb2:fn'.body≠none:=fun h=>by rw [h] at hb;cases hb
 refine opsI_call (x:=(L,W)) hi hw (fun _=>(L,W)) id (fun w hs=>⟨?_,?_⟩) (fun _ _=>hc) fun s' x' v hp=>?_
 ·unfold execOp
  simp [ho,resolve,invoke,Deferred.ofValue,hx,hv.map,callFunc,hfn,hb2,hne,Sem.run_bind]
 ·rw [Conc.listed_nil (by
   unfold execOp
   simp [ho,resolve,invoke,Deferred.ofValue,hx,hv.map,callFunc,hfn,hb2,hne])]
  exact gd_still hs fun e he=>by simp at he
 ·rw [hd]
  exact h s' x' v hp _ (T.put hn hf v)
theorem oi_qm {L1:List (Nat×BA)} (hm:L1.Sublist L) (T:TmD df a n E) (hi:ops[i]? = some op) (hr:RunsE P op a v) (h:∀ a',TmD df a' n ((t,v)::E)→oI P main I Rd wb ex fn St ops rest Q s (L1,W) a')
  (hw:Region.wanted op (yielded ops a.tmps)=true:=by rfl) (hd:op.dst=some t:=by rfl) (hf:freshE E t=true:=by rfl) (hn:Nat.blt t n=true:=by rfl):oI P main I Rd wb ex fn St ops (i::rest) Q s (L,W) a:=by
 refine opsI_value (x:=(L,W)) hi hw (fun _=>v) (fun _=>(L1,W)) id (fun w hs=>⟨hr.run w,?_⟩) fun w hs=>by rw [hd];exact h _ (T.put hn hf v)
 rw [Conc.listed_nil (hr.ev w)]
 exact ⟨id,⟨hs.1.sub hm,hs.2.1,fun p hp=>hs.2.2 p (hm.subset hp)⟩,⟨w.heap,w.drawn,Z⟩,Nat.le_refl _,fun _ _ _=>Z,fun _ h=>h,fun _ h=>.inl h,fun e he=>by simp at he⟩
end
section
variable {P:Program} {main:Bool} {Y:Type} {I:World→Prop} {Rd:Nat→Prop} {wb:World} {ex:Nat→Prop} {fn:FuncId} {St:Y→XS→Goroutine→Prop} {Q:Exit→Y→XS→Act→Prop} {s:Y} {x:XS} {a:Act} {df:List Deferred} {n t:Nat} {E:List (Nat×Value)} {v:Value}
theorem ki_reg {id:Nat} {ops:Array Oper} (l:List Nat) (h:oI P main I Rd wb ex fn St ops l Q s x a) (hl:List.range ops.size=l:=by rfl):wI P main I Rd wb ex fn St (.region id ops false) Q s x a:=by
 subst hl
 exact wpI_region (side_terms I (mSide wb ex) Rd) h
theorem oi_nil {ops:Array Oper} (h:Q .normal s x a):oI P main I Rd wb ex fn St ops [] Q s x a:=opsI_nil (side_terms I (mSide wb ex) Rd) h
theorem ki_seq {y z:Code} (h:wI P main I Rd wb ex fn St y (thenI (wpI P main (mSide wb ex).Sit (Gd I (mSide wb ex) Rd) St fn z Q) Q) s x a):wI P main I Rd wb ex fn St (.seq y z) Q s x a:=wpI_seq (side_terms I (mSide wb ex) Rd) h
theorem ki_skip (h:Q .normal s x a):wI P main I Rd wb ex fn St .skip Q s x a:=wpI_skip (side_terms I (mSide wb ex) Rd) h
theorem ki_ret (h:Q .ret s x a):wI P main I Rd wb ex fn St .ret Q s x a:=wpI_ret (side_terms I (mSide wb ex) Rd) h
theorem ki_exit {id:Nat} (h:Q (.exit id) s x a):wI P main I Rd wb ex fn St (.exit id) Q s x a:=wpI_exit (side_terms I (mSide wb ex) Rd) h
theorem ki_block {id:Nat} {c:Code} (h:wI P main I Rd wb ex fn St c (blockI id Q) s x a):wI P main I Rd wb ex fn St (.block id c) Q s x a:=wpI_block (side_terms I (mSide wb ex) Rd) h
theorem ki_if {c:Operand} {y z:Code} {p:Prop} [Decidable p] (hc:a.eval c=.bool (decide p)) (ht:p→wI P main I Rd wb ex fn St y Q s x a) (hf : ¬ p→wI P main I Rd wb ex fn St z Q s x a):wI P main I Rd wb ex fn St (.cond c y z) Q s x a:=by
 refine wpI_cond (side_terms I (mSide wb ex) Rd) hc ?_
 by_cases h:p
 · rw [Zdt h,if_pos rfl];exact ht h
 · rw [Zdf h,if_neg (by simp)];exact hf h
theorem ki_ifb {c:Operand} {y z:Code} (b:Bool) (hc:a.eval c=.bool b) (h:wI P main I Rd wb ex fn St (if b then y else z) Q s x a):wI P main I Rd wb ex fn St (.cond c y z) Q s x a:=wpI_cond (side_terms I (mSide wb ex) Rd) hc h
theorem ki_loop {c:Code} (K:Nat→Y→XS→Act→Prop) (h₀:∃ m,K m s x a)
  (round:∀ m s x a,K m s x a→wI P main I Rd wb ex fn St c (thenI (fun s' x' a'=>∃ m',m' < m∧K m' s' x' a') Q) s x a):wI P main I Rd wb ex fn St (.loop c) Q s x a:=wpI_loop (side_terms I (mSide wb ex) Rd) K h₀ round
theorem ti_then {K:Y→XS→Act→Prop} (h:K s x a):thenI K Q .normal s x a:=h
theorem xi_then {K:Y→XS→Act→Prop} {id:Nat} (h:Q (.exit id) s x a):thenI K Q (.exit id) s x a:=h
theorem ri_then {K:Y→XS→Act→Prop} (h:Q .ret s x a):thenI K Q .ret s x a:=h
theorem ti_blk {id:Nat} (h:Q .normal s x a):blockI id Q .normal s x a:=h
theorem ri_blk {id:Nat} (h:Q .ret s x a):blockI id Q .ret s x a:=h
theorem xi_hit {id:Nat} (h:Q .normal s x a):blockI id Q (.exit id) s x a:=by simp only [blockI,if_true];exact h
theorem px_enterI {f:FuncId} {fn':Func} {c:Code} {args:Array Value} {Post:Y→XS→Value→Prop} (hf:P.funcs[f]? = some fn') (hb:fn'.body=some c) (n:Nat) (hn:fn'.ntmps=n) (vs:List Value) (ha:args=vs.toArray) (hle:Nat.ble vs.length n=true)
  (h:∀ a,Tm a n (numE 0 vs)→wI P main I Rd wb ex f St c (bodyPostI P fn' Post) s x a):CallsI P main (mSide wb ex).Sit (Gd I (mSide wb ex) Rd) St f args s x Post:=by
 subst ha
 have hle:=Nat.le_of_ble_eq_true hle
 refine callsI_of_wpI (side_terms I (mSide wb ex) Rd) hf hb (h _ ⟨rfl,?_,fun p hp=>?_⟩)
 ·simp [hn];omega
 ·obtain ⟨i,h1,h2⟩:=numE_get vs 0 p hp
  have hi:i < vs.length:=(List.getElem?_eq_some_iff.1 h2).1
  have e:p.1=i:=by omega
  rw [e]
  have h3:(vs.toArray++Array.replicate (fn'.ntmps - vs.toArray.size) undef)[i]? = some p.2:=by
   rw [Array.getElem?_append_left (by simpa using hi)]
   simpa using h2
  show (vs.toArray++Array.replicate (fn'.ntmps - vs.toArray.size) undef).getD i undef=p.2
  simp only [Array.getD_eq_getD_getElem?,h3,Option.getD_some]
theorem ri_1 {fn':Func} {Post:Y→XS→Value→Prop} {t:Tmp} (T:Tm a n E) (hr:fn'.results = #[.tmp t]) (hv:a.eval (.tmp t)=v) (h:Post s x v):bodyPostI P fn' Post .ret s x a :=
 ⟨T.defers,v,by have:=Conc.resultsC_tmp (P:=P) hr a.tmps;rw [show a.tmps.getD t undef=v from hv] at this;exact this,h⟩
theorem ri_0 {fn':Func} {Post:Y→XS→Value→Prop} (T:Tm a n E) (hr:fn'.results = #[]) (h:Post s x (.tuple #[])):bodyPostI P fn' Post .ret s x a :=
 ⟨T.defers,_,Conc.resultsC_none hr a.tmps,h⟩
theorem ni_0 {fn':Func} {Post:Y→XS→Value→Prop} (T:Tm a n E) (hr:fn'.results = #[]) (h:Post s x (.tuple #[])):bodyPostI P fn' Post .normal s x a :=
 ⟨T.defers,_,Conc.resultsC_none hr a.tmps,h⟩
end
section
variable {P:Program} {main:Bool} {Y:Type} {I:World→Prop} {Rd:Nat→Prop} {wb:World} {ex:Nat→Prop} {fn:FuncId} {St:Y→XS→Goroutine→Prop} {Q:Exit→Y→XS→Act→Prop} {s:Y} {L L1:List (Nat×BA)} {W:Nat→Prop} {a:Act}
def Weak {Y:Type} (St:Y→XS→Goroutine→Prop):Prop:=∀ (y:Y) (L L1:List (Nat×BA)) (W:Nat→Prop) (g:Goroutine),L1.Sublist L→St y (L1,W) g→St y (L,W) g
theorem tree_weak {Sp:XS→Goroutine→Prop} (hS:∀ g,Sp (L1,W) g→Sp (L,W) g) (hm:L1.Sublist L) {g:Goroutine} (h:TreeI P main (mSide wb ex).Sit (Gd I (mSide wb ex) Rd) Sp (L1,W) g):TreeI P main (mSide wb ex).Sit (Gd I (mSide wb ex) Rd) Sp (L,W) g:=by
 have hs:∀ w,(mSide wb ex).Sit (L,W) w→(mSide wb ex).Sit (L1,W) w:=fun w h=>⟨h.1.sub hm,h.2.1,fun p hp=>h.2.2 p (hm.subset hp)⟩
 cases h with
 | stop h=>exact .stop (hS g h)
 | step hst hdy x1 g1 w1 es h ht =>
  refine .step hst hdy x1 g1 w1 es (fun w hw=>⟨(h w (hs w hw)).1,?_⟩) fun w hw=>ht w (hs w hw)
  have q:=(h w (hs w hw)).2
  exact ⟨q.inv,q.sit,q.turn,q.size,q.keep,q.up,q.new,q.ev⟩
theorem oi_weak (hW:Weak St) (hm:L1.Sublist L) {ops:Array Oper} {rest:List Nat} (h:oI P main I Rd wb ex fn St ops rest Q s (L1,W) a):oI P main I Rd wb ex fn St ops rest Q s (L,W) a :=
 fun b k cs hb hk hc=>tree_weak (fun g=>hW s L L1 W g hm) hm (h b k cs hb hk hc)
theorem ki_weak (hW:Weak St) (hm:L1.Sublist L) {c:Code} (h:wI P main I Rd wb ex fn St c Q s (L1,W) a):wI P main I Rd wb ex fn St c Q s (L,W) a :=
 fun b k cs hb hk hc=>tree_weak (fun g=>hW s L L1 W g hm) hm (h b k cs hb hk hc)
theorem weak_prod {c:Nat}:∀ (vs:List Value) (L L1:List (Nat×BA)) (W:Nat→Prop) (g:Goroutine),L1.Sublist L→Prod P c I (mSide wb ex) Rd vs (L1,W) g→Prod P c I (mSide wb ex) Rd vs (L,W) g
 | [],L,L1,W,g,hm,h=>tree_weak (Sp:=fun _ g=>AtClose P c g) (fun _ h=>h) hm h
 | v::vs,L,L1,W,g,hm,h=>tree_weak (Sp:=fun x g=>AtSend P c v g∧Prod P c I (mSide wb ex) Rd vs x (Conc.served (Conc.core g) undef)) (fun g h=>⟨h.1,weak_prod vs L L1 W _ hm h.2⟩) hm h
theorem weak_B {c:Nat}:Weak (StB P c I (mSide wb ex) Rd)
 | [],_,_,_,_,_,h=>h
 | _::vs,L,L1,W,_,hm,h=>⟨h.1,weak_prod vs L L1 W _ hm h.2⟩
end
def lookE:List (Nat×Value)→Nat→Option Value
 | [],_=>none
 | p::r,t=>match Nat.beq p.1 t with
  | true=>some p.2
  | false=>lookE r t
theorem lookE_mem:∀ {E:List (Nat×Value)} {t:Nat} {v:Value},lookE E t=some v→(t,v)∈E
 | [],_,_,h=>by cases h
 | p::r,t,v,h=>by
  unfold lookE at h
  cases hb:Nat.beq p.1 t with
  | true =>
   rw [hb] at h
   have e:p.1=t:=Nat.eq_of_beq_eq_true hb
   simp only [Option.some.injEq] at h
   subst e;subst h
   exact Zz2
  | false =>
   rw [hb] at h
   exact Zz1 (lookE_mem h)
theorem TmD.at {df:List Deferred} {a:Act} {n t:Nat} {E:List (Nat×Value)} {v:Value} (T:TmD df a n E) (h:lookE E t=some v):a.eval (.tmp t)=v:=T.get _ (lookE_mem h)
def selE (E:List (Nat×Value)):List Nat→Option (List (Nat×Value))
 | []=>some []
 | t::r=>match lookE E t with
  | none=>none
  | some v=>match selE E r with
   | none=>none
   | some l=>some ((t,v)::l)
theorem selE_mem {E:List (Nat×Value)}:∀ {ts:List Nat} {E':List (Nat×Value)},selE E ts=some E'→∀ p∈E',p∈E
 | [],E',h,p,hp=>by simp [selE] at h;subst h;cases hp
 | t::r,E',h,p,hp=>by
  unfold selE at h
  cases h1:lookE E t with
  | none=>rw [h1] at h;cases h
  | some v =>
   rw [h1] at h
   cases h2:selE E r with
   | none=>rw [h2] at h;cases h
   | some l =>
    rw [h2] at h
    simp only [Option.some.injEq] at h
    subst h
    rcases Zx7.1 hp with rfl | hp
    ·exact lookE_mem h1
    ·exact selE_mem h2 p hp
theorem TmD.sel {df:List Deferred} {a:Act} {n:Nat} {E E':List (Nat×Value)} (T:TmD df a n E) (ts:List Nat) (h:selE E ts=some E'):TmD df a n E':=⟨T.defers,T.size,fun p hp=>T.get p (selE_mem h p hp)⟩
end
section
open Go.RowKit Go.Proofs.Ytoheddpnnjldgaa.Bi Go.Proofs.Ytoheddpnnjldgaa.Bq
theorem TmD.plus {df:List Deferred} {a:Act} {n t:Nat} {E:List (Nat×Value)} {v:Value} (T:TmD df a n E) (h:a.eval (.tmp t)=v):TmD df a n ((t,v)::E) :=
 ⟨T.defers,T.size,fun p hp=>by rcases Zx7.1 hp with rfl | hp;exact h;exact T.get p hp⟩
def lowE (m:Nat) (E:List (Nat×Value)):Bool:=E.all fun p=>Nat.blt p.1 m
theorem TmD.over {df:List Deferred} {a:Act} {n t m:Nat} {E:List (Nat×Value)} (T:TmD df a n E) (h:lowE m E=true) (ht:m≤t) (v:Value):TmD df (a.put (some t) v) n E:=by
 refine ⟨T.defers,by simpa [Act.put] using T.size,fun p hp=>?_⟩
 have h1:p.1 < m:=Nat.le_of_ble_eq_true (List.all_eq_true.1 h p hp)
 have hne:p.1≠t:=by omega
 rw [Act.eval_put (fun d hd e=>hne (by injection hd with hd;injection e with e;rw [hd,e]))]
 exact T.get p hp
def dstOk (ops:Array Oper) (m:Nat):Bool:=(List.range ops.size).all fun i=>match ops[i]? with
 | some o=>match o.dst with
  | some t=>Nat.beq t (m+i)
  | none=>false
 | none=>true
theorem dstOk_spec {ops:Array Oper} {m i:Nat} {o:Oper} (h:dstOk ops m=true) (ho:ops[i]? = some o):o.dst=some (m+i):=by
 unfold dstOk at h
 have:=List.all_eq_true.1 h i (List.mem_range.2 (Array.getElem?_eq_some_iff.1 ho).1)
 simp only [ho] at this
 cases hd:o.dst with
 | none=>rw [hd] at this;cases this
 | some t=>rw [hd] at this;rw [Nat.eq_of_beq_eq_true this]
def predB (o:Oper) (j:Nat):Bool:=o.after.any fun e=>Nat.beq e.on j && Region.binds .any e
theorem predB_spec {o:Oper} {j:Nat} (h:predB o j=true):∃ e∈o.after,Region.binds .any e=true∧e.on=j:=by
 obtain ⟨e,he,h1⟩:=Array.any_eq_true'.1 h
 simp only [Bool.and_eq_true] at h1
 exact ⟨e,he,h1.2,Nat.eq_of_beq_eq_true h1.1⟩
section
variable {P:Program} {main:Bool} {Y:Type} {I:World→Prop} {rd:Nat→Prop} {wb:World} {ex:Nat→Prop} {fn:FuncId} {St:Y→XS→Goroutine→Prop} {Q:Exit→Y→XS→Act→Prop} {s:Y} {L:List (Nat×BA)} {W:Nat→Prop} {a:Act}
variable {df:List Deferred} {ops:Array Oper} {i:Nat} {rest:List Nat} {op:Oper} {v:Value} {n t:Nat} {E:List (Nat×Value)}
theorem m_draw (hd:∀ w d,I w→I (w.at d)) {x:XS} {w:World} (hs:(mSide wb ex).Sit x w):Gd I (mSide wb ex) rd x x w { w with drawn:=w.drawn+1 } #[] :=
 ⟨hd w _,⟨hs.1.drew,hs.2.1,hs.2.2⟩,⟨w.heap,w.drawn+1,rfl⟩,Nat.le_refl _,fun _ _ _=>rfl,fun _ h=>h,fun _ h=>.inl h,fun e he=>by simp at he⟩
theorem ki_det (hm:P.follows .mixedOrders=true) (hdr:∀ w d,I w→I (w.at d)) {id:Nat} (m:Nat) (vals:List Value) (T:TmD df a n E) (hlow:lowE m E=true) (hdst:dstOk ops m=true) (hfw:fwd ops=true) (hn:m+ops.size≤n)
  (hop:∀ (i:Nat) (o:Oper) (W':Nat→Prop) (a':Act),(∀ b,W b→W' b)→ops[i]? = some o→TmD df a' n E→(∀ j,predB o j=true→a'.eval (.tmp (m+j))=vals.getD j undef)→∀ (rest:List Nat) (Q':Exit→Y→XS→Act→Prop),
   (∀ W'':Nat→Prop,(∀ b,W' b→W'' b)→oI P main I rd wb ex fn St ops rest Q' s (L,W'') (a'.put o.dst (vals.getD i undef)))→oI P main I rd wb ex fn St ops (i::rest) Q' s (L,W') a')
  (hfin:∀ (W':Nat→Prop) (a':Act),(∀ b,W b→W' b)→TmD df a' n E→(∀ i,i < ops.size→a'.eval (.tmp (m+i))=vals.getD i undef)→Q .normal s (L,W') a'):wI P main I rd wb ex fn St (.region id ops true) Q s (L,W) a:=by
 refine wpI_det (side_terms I (mSide wb ex) rd) hm (fun i=>m+i) (fun i=>vals.getD i undef) (fun x a=>(∃ W':Nat→Prop,x=(L,W')∧∀ b,W b→W' b)∧TmD df a n E) (fun x w hs=>m_draw hdr hs) (fun i o ho=>dstOk_spec hdst ho) (fun i j _ _ h=>by simpa using h) hfw
  (fun x a hJ i hi=>by show m+i < _;rw [hJ.2.size];omega) (fun x a i v hJ hi=>⟨hJ.1,hJ.2.over hlow (Nat.le_add_right _ _) v⟩) ⟨⟨W,rfl,fun _ h=>h⟩,T⟩ ?_ ?_
 ·rintro i o x a ho ⟨⟨W',rfl,hW⟩,T'⟩ hv rest Q' hk
  refine hop i o W' a hW ho T' (fun j hj=>?_) rest Q' fun W'' hW2=>hk _ ⟨⟨W'',Z,fun b hb=>hW2 b (hW b hb)⟩,T'⟩
  obtain ⟨e,he,hb,rfl⟩:=predB_spec hj
  exact hv e he hb
 ·rintro x a ⟨⟨W',rfl,hW⟩,T'⟩ hv
  exact hfin W' a hW T' hv
theorem d_q (ho:ops[i]? = some op) (hr:RunsE P op a v) {x:XS} (h:oI P main I rd wb ex fn St ops rest Q s x (a.put op.dst v)) (hw:Region.wanted op (yielded ops a.tmps)=true:=by rfl):oI P main I rd wb ex fn St ops (i::rest) Q s x a :=
 opsI_pure ho hw (fun w=>⟨hr.run w,hr.ev w⟩) h
theorem d_r (ho:ops[i]? = some op) (hr:ReadsI P rd wb ex L W op a v) (h:oI P main I rd wb ex fn St ops rest Q s (L,W) (a.put op.dst v)) (hw:Region.wanted op (yielded ops a.tmps)=true:=by rfl):oI P main I rd wb ex fn St ops (i::rest) Q s (L,W) a :=
 opsI_read ho hw (fun w hs=>⟨hr.run w hs,hr.ev w hs⟩) h
theorem d_call {Post:Y→XS→Value→Prop} {x:Operand} {xs:List Operand} {ts:Array TypeId} {f:FuncId} {first cap vs:List Value} {fn':Func} (hi:ops[i]? = some op) (ho:op.op=.call { callee:=.value x,args:=xs.toArray,argTypes:=ts })
  (hx : a.eval x = .func (.func f) first.toArray cap.toArray) (hv : EvL a xs vs) (hfn : P.funcs[f]? = some fn') (hnm : (fn'.name == "runtime.NumGoroutine") = false) (hb : fn'.body.isNone = false)
  (hc:CallsI P main (mSide wb ex).Sit (Gd I (mSide wb ex) rd) St f (first++vs++cap).toArray s (L,W) Post)
  (h:∀ s' x' v,Post s' x' v→oI P main I rd wb ex fn St ops rest Q s' x' (a.put op.dst v))
  (hw:Region.wanted op (yielded ops a.tmps)=true:=by rfl):oI P main I rd wb ex fn St ops (i::rest) Q s (L,W) a:=by
 have hne : fn'.name ≠ "runtime.NumGoroutine" := by simpa using hnm
 have hb2:fn'.body≠none:=fun h=>by rw [h] at hb;cases hb
 refine opsI_call (x:=(L,W)) hi hw (fun _=>(L,W)) id (fun w hs=>⟨?_,?_⟩) (fun _ _=>hc) fun s' x' v hp=>h s' x' v hp
 ·unfold execOp
  simp [ho,resolve,invoke,Deferred.ofValue,hx,hv.map,callFunc,hfn,hb2,hne,Sem.run_bind]
 ·rw [Conc.listed_nil (by
   unfold execOp
   simp [ho,resolve,invoke,Deferred.ofValue,hx,hv.map,callFunc,hfn,hb2,hne])]
  exact gd_still hs fun e he=>by simp at he
theorem oi_send {c:Nat} {Q:Exit→List Value→XS→Act→Prop} {vs:List Value} {x y:Operand} (hi:ops[i]? = some op) (ho:op.op=.send x y) (hx:a.eval x=.chan (some c)) (hy:a.eval y=v)
  (h:oI P false I rd wb ex fn (StB P c I (mSide wb ex) rd) ops rest Q vs (L,W) (a.put op.dst undef)) (hw:Region.wanted op (yielded ops a.tmps)=true:=by rfl):oI P false I rd wb ex fn (StB P c I (mSide wb ex) rd) ops (i::rest) Q (v::vs) (L,W) a :=
 opsI_send (z':=.tuple #[]) hi hw (fun w=>⟨by unfold execOp;simp only [ho,hx,hy];rfl,by unfold execOp;simp only [ho];rfl⟩) h
theorem recv_run {c:Nat} {z:Value} {f:Bool} {ty e:TypeId} {dr:ChanDir} {x:Operand} (ho:op.op=.recv ty x f) (hu:P.underlying ty=some (.chan dr e)) (hz:(P.info? e).map (·.zero)=some (some z)) (hx:a.eval x=.chan (some c)) (w:World) :
   (execOp a.eval op).run P w=.ok (.comm #[Conc.rcase c z] true (.recv f)) w∧(execOp a.eval op).events P w #[] = #[]:=by
 cases hq:P.info? e with
 | none=>rw [hq] at hz;simp at hz
 | some inf =>
   rw [hq] at hz
   simp at hz
   unfold execOp
   simp [ho,hx,run_underlying hu,zeroValue,typeInfo,hq,hz,Conc.rcase]
theorem oi_recv {c : Nat} {z : Value} {f : Bool} {Fin : XS → Goroutine → Prop} {Q : Exit → List Value → XS → Act → Prop} {vs : List Value} {ty e : TypeId} {dr : ChanDir} {x : Operand} (hi : ops[i]? = some op) (ho : op.op = .recv ty x f) (hu : P.underlying ty = some (.chan dr e)) (hz : (P.info? e).map (·.zero) = some (some z)) (hx : a.eval x = .chan (some c))
   (h:oI P true I rd wb ex fn (StA P c z f I (mSide wb ex) rd Fin) ops rest Q vs (L,W) (a.put op.dst (Conc.recvd f v true))) (hw:Region.wanted op (yielded ops a.tmps)=true:=by rfl):oI P true I rd wb ex fn (StA P c z f I (mSide wb ex) rd Fin) ops (i::rest) Q (v::vs) (L,W) a :=
 opsI_recv hi hw (recv_run ho hu hz hx) h
theorem old_rd {w:World} {c:Nat} {p:Addr} {u:Value} {o:Obj} (hc:w.heap[c]? = some o) (ho:o.isChan=true) (h:w.cell? p=some u):p.block < w.heap.size∧p.block≠c:=by
 unfold World.cell? at h
 cases hb:w.heap[p.block]? with
 | none=>rw [hb] at h;cases h
 | some o' =>
  refine ⟨(Array.getElem?_eq_some_iff.1 hb).1,fun e=>?_⟩
  rw [hb] at h
  rw [e,hc] at hb
  cases hb
  cases o <;> first | (simp [Obj.isChan] at ho;done) | cases h
end
end
section
open Go.RowKit Go.Proofs.Ytoheddpnnjldgaa.Bi Go.Proofs.Ytoheddpnnjldgaa.Bq
section
variable {main:Bool} {Y:Type} {I:World→Prop} {rd:Nat→Prop} {wb:World} {ex:Nat→Prop} {St:Y→XS→Goroutine→Prop} {s:Y}
abbrev cI (main:Bool) {Y:Type} (I:World→Prop) (rd:Nat→Prop) (wb:World) (ex:Nat→Prop) (St:Y→XS→Goroutine→Prop) (f:FuncId) (args:Array Value) (s:Y) (x:XS) (Post:Y→XS→Value→Prop):Prop :=
 CallsI Try.prog main (mSide wb ex).Sit (Gd I (mSide wb ex) rd) St f args s x Post
theorem in_I (n lo hi:Int) (x:XS):cI main I rd wb ex St 76 #[Zi n,Zi lo,Zi hi] s x (fun s' x' v=>s'=s∧x'=x∧v=.bool (decide (lo≤n∧n≤hi))):=by
 obtain ⟨L,W⟩:=x
 refine px_enterI Try.func76 Z 15 Z [Zi n,Zi lo,Zi hi] Z Z fun a T=>?_
 replace T:=T.sel [2,1,0] rfl
 refine ki_seq ?_
 refine ki_reg [0] ?_
 refine oi_q T Z (re_assign Z evc) ?_;clear T a;intro a T
 refine oi_nil ?_
 refine ti_then ?_
 refine ki_seq ?_
 by_cases h:lo≤n
 ·skip
  refine ki_reg [0,1,2,3,4,5,6,7,8] ?_
  refine oi_q T Z (re_move Z (T.at Z)) ?_;clear T a;intro a T
  refine oi_q T Z (re_move Z (T.at Z)) ?_;clear T a;intro a T
  refine oi_q T Z (re_leq Z (T.at Z) (T.at Z)) ?_;clear T a;intro a T
  refine oi_q T Z (re_move Z (T.at Z)) ?_;clear T a;intro a T
  refine oi_q T Z (re_move Z (T.at Z)) ?_ (Zwy (t:=10) Z Z (T.at Z) (Zdt h));clear T a;intro a T
  refine oi_q T Z (re_move Z (T.at Z)) ?_ (Zwy (t:=10) Z Z (T.at Z) (Zdt h));clear T a;intro a T
  refine oi_q T Z (re_leq Z (T.at Z) (T.at Z)) ?_ (Zwy (t:=10) Z Z (T.at Z) (Zdt h));clear T a;intro a T
  refine oi_q T Z (re_pick1 Z (T.at Z) (Zdt h) (T.at Z)) ?_;clear T a;intro a T
  replace T:=T.sel [14,13,12,11,10,9,8,7,2,1,0] rfl
  refine oi_q T Z (re_assign Z (T.at Z)) ?_;clear T a;intro a T
  refine oi_nil ?_
  refine ti_then ?_
  refine ki_ret ?_
  refine ri_1 T Z (T.at Z) ⟨rfl,Z,?_⟩
  simp [h]
 ·skip
  refine ki_reg [0,1,2,3,4,5,6,7,8] ?_
  refine oi_q T Z (re_move Z (T.at Z)) ?_;clear T a;intro a T
  refine oi_q T Z (re_move Z (T.at Z)) ?_;clear T a;intro a T
  refine oi_q T Z (re_leq Z (T.at Z) (T.at Z)) ?_;clear T a;intro a T
  refine oi_q T Z (re_move Z (T.at Z)) ?_;clear T a;intro a T
  refine oi_pass T Z ?_ (Zwn (t:=10) Z Z (T.at Z) (Zdf h));clear T a;intro a T
  refine oi_pass T Z ?_ (Zwn (t:=10) Z Z (T.at Z) (Zdf h));clear T a;intro a T
  refine oi_pass T Z ?_ (Zwn (t:=10) Z Z (T.at Z) (Zdf h));clear T a;intro a T
  refine oi_q T Z (re_pick0 Z (T.at Z) (Zdf h) evc) ?_;clear T a;intro a T
  replace T:=T.sel [14,13,12,11,10,9,8,7,2,1,0] rfl
  refine oi_q T Z (re_assign Z (T.at Z)) ?_;clear T a;intro a T
  refine oi_nil ?_
  refine ti_then ?_
  refine ki_ret ?_
  refine ri_1 T Z (T.at Z) ⟨rfl,Z,?_⟩
  simp [h]
theorem rd_spot {wb:World} {size n:Nat} {A:Option Addr} {xs:List Value} (h:Rd wb wb.heap.size size A n xs):∃ b o,(0 < n→A=some ⟨b,o,none⟩)∧∀ j u,xs[j]? = some u→wb.cell? ⟨b,o+j,none⟩=some u:=by
 obtain ⟨b,o,h1,-,h3⟩:=h.spot
 exact ⟨b,o,h1,h3⟩
theorem ic_at {op:List Int} {k:Nat} (h:k < op.length):(ic op)[k]? = some (Zi (op.getD k 0)):=nthE_get (nthE_ic h)
def OldOk (wb:World) (rd ex:Nat→Prop):Prop:=∀ p v,wb.cell? p=some v→rd p.block∧p.block < wb.heap.size∧¬ ex p.block
theorem ri_oc {ty:TypeId} [OneTy Try.prog ty] {L:List (Nat×BA)} {W:Nat→Prop} {op:Oper} {a:Act} {v:Value} (hO:OldOk wb rd ex) {x:Operand} {p:Addr} (hc:wb.cell? p=some v) (ho:op.op=.load ty x) (hx:a.eval x=.pointer (some p)):ReadsI Try.prog rd wb ex L W op a v :=
 ri_ocell (hO p v hc).1 (hO p v hc).2.1 (hO p v hc).2.2 hc ho hx
theorem ri_or {ty:TypeId} {m:Nat} [hT:RowTy Try.prog ty (m+1)] {L:List (Nat×BA)} {W:Nat→Prop} {op:Oper} {a:Act} {g o:Nat} {ds:List Value} (hO:OldOk wb rd ex) {x:Operand} (hc:wb.rangeAt g o ds) (ho:op.op=.load ty x) (hx:a.eval x=.pointer (some ⟨g,o,none⟩)) (hm:ds.length=m+1):ReadsI Try.prog rd wb ex L W op a (.agg ds.toArray):=by
 obtain ⟨d,r,rfl⟩:∃ d r,ds=d::r:=by cases ds with | nil=>simp at hm | cons d r=>exact ⟨d,r,rfl⟩
 have:=hO ⟨g,o+0,none⟩ d (hc 0 d rfl)
 exact ri_orow this.1 this.2.1 this.2.2 hc ho hx hm
theorem total_I (hI:IKeeps Try.prog I) (hO:OldOk wb rd ex) {A:Option Addr} {c:Nat} (l op:List Int) (hl:l.length=4) (hv:∀ v∈l,0≤v∧v≤5) (hn:op.length≤1000) (hr:∀ c∈op,0≤c∧c < 4) (hA:Rd wb wb.heap.size 1 A op.length (ic op)) (L:List (Nat×BA)) (W:Nat→Prop) (hfl:flatL L=true) :
  cI main I rd wb ex St 79 #[.agg (ic l).toArray,.slice A op.length c] s (L,W) (fun s' x' v=>s'=s∧v=Zi (totL l op)∧∃ W':Nat→Prop,x'=(L,W')∧∀ b,W b→W' b):=by
 obtain ⟨bo,oo,hA1,hA2⟩:=rd_spot hA
 refine px_enterI Try.func79 Z 21 Z [.agg (ic l).toArray,.slice A op.length c] Z Z fun a T=>?_
 replace T:=T.sel [1,0] rfl
 refine ki_seq ?_
 refine ki_reg [0,1] ?_
 refine oi_bx hI T rfl rfl (T.at rfl) (l:=ic l) rfl ?_ hfl;intro g W1 a1 hW1 T1;clear T a;replace T:=T1;obtain ⟨a,rfl⟩:∃ a,a=a1:=⟨_,rfl⟩;clear T1
 refine oi_q T Z (re_assign Z evc) ?_;clear T a;intro a T
 refine oi_nil ?_
 refine ti_then ?_
 refine ki_seq ?_
 refine ki_reg [0] ?_
 refine oi_q T Z (re_assign Z evc) ?_;clear T a;intro a T
 refine oi_nil ?_
 refine ti_then ?_
 refine ki_seq ?_
 refine ki_seq ?_
 refine ki_reg [0,1,2] ?_
 refine oi_q T Z (re_move Z (T.at Z)) ?_;clear T a;intro a T
 refine oi_q T Z (re_lenS Z Try.underlying28 (T.at Z)) ?_;clear T a;intro a T
 refine oi_q T Z (re_move Z evc) ?_;clear T a;intro a T
 refine oi_nil ?_
 refine ti_then ?_
 refine ki_block ?_
 refine ki_loop (fun m s' x' a=>∃ (k:Nat) (W':Nat→Prop),m=op.length - k∧k≤op.length∧s'=s∧x'=((g,.cells (ic l))::L,W')∧(∀ b,W b→W' b)∧Tm a 21 [(2,Zj g),(5,Zi (totL l (op.take k))),(8,.slice A op.length c),(9,Zi (op.length:Int)),(10,Zi (k:Int))]) ⟨_,0,W1,Z,Nat.zero_le _,Z,Z,hW1,T.sel [2,5,8,9,10] Z⟩ ?_
 rintro m s' x' a ⟨k,W',rfl,hk,rfl,rfl,hW',T⟩
 refine ki_seq ?_
 refine ki_reg [0] ?_
 refine oi_q T Z (re_lss Z (T.at Z) (T.at Z)) ?_;clear T a;intro a T
 refine oi_nil ?_
 refine ti_then ?_
 refine ki_seq ?_
 refine ki_if (T.at Z) (fun h=>?_) (fun h=>?_)
 ·skip
  refine ki_skip ?_
  refine ti_then ?_
  refine ki_seq ?_
  refine ki_block ?_
  refine ki_seq ?_
  have hk2:k < op.length:=by omega
  have hc4:0≤op.getD k 0∧op.getD k 0 < 4:=hr _ (by rw [List.getD_eq_getElem?_getD,List.getElem?_eq_getElem hk2];exact List.getElem_mem hk2)
  have hb1:=totL_bound (op:=op.take k) hv
  have hle1:(op.take k).length≤1000:=by rw [List.length_take];omega
  have hb2:0≤l.getD (op.getD k 0).toNat 0∧l.getD (op.getD k 0).toNat 0≤5:=hv _ (by rw [List.getD_eq_getElem?_getD,List.getElem?_eq_getElem (by omega)];exact List.getElem_mem _)
  refine ki_reg [0,1,2] ?_
  refine oi_q T Z (re_indexAddr (size:=1) k Z (T.at Z) (T.at Z) ⟨_,Try.underlying28,by kernel_rfl⟩ Z (by omega) (hA1 (by omega))) ?_;clear T a;intro a T
  refine oi_r T Z (ri_oc hO (by rw [Nat.mul_one];exact hA2 k _ (ic_at (by omega))) Z (T.at Z)) ?_;clear T a;intro a T
  refine oi_q T Z (re_assign Z (T.at Z)) ?_;clear T a;intro a T
  refine oi_nil ?_
  refine ti_then ?_
  refine ki_reg [0,1,2,3,4,5] ?_
  refine oi_q T Z (re_move Z (T.at Z)) ?_;clear T a;intro a T
  refine oi_q T Z (re_move Z (T.at Z)) ?_;clear T a;intro a T
  refine oi_q T Z (re_indexArr (size:=1) (op.getD k 0).toNat Z (T.at Z) (T.at Z) Try.underlying109 (by kernel_rfl) (by omega) (by omega)) ?_;clear T a;intro a T
  refine oi_r T Z (ri_cell (Zne (i:=0) Z) Z (T.at Z) (by rw [Nat.mul_one];exact nthE_ic (by omega))) ?_;clear T a;intro a T
  refine oi_q T Z (re_add Z (T.at Z) (T.at Z) (by omega)) ?_;clear T a;intro a T
  replace T:=T.sel [18,17,16,15,14,7,13,12,11,2,8,9,10] rfl
  refine oi_q T Z (re_assign Z (T.at Z)) ?_;clear T a;intro a T
  refine oi_nil ?_
  refine ti_blk ?_
  refine ti_then ?_
  refine ki_reg [0,1] ?_
  refine oi_q T Z (re_add Z (T.at Z) evc (by omega)) ?_;clear T a;intro a T
  replace T:=T.sel [19,5,18,17,16,15,14,7,13,12,11,2,8,9] rfl
  refine oi_q T Z (re_move Z (T.at Z)) ?_;clear T a;intro a T
  refine oi_nil ?_
  refine ti_then ?_
  refine ⟨_,?_,k+1,W',Z,by omega,Z,Z,hW',?_⟩
  ·omega
  ·have e1:=totL_succ l op (k:=k) (c:=op.getD k 0) (by rw [List.getD_eq_getElem?_getD,List.getElem?_eq_getElem hk2];rfl)
   rw [e1,show ((k+1:Nat):Int)=(k:Int)+1 by push_cast;rfl]
   exact T.sel [2,5,8,9,10] Z
 ·skip
  refine ki_exit ?_
  refine xi_then ?_
  refine xi_then ?_
  refine xi_hit ?_
  refine ti_then ?_
  refine ki_seq ?_
  refine ki_reg [0,1] ?_
  refine oi_qm (List.sublist_cons_self _ _) T Z (re_move Z (T.at Z)) ?_;clear T a;intro a T
  refine oi_q T Z (re_assign Z (T.at Z)) ?_;clear T a;intro a T
  refine oi_nil ?_
  refine ti_then ?_
  refine ki_ret ?_
  refine ri_1 T Z (T.at Z) ⟨rfl,?_,W',Z,hW'⟩
  rw [show k=op.length by omega,List.take_length]
end
end
section
open Go.RowKit Go.Proofs.Ytoheddpnnjldgaa.Bi Go.Proofs.Ytoheddpnnjldgaa.Bq
section
variable {I:World→Prop} {rd:Nat→Prop} {wb:World} {ex:Nat→Prop}
def lvV (l:List Int):Value:=.agg (ic l).toArray
structure BEnv (wb:World) (rd ex:Nat→Prop) (gb gn go c:Nat) (b:Bw) (A:Option Addr) (ca:Nat) (B:Option Addr) (cb:Nat):Prop where
 ok:OldOk wb rd ex
 box:∀ j u,(b.cells A ca B cb)[j]? = some u→wb.cell? ⟨gb,j,none⟩=some u
 next:wb.cell? ⟨gn,0,none⟩=some (.func (.func 139) #[] #[Zj gb,Zj gn,Zj go])
 out:wb.cell? ⟨go,0,none⟩=some (.chan (some c))
 cs:Rd wb wb.heap.size 2 A b.cs.length (rc b.cs)
 ts:Rd wb wb.heap.size 4 B b.ts.length (lkc b.ts)
 op:∀ t∈b.ts,Rd wb wb.heap.size 1 t.A t.op.length (ic t.op)
 n4:b.cs.length≤4
 cr:∀ x∈b.cs,0≤x.1∧x.1≤5∧0≤x.2∧x.2≤5
 tr:∀ t∈b.ts,(1≤t.sec∧t.sec≤20)∧t.op.length≤1000∧∀ c∈t.op,0≤c∧c < 4
 tn:b.ts.length≤1000
theorem lkc_at {ts:List Lk} {k:Nat} (h:k < ts.length):∀ j,j < 4→(lkc ts)[k * 4+j]? = ((ts[k]).cells)[j]?:=by
 induction ts generalizing k with
 | nil=>simp at h
 | cons t r ih =>
  intro j hj
  cases k with
  | zero =>
   show ((t.cells++lkc r))[0 * 4+j]? = _
   rw [List.getElem?_append_left (by simp [Lk.cells];omega)]
   simp
  | succ k =>
   show ((t.cells++lkc r))[(k+1) * 4+j]? = _
   have hl:t.cells.length=4:=rfl
   rw [List.getElem?_append_right (by omega),show (k+1) * 4+j - t.cells.length=k * 4+j by omega]
   exact ih (by simpa using h) j hj
theorem lkc_range {wb:World} {ts:List Lk} {g o k:Nat} (h:∀ j u,(lkc ts)[j]? = some u→wb.cell? ⟨g,o+j,none⟩=some u) (hk:k < ts.length):wb.rangeAt g (o+k * 4) (ts[k]).cells:=by
 intro j v hv
 have hj:j < 4:=by have:=(List.getElem?_eq_some_iff.1 hv).1;simpa [Lk.cells] using this
 have:=lkc_at hk j hj
 rw [hv] at this
 have h2:=h _ _ this
 rwa [← Nat.add_assoc] at h2
theorem rc_at0 {cs:List (Int×Int)} {k:Nat} {x:Int×Int} (h:cs[k]? = some x):(rc cs)[k * 2+0]? = some (Zi x.1)∧(rc cs)[k * 2+1]? = some (Zi x.2):=rc_get cs k x h
def truthV (ts:List Lk) (r:List (Int×Int)) (k:Nat) (l:List Int):List Value:=(trs ts r k l).map lvV
set_option maxHeartbeats 4000000 in
set_option maxRecDepth 10000 in
theorem nextS_I {gb gn go c:Nat} {b:Bw} {A:Option Addr} {ca:Nat} {B:Option Addr} {cb:Nat} (hI:IKeeps Try.prog I) (hdr:∀ w d,I w→I (w.at d)) (H:BEnv wb rd ex gb gn go c b A ca B cb):∀ (r:List (Int×Int)) (k:Nat) (kI:Int) (l:List Int) (vs:List Value) (L:List (Nat×BA)) (W:Nat→Prop),
   b.cs.drop k=r→k≤b.cs.length→kI=(k:Int)→l.length=4→(∀ v∈l,0≤v∧v≤5)→flatL L=true →
   cI false I rd wb ex (StB Try.prog c I (mSide wb ex) rd) 139 #[.agg (ic l).toArray,Zi kI,Zj gb,Zj gn,Zj go] (truthV b.ts r k l++vs) (L,W)
     (fun s' x' v=>s'=vs∧∃ W':Nat→Prop,x'=(L,W')∧∀ b,W b→W' b):=by
 have hW:=weak_B (P:=Try.prog) (I:=I) (Rd:=rd) (wb:=wb) (ex:=ex) (c:=c)
 have hO:=H.ok
 obtain ⟨bc,oc,hA1,hA2⟩:=rd_spot H.cs
 obtain ⟨bt,ot,hB1,hB2⟩:=rd_spot H.ts
 intro r
 induction r with
 | nil =>
   intro k kI l vs L W hr hk hkI hl hv hfl
   have hk4:=H.n4
   have hkn:k=b.cs.length:=by have:=congrArg List.length hr;simp at this;omega
   refine px_enterI Try.func139 Z 64 Z [.agg (ic l).toArray,Zi kI,Zj gb,Zj gn,Zj go] Z Z fun a T=>?_
   replace T:=T.sel [4,3,2,1,0] rfl
   refine ki_seq ?_
   refine ki_reg [0] ?_
   refine oi_bx hI T rfl rfl (T.at rfl) (l:=ic l) rfl ?_ hfl;intro g W1 a1 hW1 T1;clear T a;replace T:=T1;obtain ⟨a,rfl⟩:∃ a,a=a1:=⟨_,rfl⟩;clear T1
   refine oi_nil ?_
   refine ti_then ?_
   refine ki_seq ?_
   refine ki_seq ?_
   refine ki_reg [0,1,2,3,4] ?_
   refine oi_q T Z (re_move Z (T.at Z)) ?_;clear T a;intro a T
   refine oi_q T Z (re_fieldAddr (off:=3) Z (T.at Z) (fun _ _ _=>by kernel_rfl) (fun _ _ _=>by kernel_rfl)) ?_;clear T a;intro a T
   refine oi_r T Z (ri_oc hO (v:=.slice A b.cs.length ca) (H.box 3 _ Z) Z (T.at Z)) ?_;clear T a;intro a T
   refine oi_q T Z (re_lenS Z Try.underlying24 (T.at Z)) ?_;clear T a;intro a T
   refine oi_q T Z (re_lss Z (T.at Z) (T.at Z)) ?_;clear T a;intro a T
   refine oi_nil ?_
   refine ti_then ?_
   refine ki_if (T.at Z) (fun h=>absurd h (by omega)) (fun _=>?_)
   refine ki_skip ?_
   refine ti_then ?_
   refine ki_seq ?_
   refine ki_seq ?_
   refine ki_reg [0,1,2,3] ?_
   refine oi_q T Z (re_fieldAddr (off:=4) Z (T.at Z) (fun _ _ _=>by kernel_rfl) (fun _ _ _=>by kernel_rfl)) ?_;clear T a;intro a T
   refine oi_r T Z (ri_oc hO (v:=.slice B b.ts.length cb) (H.box 4 _ Z) Z (T.at Z)) ?_;clear T a;intro a T
   refine oi_q T Z (re_lenS Z Try.underlying25 (T.at Z)) ?_;clear T a;intro a T
   refine oi_q T Z (re_move Z evc) ?_;clear T a;intro a T
   refine oi_nil ?_
   refine ti_then ?_
   refine ki_block ?_
   refine ki_loop (fun m s' x' a=>∃ (j:Nat) (W':Nat→Prop),m=b.ts.length - j∧j≤b.ts.length∧(b.ts.take j).all (okT l)=true∧s'=truthV b.ts [] k l++vs∧x'=((g,.cells (ic l))::L,W')∧(∀ b,W b→W' b)∧Tm a 64 [(5,Zj g),(4,Zj go),(40,.slice B b.ts.length cb),(41,Zi (b.ts.length:Int)),(42,Zi (j:Int))]) ⟨_,0,W1,Z,Nat.zero_le _,Z,Z,Z,hW1,T.sel [5,4,40,41,42] Z⟩ ?_
   rintro m s' x' a ⟨j,W',rfl,hj,hall,rfl,rfl,hW',T⟩
   have htn:=H.tn
   refine ki_seq ?_
   refine ki_reg [0] ?_
   refine oi_q T Z (re_lss Z (T.at Z) (T.at Z)) ?_;clear T a;intro a T
   refine oi_nil ?_
   refine ti_then ?_
   refine ki_seq ?_
   refine ki_if (T.at Z) (fun h=>?_) (fun h=>?_)
   · skip
     refine ki_skip ?_
     refine ti_then ?_
     refine ki_seq ?_
     refine ki_block ?_
     refine ki_seq ?_
     have hj2:j < b.ts.length:=by omega
     obtain ⟨t,ht⟩:∃ t,t=b.ts[j]:=⟨_,rfl⟩
     have htm:t∈b.ts:=by rw [ht];exact List.getElem_mem hj2
     obtain ⟨hts,htl,htc⟩:=H.tr t htm
     have htb:=totL_bound (op:=t.op) hv
     have hm1:0≤t.sec * totL l t.op:=Int.mul_nonneg (by omega) htb.1
     have hm2:t.sec * totL l t.op≤20 * (5 * 1000):=Int.mul_le_mul hts.2 (by omega) htb.1 (by omega)
     refine ki_reg [0,1,2,3] ?_
     refine oi_q T Z (re_indexAddr (size:=4) j Z (T.at Z) (T.at Z) ⟨_,Try.underlying25,by kernel_rfl⟩ Z (by omega) (hB1 (by omega))) ?_;clear T a;intro a T
     refine oi_r T Z (ri_or hO (ds:=t.cells) (by rw [ht];exact lkc_range hB2 hj2) Z (T.at Z) Z) ?_;clear T a;intro a T
     refine oi_al hI T rfl rfl (fun _=>by kernel_rfl) ?_ hfl;intro g2 W2 a1 hW2 T1;clear T a;replace T:=T1;obtain ⟨a,rfl⟩:∃ a,a=a1:=⟨_,rfl⟩;clear T1
     refine oi_st (cs':=t.cells) (ds:=t.cells) hI T rfl rfl (T.at rfl) (T.at rfl) rfl .head rfl (by simp) rfl (by kernel_rfl) ?_ hfl;intro W3 a1 hW3 T1;clear T a;replace T:=T1;obtain ⟨a,rfl⟩:∃ a,a=a1:=⟨_,rfl⟩;clear T1
     refine oi_nil ?_
     refine ti_then ?_
     refine ki_seq ?_
     replace T:=T.sel [5,9,4,40,41,42] rfl
     refine ki_det (by kernel_rfl) hdr 46 [.pointer (some ⟨g2,0+3 - 2,none⟩),Zi t.sec,.agg (ic l).toArray,Zj g2,.slice t.A t.op.length t.c,Zi (totL l t.op),Zi (t.sec * totL l t.op),.pointer (some ⟨g2,2,none⟩),.pointer (some ⟨g2,2,none⟩),Zi t.lo,.pointer (some ⟨g2,2,none⟩),.pointer (some ⟨g2,3,none⟩),Zi t.hi,.bool (okT l t),.bool (!okT l t)] T Z (by kernel_rfl) (by kernel_rfl) (by decide) ?_ ?_
     · skip
       rintro i o W4 a hW4 ho T hv4 rest Q' hk4
       have hi15:i < 15:=(Array.getElem?_eq_some_iff.1 ho).1
       rcases i with _ | i
       · skip
         injection ho with ho;subst ho
         exact d_q Z (re_fieldAddr (off:=1) Z (T.at Z) (fun _ _ _=>by kernel_rfl) (fun _ _ _=>by kernel_rfl)) (hk4 W4 fun _ h=>h)
       rcases i with _ | i
       · skip
         injection ho with ho;subst ho
         replace T:=T.plus (hv4 0 (by kernel_rfl))
         exact d_r Z (ri_cell (cs:=t.cells) (Zne (i:=0) Z) Z (T.at Z) Z) (hk4 W4 fun _ h=>h)
       rcases i with _ | i
       · skip
         injection ho with ho;subst ho
         exact d_r Z (ri_row (m:=3) (Zne (i:=1) Z) Z (T.at Z) (sliceO_ic hl)) (hk4 W4 fun _ h=>h)
       rcases i with _ | i
       · skip
         injection ho with ho;subst ho
         exact d_q Z (re_fieldAddr (off:=0) Z (T.at Z) (fun _ _ _=>by kernel_rfl) (fun _ _ _=>by kernel_rfl)) (hk4 W4 fun _ h=>h)
       rcases i with _ | i
       · skip
         injection ho with ho;subst ho
         replace T:=T.plus (hv4 3 (by kernel_rfl))
         exact d_r Z (ri_cell (cs:=t.cells) (Zne (i:=0) Z) Z (T.at Z) Z) (hk4 W4 fun _ h=>h)
       rcases i with _ | i
       · skip
         injection ho with ho;subst ho
         replace T:=T.plus (hv4 2 (by kernel_rfl))
         replace T:=T.plus (hv4 4 (by kernel_rfl))
         refine d_call (first:=[]) (cap:=[]) Z Z evf (.cons (T.at Z) (.cons (T.at Z) .nil)) Try.func79 Z Z (total_I hI hO l t.op hl hv htl htc (H.op t htm) _ W4 hfl) ?_
         rintro s' x' v ⟨rfl,rfl,W5,rfl,hW5⟩
         exact hk4 W5 hW5
       rcases i with _ | i
       · skip
         injection ho with ho;subst ho
         replace T:=T.plus (hv4 1 (by kernel_rfl))
         replace T:=T.plus (hv4 5 (by kernel_rfl))
         exact d_q Z (re_mul Z (T.at Z) (T.at Z) (by omega)) (hk4 W4 fun _ h=>h)
       rcases i with _ | i
       · skip
         injection ho with ho;subst ho
         exact d_q Z (re_fieldAddr (off:=2) Z (T.at Z) (fun _ _ _=>by kernel_rfl) (fun _ _ _=>by kernel_rfl)) (hk4 W4 fun _ h=>h)
       rcases i with _ | i
       · skip
         injection ho with ho;subst ho
         replace T:=T.plus (hv4 7 (by kernel_rfl))
         exact d_q Z (re_fieldAddr (off:=0) Z (T.at Z) (fun _ _ _=>by kernel_rfl) (fun _ _ _=>by kernel_rfl)) (hk4 W4 fun _ h=>h)
       rcases i with _ | i
       · skip
         injection ho with ho;subst ho
         replace T:=T.plus (hv4 8 (by kernel_rfl))
         exact d_r Z (ri_cell (cs:=t.cells) (Zne (i:=0) Z) Z (T.at Z) Z) (hk4 W4 fun _ h=>h)
       rcases i with _ | i
       · skip
         injection ho with ho;subst ho
         exact d_q Z (re_fieldAddr (off:=2) Z (T.at Z) (fun _ _ _=>by kernel_rfl) (fun _ _ _=>by kernel_rfl)) (hk4 W4 fun _ h=>h)
       rcases i with _ | i
       · skip
         injection ho with ho;subst ho
         replace T:=T.plus (hv4 10 (by kernel_rfl))
         exact d_q Z (re_fieldAddr (off:=1) Z (T.at Z) (fun _ _ _=>by kernel_rfl) (fun _ _ _=>by kernel_rfl)) (hk4 W4 fun _ h=>h)
       rcases i with _ | i
       · skip
         injection ho with ho;subst ho
         replace T:=T.plus (hv4 11 (by kernel_rfl))
         exact d_r Z (ri_cell (cs:=t.cells) (Zne (i:=0) Z) Z (T.at Z) Z) (hk4 W4 fun _ h=>h)
       rcases i with _ | i
       · skip
         injection ho with ho;subst ho
         replace T:=T.plus (hv4 5 (by kernel_rfl))
         replace T:=T.plus (hv4 6 (by kernel_rfl))
         replace T:=T.plus (hv4 9 (by kernel_rfl))
         replace T:=T.plus (hv4 12 (by kernel_rfl))
         refine d_call (first:=[]) (cap:=[]) Z Z evf (.cons (T.at Z) (.cons (T.at Z) (.cons (T.at Z) .nil))) Try.func76 Z Z (in_I _ _ _ _) ?_
         rintro s' x' v ⟨rfl,rfl,rfl⟩
         exact hk4 W4 fun _ h=>h
       rcases i with _ | i
       · skip
         injection ho with ho;subst ho
         replace T:=T.plus (hv4 13 (by kernel_rfl))
         exact d_q Z (re_not Z (T.at Z)) (hk4 W4 fun _ h=>h)
       omega
     · skip
       rintro W4 a hW4 T hv4
       have h60:a.eval (.tmp 60)=.bool (!okT l t):=hv4 14 (by decide)
       clear hv4
       refine ti_then ?_
       cases hok:okT l t
       · refine ki_ifb true (h60.trans (by rw [hok];rfl)) ?_
         have hno:truthV b.ts [] k l=[]:=by unfold truthV trs;rw [if_neg (fun hx=>by rw [List.all_eq_true.1 hx t htm] at hok;cases hok)];rfl
         rw [hno]
         refine ki_weak hW ((List.sublist_cons_self _ _).trans (List.sublist_cons_self _ _)) ?_
         refine ki_ret ?_
         repeat (first | refine ri_then ?_ | refine ri_blk ?_)
         exact ri_0 T Z ⟨rfl,W4,Z,fun b h=>hW4 b (hW3 b (hW2 b (hW' b h)))⟩
       · refine ki_ifb false (h60.trans (by rw [hok];rfl)) ?_
         clear h60
         refine ki_weak hW (List.sublist_cons_self _ _) ?_
         refine ki_skip ?_
         refine ti_blk ?_
         refine ti_then ?_
         refine ki_reg [0,1] ?_
         refine oi_q T Z (re_add Z (T.at Z) evc (by omega)) ?_;clear T a;intro a T
         replace T:=T.sel [61,5,9,4,40,41] rfl
         refine oi_q T Z (re_move Z (T.at Z)) ?_;clear T a;intro a T
         refine oi_nil ?_
         refine ti_then ?_
         refine ⟨_,?_,j+1,W4,Z,by omega,?_,Z,Z,fun b h=>hW4 b (hW3 b (hW2 b (hW' b h))),?_⟩
         · omega
         · rw [List.take_add_one,List.getElem?_eq_getElem hj2,List.all_append,hall];simp [← ht,hok]
         · rw [show ((j+1:Nat):Int)=(j:Int)+1 by push_cast;rfl]
           exact T.sel [5,4,40,41,42] Z
   · skip
     refine ki_exit ?_
     refine xi_then ?_
     refine xi_then ?_
     refine xi_hit ?_
     refine ti_then ?_
     have hyes:truthV b.ts [] k l++vs=lvV l::vs:=by unfold truthV trs;rw [if_pos (by rw [← hall,show j=b.ts.length by omega,List.take_length])];rfl
     rw [hyes]
     refine ki_reg [0,1,2] ?_
     refine oi_r T Z (ri_oc hO H.out Z (T.at Z)) ?_;clear T a;intro a T
     refine oi_r T Z (ri_row (m:=3) (Zne (i:=0) Z) Z (T.at Z) (sliceO_ic hl)) ?_;clear T a;intro a T
     refine oi_send Z Z (T.at Z) (T.at Z) ?_
     refine oi_weak hW (List.sublist_cons_self _ _) ?_
     refine opsI_nil (side_terms I (mSide wb ex) rd) ?_
     exact ni_0 (show Tm (a.put none undef) _ _ from T) Z ⟨rfl,W',Z,hW'⟩
 | cons x r ih =>
   intro k kI l vs L W hr hk hkI hl hv hfl
   have hk4:=H.n4
   have hkn:k < b.cs.length:=by have:=congrArg List.length hr;simp at this;omega
   have hx:b.cs[k]? = some x:=by have:=congrArg (·[0]?) hr;simpa using this
   have hr2:b.cs.drop (k+1)=r:=by rw [← List.drop_drop,hr];rfl
   obtain ⟨hx1,hx2,hx3,hx4⟩:=H.cr x (List.mem_of_getElem? hx)
   have hc0:wb.cell? ⟨bc,oc+k * 2+0,none⟩=some (Zi x.1):=hA2 _ _ (rc_at0 hx).1
   have hc1:wb.cell? ⟨bc,oc+k * 2+1,none⟩=some (Zi x.2):=by have:=hA2 _ _ (rc_at0 hx).2;rwa [← Nat.add_assoc] at this
   refine px_enterI Try.func139 Z 64 Z [.agg (ic l).toArray,Zi kI,Zj gb,Zj gn,Zj go] Z Z fun a T=>?_
   replace T:=T.sel [4,3,2,1,0] rfl
   refine ki_seq ?_
   refine ki_reg [0] ?_
   refine oi_bx hI T rfl rfl (T.at rfl) (l:=ic l) rfl ?_ hfl;intro g W1 a1 hW1 T1;clear T a;replace T:=T1;obtain ⟨a,rfl⟩:∃ a,a=a1:=⟨_,rfl⟩;clear T1
   refine oi_nil ?_
   refine ti_then ?_
   refine ki_seq ?_
   refine ki_seq ?_
   refine ki_reg [0,1,2,3,4] ?_
   refine oi_q T Z (re_move Z (T.at Z)) ?_;clear T a;intro a T
   refine oi_q T Z (re_fieldAddr (off:=3) Z (T.at Z) (fun _ _ _=>by kernel_rfl) (fun _ _ _=>by kernel_rfl)) ?_;clear T a;intro a T
   refine oi_r T Z (ri_oc hO (v:=.slice A b.cs.length ca) (H.box 3 _ Z) Z (T.at Z)) ?_;clear T a;intro a T
   refine oi_q T Z (re_lenS Z Try.underlying24 (T.at Z)) ?_;clear T a;intro a T
   refine oi_q T Z (re_lss Z (T.at Z) (T.at Z)) ?_;clear T a;intro a T
   refine oi_nil ?_
   refine ti_then ?_
   refine ki_if (T.at Z) (fun _=>?_) (fun h=>absurd (show kI < _ by omega) h)
   refine ki_seq ?_
   refine ki_seq ?_
   refine ki_reg [0,1,2,3,4,5,6] ?_
   refine oi_q T Z (re_fieldAddr (off:=3) Z (T.at Z) (fun _ _ _=>by kernel_rfl) (fun _ _ _=>by kernel_rfl)) ?_;clear T a;intro a T
   refine oi_r T Z (ri_oc hO (v:=.slice A b.cs.length ca) (H.box 3 _ Z) Z (T.at Z)) ?_;clear T a;intro a T
   refine oi_q T Z (re_move Z (T.at Z)) ?_;clear T a;intro a T
   refine oi_q T Z (re_indexAddr (size:=2) k Z (T.at Z) (T.at Z) ⟨_,Try.underlying24,by kernel_rfl⟩ hkI hkn (hA1 (by omega))) ?_;clear T a;intro a T
   refine oi_q T Z (re_fieldAddr (off:=0) Z (T.at Z) (fun _ _ _=>by kernel_rfl) (fun _ _ _=>by kernel_rfl)) ?_;clear T a;intro a T
   refine oi_r T Z (ri_oc hO hc0 Z (T.at Z)) ?_;clear T a;intro a T
   refine oi_q T Z (re_assign Z (T.at Z)) ?_;clear T a;intro a T
   refine oi_nil ?_
   refine ti_then ?_
   refine ki_block ?_
   refine ki_loop (fun m s' x' a=>∃ (n:Int) (l':List Int) (W':Nat→Prop),m=(x.2+1 - n).toNat∧(0≤n∧n≤6)∧(∀ v,l'.set k v=l.set k v)∧l'.length=4∧s'=((upI n x.2).flatMap fun n=>trs b.ts r (k+1) (l.set k n)).map lvV++vs∧x'=((g,.cells (ic l'))::L,W')∧(∀ b,W b→W' b)∧Tm a 64 [(5,Zj g),(1,Zi kI),(2,Zj gb),(3,Zj gn),(4,Zj go),(7,Zi n)]) ⟨_,x.1,l,W1,Z,by omega,fun _=>Z,hl,Z,Z,hW1,T.sel [5,1,2,3,4,7] Z⟩ ?_
   rintro m s' x' a ⟨n,l',W',rfl,hn,hset,hl',rfl,rfl,hW',T⟩
   refine ki_seq ?_
   refine ki_seq ?_
   refine ki_reg [0,1,2,3,4,5,6,7] ?_
   refine oi_q T Z (re_move Z (T.at Z)) ?_;clear T a;intro a T
   refine oi_q T Z (re_fieldAddr (off:=3) Z (T.at Z) (fun _ _ _=>by kernel_rfl) (fun _ _ _=>by kernel_rfl)) ?_;clear T a;intro a T
   refine oi_r T Z (ri_oc hO (v:=.slice A b.cs.length ca) (H.box 3 _ Z) Z (T.at Z)) ?_;clear T a;intro a T
   refine oi_q T Z (re_move Z (T.at Z)) ?_;clear T a;intro a T
   refine oi_q T Z (re_indexAddr (size:=2) k Z (T.at Z) (T.at Z) ⟨_,Try.underlying24,by kernel_rfl⟩ hkI hkn (hA1 (by omega))) ?_;clear T a;intro a T
   refine oi_q T Z (re_fieldAddr (off:=1) Z (T.at Z) (fun _ _ _=>by kernel_rfl) (fun _ _ _=>by kernel_rfl)) ?_;clear T a;intro a T
   refine oi_r T Z (ri_oc hO hc1 Z (T.at Z)) ?_;clear T a;intro a T
   refine oi_q T Z (re_leq Z (T.at Z) (T.at Z)) ?_;clear T a;intro a T
   refine oi_nil ?_
   refine ti_then ?_
   refine ki_if (T.at Z) (fun h=>?_) (fun h=>?_)
   · skip
     refine ki_skip ?_
     refine ti_then ?_
     refine ki_seq ?_
     refine ki_block ?_
     refine ki_seq ?_
     refine ki_reg [0,1,2,3] ?_
     refine oi_q T Z (re_move Z (T.at Z)) ?_;clear T a;intro a T
     refine oi_q T Z (re_move Z (T.at Z)) ?_;clear T a;intro a T
     refine oi_q T Z (re_indexArr (size:=1) k Z (T.at Z) (T.at Z) Try.underlying109 (by kernel_rfl) hkI (by omega)) ?_;clear T a;intro a T
     rw [Nat.mul_one] at T
     refine oi_st (cs':=ic (l'.set k n)) (ds:=[Zi n]) hI T rfl rfl (T.at rfl) (T.at rfl) rfl .head (storeO_ic n (by omega)) (by simp) rfl (by kernel_rfl) ?_ hfl;intro W3 a1 hW3 T1;clear T a;replace T:=T1;obtain ⟨a,rfl⟩:∃ a,a=a1:=⟨_,rfl⟩;clear T1
     rw [hset n]
     refine oi_nil ?_
     refine ti_then ?_
     have hl4:(l.set k n).length=4:=by rw [List.length_set];exact hl
     have hv4:∀ v∈l.set k n,0≤v∧v≤5:=fun v hm=>(List.mem_or_eq_of_mem_set hm).elim (hv v) fun e=>by subst e;omega
     have hsp:((upI n x.2).flatMap fun n=>trs b.ts r (k+1) (l.set k n)).map lvV++vs=truthV b.ts r (k+1) (l.set k n)++(((upI (n+1) x.2).flatMap fun n=>trs b.ts r (k+1) (l.set k n)).map lvV++vs):=by rw [upI_cons h,List.flatMap_cons,List.map_append,List.append_assoc];rfl
     rw [hsp]
     refine ki_reg [0,1,2,3,4] ?_
     refine oi_r T Z (ri_oc hO H.next Z (T.at Z)) ?_;clear T a;intro a T
     refine oi_r T Z (ri_row (m:=3) (Zne (i:=0) Z) Z (T.at Z) (sliceO_ic hl4)) ?_;clear T a;intro a T
     refine oi_q T Z (re_move Z (T.at Z)) ?_;clear T a;intro a T
     refine oi_q T Z (re_add Z (T.at Z) evc (by omega)) ?_;clear T a;intro a T
     refine oi_call (first:=[]) (cap:=[Zj gb,Zj gn,Zj go]) T Z Z (T.at Z) (.cons (T.at Z) (.cons (T.at Z) .nil)) Try.func139 Z Z (ih (k+1) (kI+1) (l.set k n) (((upI (n+1) x.2).flatMap fun n=>trs b.ts r (k+1) (l.set k n)).map lvV++vs) ((g,.cells (ic (l.set k n)))::L) W3 hr2 hkn (by omega) hl4 hv4 hfl) ?_
     rintro s' x' v ⟨rfl,W4,rfl,hW4⟩ a1 T1;clear T a;replace T:=T1;obtain ⟨a,rfl⟩:∃ a,a=a1:=⟨_,rfl⟩;clear T1
     refine oi_nil ?_
     refine ti_blk ?_
     refine ti_then ?_
     refine ki_reg [0,1,2] ?_
     refine oi_q T Z (re_move Z (T.at Z)) ?_;clear T a;intro a T
     refine oi_q T Z (re_add Z (T.at Z) evc (by omega)) ?_;clear T a;intro a T
     replace T:=T.sel [30,29,38,37,36,35,34,33,32,31,28,27,26,25,24,23,22,21,5,1,2,3,4] rfl
     refine oi_q T Z (re_assign Z (T.at Z)) ?_;clear T a;intro a T
     refine oi_nil ?_
     refine ti_then ?_
     refine ⟨_,?_,n+1,l.set k n,W4,Z,by omega,fun v=>List.set_set ..,hl4,Z,Z,fun b h=>hW4 b (hW3 b (hW' b h)),T.sel [5,1,2,3,4,7] Z⟩
     omega
   · skip
     refine ki_exit ?_
     refine xi_then ?_
     refine xi_then ?_
     refine xi_hit ?_
     refine ti_then ?_
     rw [upI_nil (by omega)]
     refine ki_weak hW (List.sublist_cons_self _ _) ?_
     refine ki_ret ?_
     repeat (first | refine ri_then ?_ | refine ri_blk ?_)
     exact ri_0 T Z ⟨rfl,W',Z,hW'⟩
end
end
section
open Go.RowKit Go.Proofs.Ytoheddpnnjldgaa.Bi Go.Proofs.Ytoheddpnnjldgaa.Bq
section
variable {P:Program} {main:Bool} {Y:Type} {I:World→Prop} {rd:Nat→Prop} {wb:World} {ex:Nat→Prop} {fn:FuncId} {St:Y→XS→Goroutine→Prop} {Q:Exit→Y→XS→Act→Prop} {s:Y} {x:XS} {a:Act} {ops:Array Oper} {i:Nat} {rest:List Nat} {op:Oper} {d:Deferred}
theorem oi_defer (hi:ops[i]? = some op) (hr:∀ w,(execOp a.eval op).run P w=.ok (.defer d) w∧(execOp a.eval op).events P w #[] = #[]) (h:oI P main I rd wb ex fn St ops rest Q s x ({ a with defers:=d::a.defers }.put op.dst undef))
  (hw:Region.wanted op (yielded ops a.tmps)=true:=by rfl):oI P main I rd wb ex fn St ops (i::rest) Q s x a:=by
 intro b k cs hb hk hc
 refine tree_idle (side_terms I (mSide wb ex) rd) (fun w=>?_) (h b k cs hb hk hc)
 have hfin:({ b.at a (.inRegion ops (i::rest)::k) with defers:=d::a.defers }:Frame).finish undef=b.at ({ a with defers:=d::a.defers }.put op.dst undef) (.inRegion ops rest::k):=by
  have h6:=Frame.finish_at b { a with defers:=d::a.defers } ops i rest k undef
  rw [hi] at h6
  exact h6
 have hk':(b.kind == CallKind.early)=false:=by simpa using hk
 rw [Conc.stepG_oper hi hw,← hfin]
 simp [stepG.apply,(hr w).1,(hr w).2,Conc.G,Frame.at,hk',GStep.after,Conc.seen_none]
def closeD (c:Nat) (ts:Array TypeId) (ty:TypeId) (b:Array Bool):Deferred:={ target:=.builtin .close ts ty b,args:=#[.chan (some c)] }
theorem oi_close {df:List Deferred} {n c tt:Nat} {E:List (Nat×Value)} {ts:Array TypeId} (T:TmD df a n E) (hi:ops[i]? = some op) (ho:op.op=.defer { callee:=.builtin .close,args:=#[.tmp tt],argTypes:=ts }) (hx:a.eval (.tmp tt)=.chan (some c))
  (h:∀ a',TmD (closeD c ts op.type #[false]::df) a' n E→oI P main I rd wb ex fn St ops rest Q s x a') (hd:op.dst=none:=by rfl) (hw:Region.wanted op (yielded ops a.tmps)=true:=by rfl):oI P main I rd wb ex fn St ops (i::rest) Q s x a :=
 oi_defer (d:=closeD c ts op.type #[false]) hi (fun w=>⟨by unfold execOp resolve;simp [ho,hx,closeD],by unfold execOp resolve;simp [ho]⟩) (by
  rw [hd]
  exact h _ ⟨by show _::a.defers=_;rw [T.defers],T.size,fun p hp=>T.get p hp⟩) hw
end
section
variable {P:Program} {c:Nat}
def leaveF (P:Program):Frame:={ (default:Frame) with fn:=P.funcs.size,defers:=[],mode:=.panicking [goexitEntry] }
theorem born_step {f : FuncId} {fn : Func} {c : Code} {cap : Array Value} (hf : P.funcs[f]? = some fn) (hnm : (fn.name == "runtime.NumGoroutine") = false) (hb : fn.body = some c) (w : World) :
  stepG P false (Conc.born P { target:=.fn (.func f) cap,args:=#[] }) w=.go (Conc.G ((Conc.baseD f).at { tmps:=cap++Array.replicate (fn.ntmps - cap.size) undef,defers:=[] } [.code c]) [leaveF P]) w #[]:=by
 have h1 : ¬ fn.name = "runtime.NumGoroutine" := by simpa using hnm
 rw [← Conc.enter_atD cap hf hb]
 simp [Conc.G,Conc.born,stepG,unwind,callDeferred,invoke,callFunc,hf,h1,hb,GStep.after,Conc.seen_none,leaveF]
theorem close_at {f:FuncId} {fn:Func} {ts:Array TypeId} {ty:TypeId} {bs:Array Bool} (hf:P.funcs[f]? = some fn) (hr:fn.results = #[]) {a:Act} (ha:a.defers=[closeD c ts ty bs]) :
  AtClose P c (Conc.G { (Conc.baseD f).at a [] with mode:=.returning } [leaveF P]):=by
 have hq0:∀ w,(results fn a.tmps).run P w=.ok (.tuple #[]) w:=fun w=>results_none hr _ P w
 have hq1:∀ w,(results fn a.tmps).events P w #[] = #[]:=fun w=>Conc.events_results_none hr _ _
 refine ⟨rfl,Z,Conc.G { (Conc.baseD f).at ⟨a.tmps,[]⟩ [] with mode:=.returning } [leaveF P],2,fun w s r tm hc=>?_,?_⟩
 ·have h1:=run_close_open (P:=P) ts ty hc
  have h2:=events_close_open (P:=P) (es:=#[]) ts ty hc
  have h3:(invoke (.builtin .close ts ty bs) #[.chan (some c)]).run P w=.ok (.value (.tuple #[])) (w.shut c s r tm):=by
   show (do pure (.value (← Builtin.close_ ts ty #[.chan (some c)])):Sem Next).run P w=_
   rw [Sem.run_bind,h1]
   rfl
  have h4:(invoke (.builtin .close ts ty bs) #[.chan (some c)]).events P w #[] = #[⟨.obj c,false,true⟩,⟨.obj c,true,true⟩]:=by
   show (do pure (.value (← Builtin.close_ ts ty #[.chan (some c)])):Sem Next).events P w #[]=_
   rw [Sem.events_bind,h2,h1]
   rfl
  have h5:seen P f #[⟨.obj c,false,true⟩,⟨.obj c,true,true⟩] = #[⟨.obj c,false,true⟩,⟨.obj c,true,true⟩]:=by
   unfold seen
   simp
  simp [Conc.G,stepG,unwind,callDeferred,Frame.at,ha,h3,h4,h5,GStep.after,Conc.baseD,closeD]
 ·refine .inr ⟨rfl,Conc.G (leaveF P) [],#[],by simp,fun w=>?_,?_⟩
  ·simp [Conc.G,stepG,unwind,doReturn,Frame.at,hf,hq0,hq1,GStep.after,Conc.baseD,leaveF,goexitEntry,Conc.seen_none]
  ·refine .inr ⟨rfl,{ Conc.G (leaveF P) [] with status:=.finished },#[],by simp,fun w=>?_,⟨rfl,Z⟩⟩
   simp [Conc.G,stepG,unwind,Frame.at,GStep.after,leaveF,goexitEntry,Frame.catches]
   rfl
theorem child_run {I:World→Prop} {rd:Nat→Prop} {wb:World} {ex:Nat→Prop} {f:FuncId} {fn:Func} {code:Code} {ts:Array TypeId} {ty:TypeId} {bs:Array Bool} {s:List Value} {x:XS} {a:Act} (hf:P.funcs[f]? = some fn) (hr:fn.results = #[])
  (h:wI P false I rd wb ex f (StB P c I (mSide wb ex) rd) code (fun e s _ a=>e=.normal∧s=[]∧a.defers=[closeD c ts ty bs]) s x a):TreeI P false (mSide wb ex).Sit (Gd I (mSide wb ex) rd) (StopB P c I (mSide wb ex) rd s) x (Conc.G ((Conc.baseD f).at a [.code code]) [leaveF P]):=by
 refine h (Conc.baseD f) [] [leaveF P] Z (by simp [Conc.baseD]) fun e s x a h=>?_
 obtain ⟨rfl,rfl,hd⟩:=h
 exact tree_idle (side_terms I (mSide wb ex) rd) (fun w=>Conc.stepG_end) (.stop (close_at hf hr hd))
theorem child_prod {I:World→Prop} {rd:Nat→Prop} {wb:World} {ex:Nat→Prop} {gb gn go c:Nat} {b:Bw} {A:Option Addr} {ca:Nat} {B:Option Addr} {cb:Nat} (hI:IKeeps Try.prog I) (hdr:∀ w d,I w→I (w.at d)) (H:BEnv wb rd ex gb gn go c b A ca B cb) :
  Prod Try.prog c I (mSide wb ex) rd ((truthsB b).map lvV) ([],fun _=>False) (Conc.born Try.prog { target:=.fn (.func 140) #[Zj go,Zj gn],args:=#[] }):=by
 have hO:=H.ok
 rw [prod_iff]
 refine tree_idle (side_terms I (mSide wb ex) rd) (fun w=>born_step (P:=Try.prog) Try.func140 Z Z w) ?_
 refine child_run (ts:=#[138]) (ty:=0) (bs:=#[false]) Try.func140 Z ?_
 generalize ha:({ tmps:=#[Zj go,Zj gn]++Array.replicate _ undef,defers:=[] }:Act)=a
 have T:Tm a 6 [(1,Zj gn),(0,Zj go)]:=by
  subst ha
  refine ⟨rfl,Z,fun p hp=>?_⟩
  simp only [Zx7,Zx8,or_false] at hp
  rcases hp with rfl | rfl <;> rfl
 clear ha
 rw [show (truthsB b).map lvV=truthV b.ts b.cs 0 [0,0,0,0]++[] by rw [Zx4];rfl]
 refine ki_seq ?_
 refine ki_reg [0,1] ?_
 refine oi_r T Z (ri_oc hO H.out Z (T.at Z)) ?_;clear T a;intro a T
 refine oi_close T Z Z (T.at Z) ?_;clear T a;intro a T
 refine oi_nil ?_
 refine ti_then ?_
 refine ki_reg [0,1,2] ?_
 refine oi_r T Z (ri_oc hO H.next Z (T.at Z)) ?_;clear T a;intro a T
 refine oi_q T Z (re_build (parts:=[]) (vs:=[]) (v:=.agg (ic [0,0,0,0]).toArray) Z .nil (fun _=>by kernel_rfl) (fun _=>by kernel_rfl)) ?_;clear T a;intro a T
 refine oi_call (first:=[]) (cap:=[Zj gb,Zj gn,Zj go]) T Z Z (T.at Z) (.cons (T.at Z) (.cons evc .nil)) Try.func139 Z Z (nextS_I hI hdr H b.cs 0 0 [0,0,0,0] [] [] _ Z (Nat.zero_le _) Z Z (by simp) Z) ?_
 rintro s' x' v ⟨rfl,W4,rfl,hW4⟩ a1 T1;clear T a;replace T:=T1;obtain ⟨a,rfl⟩:∃ a,a=a1:=⟨_,rfl⟩;clear T1
 refine oi_nil ?_
 exact ⟨rfl,Z,T.defers⟩
end
end
section
open Go.RowKit Go.Proofs.Ytoheddpnnjldgaa.Bi Go.Proofs.Ytoheddpnnjldgaa.Bq
def cA:Code→Code
 | .seq a _=>a
 | .block _ a=>a
 | .loop a=>a
 | c=>c
def cB:Code→Code
 | .seq _ b=>b
 | c=>c
def cOps:Code→Array Oper
 | .region _ o _=>o
 | _=>#[]
noncomputable def kTop:Code:=Try.f77.body.getD .skip
noncomputable def kX4:Code:=cB (cB (cB (cB kTop)))
noncomputable def kR11:Array Oper:=cOps (cA (cA kX4))
noncomputable def kB2:Code:=cB (cA kX4)
noncomputable def kLB:Code:=cA (cA kB2)
noncomputable def kR12:Array Oper:=cOps (cA kLB)
noncomputable def kIB:Code:=cB kLB
def lvc (ts:List (List Int)):List Value:=ts.flatMap ic
theorem lvc_app (ts:List (List Int)) (l:List Int):lvc (ts++[l])=lvc ts++ic l:=by simp [lvc]
theorem Sl.flat {e size n:Nat} {v:Value} {xs:List Value} {L:List (Nat×BA)} (h:Sl e size v n xs L):flatL L=true:=by
 rcases h with ⟨-,-,-,rfl⟩ | ⟨g,cap,-,rfl⟩ <;> rfl
section
variable {I:World→Prop} {rd:Nat→Prop} {wb:World} {ex:Nat→Prop}
def zL:Value:=.agg #[Zi 0,Zi 0,Zi 0,Zi 0]
theorem round_I {Y:Type} {St:Y→XS→Goroutine→Prop} {s:Y} {fn:FuncId} (hI:IKeeps Try.prog I) {c:Nat} {v:Value} {dn:List (List Int)} {L:List (Nat×BA)} {W:Nat→Prop} {a:Act} (p1 p2 p3 p4:Int) (hS:Sl 109 4 v dn.length (lvc dn) L) (hn:dn.length+1≤1000000)
  (T:Tm a 39 [(29,.bool true),(28,.tuple #[lvV [p1,p2,p3,p4],.bool true]),(9,v),(27,.chan (some c))]) :
  wI Try.prog true I rd wb ex fn St kIB (fun e s' x' a'=>e=.normal∧s'=s∧∃ (v':Value) (L':List (Nat×BA)) (W':Nat→Prop),x'=(L',W')∧Sl 109 4 v' (dn++[[p1,p2,p3,p4]]).length (lvc (dn++[[p1,p2,p3,p4]])) L'∧Tm a' 39 [(9,v'),(27,.chan (some c))]) s (L,W) a:=by
 have hfl:=hS.flat
 refine ki_seq ?_
 refine ki_ifb true (T.at Z) ?_
 refine ki_skip ?_
 refine ti_then ?_
 refine ki_block ?_
 refine ki_seq ?_
 replace T:=T.sel [28,9,27] rfl
 refine ki_reg [0,1,2] ?_
 refine oi_q T Z (re_extract Z (T.at Z) Z) ?_;clear T a;intro a T
 refine oi_al hI T rfl rfl (fun _=>by kernel_rfl) ?_ hfl;intro g2 W2 a1 hW2 T1;clear T a;replace T:=T1;obtain ⟨a,rfl⟩:∃ a,a=a1:=⟨_,rfl⟩;clear T1
 refine oi_st (cs':=[Zi p1,Zi p2,Zi p3,Zi p4]) (ds:=[Zi p1,Zi p2,Zi p3,Zi p4]) hI T rfl rfl (T.at rfl) (T.at rfl) rfl .head rfl (by simp) rfl (by kernel_rfl) ?_ hfl;intro W3 a1 hW3 T1;clear T a;replace T:=T1;obtain ⟨a,rfl⟩:∃ a,a=a1:=⟨_,rfl⟩;clear T1
 refine oi_nil ?_
 refine ti_then ?_
 refine ki_reg [0,1,2,3,4] ?_
 refine oi_q T Z (re_move Z (T.at Z)) ?_;clear T a;intro a T
 refine oi_r T Z (ri_row (m:=3) (Zne (i:=0) Z) Z (T.at Z) Z) ?_;clear T a;intro a T
 refine oi_bs (e:=109) [Zi p1,Zi p2,Zi p3,Zi p4] (parts:=[(0,.tmp 32)]) hI T rfl rfl (.cons (T.at rfl) .nil) (fun _=>by kernel_rfl) (fun _=>by kernel_rfl) ?_ hfl;intro g3 W4 a1 hW4 T1;clear T a;replace T:=T1;obtain ⟨a,rfl⟩:∃ a,a=a1:=⟨_,rfl⟩;clear T1
 refine oi_app [(g3,.cells [Zi p1,Zi p2,Zi p3,Zi p4]),(g2,.cells [Zi p1,Zi p2,Zi p3,Zi p4])] hI (z:=zL) (bytes:=32) (by kernel_rfl) hS rfl T rfl rfl Try.underlying104 rfl rfl rfl (by omega) (T.at rfl) (T.at rfl) (Zne (i:=0) rfl) rfl rfl ?_ hfl;intro g4 cap W5 a1 hW5 T1;clear T a;replace T:=T1;obtain ⟨a,rfl⟩:∃ a,a=a1:=⟨_,rfl⟩;clear T1
 replace T:=T.sel [34,33,32,31,10,30,28,27] rfl
 refine oi_qm (L1:=[(g4,.row 109 4 (dn.length+1) (lvc dn++[Zi p1,Zi p2,Zi p3,Zi p4]) cap)]) (List.Sublist.cons_cons _ (Zz9 _)) T Z (re_assign Z (T.at Z)) ?_;clear T a;intro a T
 refine oi_nil ?_
 refine ti_blk ?_
 refine ⟨rfl,Z,_,_,W5,Z,.inr ⟨g4,cap,?_,?_⟩,T.sel [9,27] Z⟩
 ·rw [Zx3];rfl
 ·rw [lvc_app,Zx3];rfl
theorem loop_cons (hI:IKeeps Try.prog I) {c:Nat} {Fin:XS→Goroutine→Prop} {b:Frame} {k:List Item} {cs:List Frame} {all:List (List Int)} (hk:b.kind≠.early) (hall:all.length≤1000000)
  (hFin:∀ (a:Act) (L:List (Nat×BA)) (W:Nat→Prop) (v:Value),Sl 109 4 v all.length (lvc all) L→Tm a 39 [(9,v),(27,.chan (some c))]→Fin (L,W) (Conc.G (b.at (a.put (some 28) (Conc.recvd true zL false)) (.inRegion kR12 [1] :: .code kIB :: .inLoop kLB :: .inBlock 2::k)) cs)) :
  ∀ (vs dn:List (List Int)) (a:Act) (L:List (Nat×BA)) (W:Nat→Prop) (v:Value),dn++vs=all→(∀ l∈vs,l.length=4)→Sl 109 4 v dn.length (lvc dn) L→Tm a 39 [(9,v),(27,.chan (some c))] →
   TreeI Try.prog true (mSide wb ex).Sit (Gd I (mSide wb ex) rd) (StA Try.prog c zL true I (mSide wb ex) rd Fin (vs.map lvV)) (L,W) (Conc.G (b.at a (.code kLB :: .inLoop kLB :: .inBlock 2::k)) cs):=by
 have TT:=side_terms I (mSide wb ex) rd
 intro vs
 induction vs with
 | nil =>
  intro dn a L W v hd hl hS T
  rw [Zx4] at hd
  subst hd
  refine tree_idle TT (fun w=>Conc.stepG_seq (x:=cA kLB) (y:=kIB)) ?_
  refine tree_idle TT (fun w=>Conc.stepG_region (id:=12) (ops:=kR12)) ?_
  exact opsI_recvEnd (i:=0) (rest:=[1]) Z Z (fun w=>recv_run Z Try.underlying138 (by kernel_rfl) (T.at Z) w) hk (hFin a L W v hS T)
 | cons l r ih =>
  intro dn a L W v hd hl hS T
  obtain ⟨p1,p2,p3,p4,rfl⟩:∃ p1 p2 p3 p4,l=[p1,p2,p3,p4]:=by
   have:=hl l Zz2
   match l,this with
   | [p1,p2,p3,p4],_=>exact ⟨p1,p2,p3,p4,rfl⟩
  have hn:dn.length+1≤1000000:=by rw [← hd] at hall;simp at hall;omega
  refine tree_idle TT (fun w=>Conc.stepG_seq (x:=cA kLB) (y:=kIB)) ?_
  refine tree_idle TT (fun w=>Conc.stepG_region (id:=12) (ops:=kR12)) ?_
  have h0:oI Try.prog true I rd wb ex b.fn (StA Try.prog c zL true I (mSide wb ex) rd Fin) kR12 [0,1] (fun e s x a=>e=.normal∧s=r.map lvV∧x=(L,W)∧Tm a 39 [(29,.bool true),(28,.tuple #[lvV [p1,p2,p3,p4],.bool true]),(9,v),(27,.chan (some c))]) (lvV [p1,p2,p3,p4]::r.map lvV) (L,W) a:=by
   refine oi_recv Z Z Try.underlying138 (by kernel_rfl) (T.at Z) ?_
   replace T:Tm (a.put (some 28) (.tuple #[lvV [p1,p2,p3,p4],.bool true])) 39 _:=T.put rfl rfl _
   obtain ⟨a2,ha2⟩:∃ a2,a2=a.put (some 28) (.tuple #[lvV [p1,p2,p3,p4],.bool true]):=⟨_,rfl⟩
   rw [← ha2] at T
   show oI Try.prog true I rd wb ex b.fn _ kR12 [1] _ _ _ (a.put (some 28) (.tuple #[lvV [p1,p2,p3,p4],.bool true]))
   rw [← ha2]
   refine oi_q T Z (re_extract (vs:=[lvV [p1,p2,p3,p4],.bool true]) Z (T.at Z) Z) ?_
   intro a3 T3
   exact oi_nil ⟨rfl,Z,Z,T3⟩
  refine h0 b (.code kIB :: .inLoop kLB :: .inBlock 2::k) cs Z hk fun e s x a h=>?_
  obtain ⟨rfl,rfl,rfl,T⟩:=h
  refine round_I (St:=StA Try.prog c zL true I (mSide wb ex) rd Fin) (s:=r.map lvV) (fn:=b.fn) hI p1 p2 p3 p4 hS hn T b (.inLoop kLB :: .inBlock 2::k) cs Z hk fun e s x a h=>?_
  obtain ⟨rfl,rfl,v',L',W',rfl,hS',T'⟩:=h
  refine tree_idle TT (fun w=>Conc.stepG_inLoop) ?_
  exact ih (dn++[[p1,p2,p3,p4]]) a L' W' v' (by rw [List.append_assoc];exact hd) (fun l hl'=>hl l (Zz1 hl')) hS' T'
end
end
section
open Go.RowKit Go.Shelf
def BA.isC:BA→Bool
 | .cells (_::_)=>true
 | .row ..=>true
 | _=>false
def farOk (n0:Nat) (L:List (Nat×BA)):Prop:=∀ p∈L,p.1 < n0∨p.2.isC=true
theorem BA.isC_cells {W:World} {g:Nat} {p:BA} (h:p.holds W g) (hc:p.isC=true) {o:Obj} (ho:W.heap[g]? = some o):o.isCells=true:=by
 cases p with
 | cells l =>
  cases l with
  | nil=>simp [BA.isC] at hc
  | cons x l =>
   have h1:=(show Bk W g (x::l).toArray from h).cell 0
   simp only [World.cell?,ho] at h1
   cases o <;> simp_all [Obj.isCells]
 | row e size n xs cap =>
  obtain ⟨h1,h2⟩:=h
  obtain ⟨-,h3⟩:=h1
  rcases h3 with ⟨h3,-⟩ | ⟨g',c',cur,h3,-,hb,-⟩
  ·cases h3
  ·injection h3 with h3 _ _
   injection h3 with h3
   injection h3 with h3 _ _
   subst h3
   rw [ho] at hb
   injection hb with hb
   subst hb
   rfl
 | any Q=>simp [BA.isC] at hc
theorem Mem.far2 {w0 w w':World} {ex:Nat→Prop} {L:List (Nat×BA)} {n0:Nat} {row:Option Nat} (M:Mem w0 ex w L) (hg:w.grownBy w' row)
  (hr:∀ r,row=some r→n0≤r∧∃ o:Obj,w.heap[r]? = some o∧o.isCells=false) (h0:w0.heap.size≤n0) (hL:farOk n0 L):Mem w0 ex w' L :=
 ⟨hg.os.trans M.os,hg.tape.trans M.tape,hg.output.trans M.output,Nat.le_trans M.size hg.size,
  fun b hb hx=>(hg.block b (Nat.lt_of_lt_of_le hb M.size) (fun e=>by have:=(hr b e.symm).1;omega)).trans (M.block b hb hx),
  fun p hp=>⟨(M.blk p hp).1,BA.same (M.blk p hp).2 hg.size (hg.block _ (BA.lt (M.blk p hp).2) (fun e=>by
   obtain ⟨h1,o,ho,hc⟩:=hr _ e.symm
   rcases hL p hp with h | h
   ·omega
   ·have:=BA.isC_cells (M.blk p hp).2 h ho
    rw [hc] at this
    cases this))⟩,M.nd⟩
def inL (L:List (Nat×BA)) (b:Nat):Prop:=b∈L.map (·.1)
theorem Mem.rebase {w0 w:World} {ex:Nat→Prop} {L:List (Nat×BA)} (M:Mem w0 ex w L):Mem w (inL L) w L :=
 ⟨rfl,rfl,rfl,Nat.le_refl _,fun _ _ _=>rfl,fun p hp=>⟨.inr (List.mem_map.2 ⟨p,hp,rfl⟩),(M.blk p hp).2⟩,M.nd⟩
theorem Mem.back {w0 w w':World} {ex:Nat→Prop} {L L':List (Nat×BA)} (M:Mem w0 ex w L) (M':Mem w (inL L) w' L'):Mem w0 ex w' L' :=
 ⟨M'.os.trans M.os,M'.tape.trans M.tape,M'.output.trans M.output,Nat.le_trans M.size M'.size,
  fun b hb hx=>(M'.block b (Nat.lt_of_lt_of_le hb M.size) (fun h=>by
   obtain ⟨p,hp,rfl⟩:=List.mem_map.1 h
   rcases (M.blk p hp).1 with h | h
   ·omega
   ·exact hx h)).trans (M.block b hb hx),
  fun p hp=>⟨by
   rcases (M'.blk p hp).1 with h | h
   ·exact .inl (Nat.le_trans M.size h)
   ·obtain ⟨q,hq,e⟩:=List.mem_map.1 h
    rw [← e]
    exact (M.blk q hq).1,(M'.blk p hp).2⟩,M'.nd⟩
theorem Mem.lt {w0 w:World} {ex:Nat→Prop} {L:List (Nat×BA)} (M:Mem w0 ex w L) {g:Nat} {p:BA} (h:(g,p)∈L):g < w.heap.size:=BA.lt (M.blk _ h).2
def KpE (n0:Nat) (eb:Nat→Prop) (W W':World):Prop:=W.heap.size≤W'.heap.size∧∀ b,b < n0→¬ eb b→W'.heap[b]? = W.heap[b]?
theorem KpE.t {n0:Nat} {eb:Nat→Prop} {A B C:World} (h:KpE n0 eb A B) (k:KpE n0 eb B C):KpE n0 eb A C:=⟨Nat.le_trans h.1 k.1,fun b hb hx=>(k.2 b hb hx).trans (h.2 b hb hx)⟩
def rPost {α:Type} (W:World) (exb:Nat→Prop) (J:List α→List (Nat×BA)→Prop) (Jx:Code→List α→List (Nat×BA)→Prop) (xs:List α):Exit→Act→World→Prop
 | .normal,_,W'=>∃ L,J xs L∧Mem W exb W' L
 | .ret,_,W'=>∃ L,Jx .ret xs L∧Mem W exb W' L
 | .exit id,_,W'=>∃ L,Jx (.exit id) xs L∧Mem W exb W' L
 | _,_,_=>False
def dfA:BA:=.any fun o=>o=.deferred (some [])
abbrev dfD (D:Nat):Deferred:={ target:=.collected D,args:=#[] }
section
variable {P:Program} {df:List Deferred} {a:Act} {w0 w:World} {ex:Nat→Prop} {n:Nat} {E:List (Nat×Value)}
theorem TmD.marks (T:TmD df a n E) (D:Nat):TmD (dfD D::df) { a with defers:=dfD D::a.defers } n E:=⟨by simp only [T.defers],T.size,fun p hp=>T.get p hp⟩
theorem px_range {α γ:Type} {g:Operand} {ps:Array Tmp} {assign body:Code} {Q:Exit→Act→World→Prop} (T:TmD df a n E)
  {gf:Nat} {lb:Array Value} (hg:a.eval g=.func (.func gf) #[] lb) (eg:∀ args w,(callFunc gf args).run P w=.ok (.enter gf args) w)
  {encs:α→Array Value} {S Sp:List α→Prop} {N:Nat} (eb:Nat→Prop) (hseq:SeqStopsK Fence.wide 7 P gf lb encs (KpE w.heap.size eb) S Sp N w) (hps:∀ x,(encs x).size=ps.size)
  (J:List α→List (Nat×BA)→Prop) (Jx:Code→List α→List (Nat×BA)→Prop)
  (EP:α→List (Nat×Value)) (EA:α→γ→List (Nat×Value)) (LB:α→γ→List (Nat×BA))
  (hf:∀ pre L,J pre L→farOk w.heap.size L) (hfx:∀ c pre L,Jx c pre L→farOk w.heap.size L)
  (heb:∀ pre L,J pre L→∀ p∈L,p.1 < w.heap.size→eb p.1)
  {L0:List (Nat×BA)} (M:Mem w0 ex w L0) (hJ0:J [] L0)
  (hEP:∀ x,TmD [] { tmps:=(ps.zip (encs x)).foldl (fun t (p,v)=>t.setIfInBounds p v) a.tmps,defers:=[] } n (EP x))
  (hLB:∀ x c,∀ p∈LB x c,p.2.isC=true)
  (hap:(∀ x c,LB x c=[])∨∀ pre L,J pre L→∀ p∈L,p.1 < w.heap.size)
  (hass:∀ (l:Nat) (x:α) (W:World) (K:Act→World→Prop) (a1:Act),TmD [] a1 n (EP x)→(∀ c a' W',TmD [] a' n (EA x c)→Mem W noEx W' (LB x c)→K a' W')→assign.wpIn (FW l) 6 P (Exit.then K (fun _ _ _=>False)) a1 W)
  (hbody:∀ (l:Nat) (pre:List α) (x:α) (c:γ) (L:List (Nat×BA)) (a':Act) (W:World),J pre L→w.heap.size≤W.heap.size→(∃ r,W.heap[l]? = some (.loop r))→w.heap.size≤l→pre.length < N →
   Mem w0 ex W (LB x c++L)→∀ (exb:Nat→Prop) (Wc:World),exb=inL (LB x c++L)→Wc=W→TmD [] a' n (EA x c)→Mem W exb Wc (LB x c++L)→body.wpIn (FW l) 6 P (rPost W exb J Jx (pre++[x])) a' Wc)
  (hdone:∀ (D:Nat) (xs:List α) (L:List (Nat×BA)) (a':Act) (W:World),S xs→J xs L→w.heap.size≤W.heap.size→TmD (dfD D::df) a' n E→Mem w0 ex W ((D,dfA)::L)→Q .normal a' W)
  (hstop:∀ (D:Nat) (c:Code) (pre:List α) (L:List (Nat×BA)) (a':Act) (W:World),Sp pre→Jx c pre L→w.heap.size≤W.heap.size→TmD (dfD D::df) a' n E→Mem w0 ex W ((D,dfA)::L)→c.wp P Q a' W) :
  (Code.rangeFunc g ps assign body).wp P Q a w:=by
 have hz0:=M.size
 have addD:∀ {D:Nat} {W:World} {L:List (Nat×BA)},w.heap.size≤D→W.heap[D]? = some (.deferred (some []))→farOk w.heap.size L→Mem w0 ex W L→Mem w0 ex W ((D,dfA)::L):=fun {D W L} hD hk hL M=>by
  refine M.add (by omega) ⟨_,hk,Z⟩ (fun q hq e=>?_)
  rcases hL q hq with h | h
  ·omega
  ·have h2:=BA.isC_cells (M.blk q hq).2 h (e ▸ hk)
   simp [Obj.isCells] at h2
 have keeps:∀ {x:α} {c:γ} {L L'':List (Nat×BA)} {pre:List α} {W W':World},J pre L→(∀ p∈LB x c,w.heap.size≤p.1)→w.heap.size≤W.heap.size→Mem w0 ex W (LB x c++L)→Mem W (inL (LB x c++L)) W' L''→KeepsFrom w.heap.size W W'∧KpE w.heap.size eb W W':=fun {x c L L'' pre W W'} hj hl hz M0 M=>by
  refine ⟨⟨M.size,fun k o hk ho hc=>(M.block k (Array.getElem?_eq_some_iff.1 ho).1 (fun hi=>?_)).trans ho⟩,M.size,fun b hb hx=>M.block b (by omega) (fun hi=>?_)⟩
  ·obtain ⟨p,hp,rfl⟩:=List.mem_map.1 hi
   have h2:p.2.isC=true:=by
    rcases List.mem_append.1 hp with h | h
    ·exact hLB _ _ p h
    ·rcases hf _ _ hj p h with h | h
     ·omega
     ·exact h
   rw [BA.isC_cells (M0.blk p hp).2 h2 ho] at hc
   cases hc
  ·obtain ⟨p,hp,rfl⟩:=List.mem_map.1 hi
   rcases List.mem_append.1 hp with h | h
   ·have:=hl p h
    omega
   ·exact hx (heb _ _ hj p h hb)
 refine (wpIn_wide (n:=8)).1 (wpIn_rangeFunc_ownH (α:=α) Z (by omega) hg trivial eg hseq
  (fun h k=>KpE.t h k) (fun W l o o' hl h _ _=>⟨by simp,fun b hb _=>World.putObj_heap_other (by omega)⟩) (Below.refl _ _) hps
  (fun pre W=>∃ L,J pre L∧Mem w0 ex W L∧w.heap.size≤W.heap.size)
  (fun c pre W=>∃ L,Jx c pre L∧Mem w0 ex W L∧w.heap.size≤W.heap.size)
  (fun s W W' row hs hg hr=>by
   obtain ⟨L,hj,M1,hz⟩:=hs
   exact ⟨L,hj,M1.far2 hg hr hz0 (hf _ _ hj),Nat.le_trans hz hg.size⟩)
  (fun c s W W' row hs hg hr=>by
   obtain ⟨L,hj,M1,hz⟩:=hs
   exact ⟨L,hj,M1.far2 hg hr hz0 (hfx _ _ _ hj),Nat.le_trans hz hg.size⟩)
  ⟨L0,hJ0,M,Nat.le_refl _⟩
  (fun x a' W=>∃ c,TmD [] a' n (EA x c)∧Mem w0 ex W (LB x c)∧∀ p∈LB x c,w.heap.size≤p.1)
  (fun x a' _ W W' row hs hg hr=>by
   obtain ⟨c,T',M1,hl⟩:=hs
   exact ⟨c,T',M1.far2 hg hr hz0 (fun p hp=>.inr (hLB _ _ p hp)),hl⟩)
  ?assign ?body ?done ?stop)
 case assign =>
  rintro l pre x W K ⟨L,hj,M1,hz⟩ hK
  refine hass l x W K _ (hEP x) fun c a' W' T' N1=>?_
  have hb:=N1.below
  refine hK a' W' ⟨hb.size,fun k o hk ho hc=>(hb.block k (Array.getElem?_eq_some_iff.1 ho).1).trans ho⟩ ⟨hb.size,fun b hb2 _=>hb.block b (by omega)⟩ ⟨L,hj,M1.call hb,Nat.le_trans hz hb.size⟩ ⟨c,T',?_,fun p hp=>?_⟩
  ·have h2:=M1.join N1
   exact h2.sub (Zsl _ _)
  ·rcases (N1.blk p hp).1 with h | h
   ·omega
   ·exact h.elim
 case body =>
  rintro l pre x a' W hl hrec ⟨L,hj,M1,hz⟩ ⟨c,T',M2,hl2⟩ hlt
  have M3:Mem w0 ex W (LB x c++L):=by
   rcases hap with h | h
   ·rw [h];exact M1
   ·refine ⟨M1.os,M1.tape,M1.output,M1.size,M1.block,fun p hp=>?_,?_⟩
    ·rcases List.mem_append.1 hp with h2 | h2
     ·exact M2.blk p h2
     ·exact M1.blk p h2
    ·rw [List.map_append]
     refine List.nodup_append.2 ⟨M2.nd,M1.nd,?_⟩
     intro i hi j hk e
     obtain ⟨p,hp,rfl⟩:=List.mem_map.1 hi
     obtain ⟨q,hq,rfl⟩:=List.mem_map.1 hk
     have:=hl2 p hp
     have:=h _ _ hj q hq
     omega
  refine wpIn_mono (hbody l pre x c L a' W hj hz hrec hl hlt M3 _ _ Z Z T' M3.rebase) fun e a2 W2 h=>?_
  cases e with
  | normal =>
   obtain ⟨L2,hj2,M4⟩:=h
   obtain ⟨k1,k2⟩:=keeps hj hl2 hz M3 M4
   exact ⟨k1,k2,L2,hj2,M3.back M4,Nat.le_trans hz M4.size⟩
  | ret =>
   obtain ⟨L2,hj2,M4⟩:=h
   obtain ⟨k1,k2⟩:=keeps hj hl2 hz M3 M4
   exact ⟨k1,L2,hj2,M3.back M4,Nat.le_trans hz M4.size⟩
  | exit id =>
   obtain ⟨L2,hj2,M4⟩:=h
   obtain ⟨k1,k2⟩:=keeps hj hl2 hz M3 M4
   exact ⟨k1,L2,hj2,M3.back M4,Nat.le_trans hz M4.size⟩
  | _=>exact h.elim
 case done =>
  rintro D xs W hD hS ⟨L,hj,M1,hz⟩ hK
  exact hdone D xs L _ W hS hj hz (T.marks D) (addD hD hK (hf _ _ hj) M1)
 case stop =>
  rintro D c pre W hD hSp ⟨L,hj,M1,hz⟩ hK
  exact wpIn_wide.2 (hstop D c pre L _ W hSp hj hz (T.marks D) (addD hD hK (hfx _ _ _ hj) M1))
end
theorem rn_makeFunc {P:Program} {op:Oper} {a:Act} {w:World} {f:FuncId} {xs ys:List Operand} {vs us:List Value} (ho:op.op=.makeFunc (.func f) xs.toArray ys.toArray) (hx:EvL a xs vs) (hy:EvL a ys us):Runs P op a (.func (.func f) vs.toArray us.toArray) w:=by
 unfold Runs execOp
 simp only [ho,List.map_toArray,hx.map,hy.map,Instr.makeFunc,Sem.run_bind,Sem.run_pure,Result.andThen_ok]
section
variable {P:Program} {F:Fence} {n:Nat} {b:Frame} {a:Act} {k:List Item} {cs:List Frame} {w:World} {Q:Exit→Act→World→Prop}
theorem rt_ng (h:Q .ret a w):Exit.noGoto Q .ret a w:=h
end
section
variable {α:Type} {W:World} {exb:Nat→Prop} {J:List α→List (Nat×BA)→Prop} {Jx:Code→List α→List (Nat×BA)→Prop} {xs:List α} {a:Act} {w:World} {L:List (Nat×BA)}
end
section
variable {df:List Deferred} {a:Act} {n:Nat} {E:List (Nat×Value)}
theorem TmD.round1 (T:TmD df a n E) {p:Tmp} (v:Value) (hf:freshE E p=true) (hn:Nat.blt p n=true):TmD [] { tmps:=((#[p]:Array Tmp).zip (#[v]:Array Value)).foldl (fun t (p,v)=>t.setIfInBounds p v) a.tmps,defers:=[] } n ((p,v)::E):=by
 have h:=T.put hn hf v
 have e:((#[p]:Array Tmp).zip (#[v]:Array Value)).foldl (fun t (p,v)=>t.setIfInBounds p v) a.tmps=(a.put (some p) v).tmps:=by simp [Act.put]
 rw [e]
 exact ⟨rfl,h.size,h.get⟩
end
def bpM (P:Program) (fn:Func) (R:Ending→World→Prop):Exit→Act→World→Prop
 | .normal,a,w=>bodyPostM Fence.wide 8 P fn R .normal a w
 | .ret,a,w=>bodyPostM Fence.wide 8 P fn R .ret a w
 | _,_,_=>False
def dfT (Ds:List Nat):List (Nat×BA):=Ds.map fun D=>(D,dfA)
section
variable {P:Program} {a:Act} {w0 w:World} {ex:Nat→Prop} {n:Nat} {E:List (Nat×Value)} {L:List (Nat×BA)}
theorem px_enterM {f:FuncId} {fn:Func} {c:Code} {args:Array Value} {R:Ending→World→Prop} (ex:Nat→Prop) (hf:P.funcs[f]? = some fn) (hb:fn.body=some c) (n:Nat) (hn:fn.ntmps=n) (vs:List Value) (ha:args=vs.toArray) (hle:Nat.ble vs.length n=true)
  {L:List (Nat×BA)} (M:Mem w ex w L)
  (h:∀ a w',TmD [] a n (numE 0 vs)→Mem w ex w' L→c.wp P (bpM P fn R) a w'):Calls P f args w R:=by
 subst ha
 have hle:=Nat.le_of_ble_eq_true hle
 refine (callsIn_wide (n:=8)).1 (callsIn_of_wp_marks hf hb trivial (wpIn_wide.2 (wp_mono (h _ _ ⟨rfl,?_,fun p hp=>?_⟩ M) fun e a w h=>by cases e <;> first | exact h | exact h.elim)) Z)
 ·simp [hn];omega
 ·obtain ⟨i,h1,h2⟩:=numE_get vs 0 p hp
  have hi:i < vs.length:=(List.getElem?_eq_some_iff.1 h2).1
  have e:p.1=i:=by omega
  rw [e]
  have h3:(vs.toArray++Array.replicate (fn.ntmps - vs.toArray.size) undef)[i]? = some p.2:=by
   rw [Array.getElem?_append_left (by simpa using hi)]
   simpa using h2
  show (vs.toArray++Array.replicate (fn.ntmps - vs.toArray.size) undef).getD i undef=p.2
  simp only [Array.getD_eq_getD_getElem?,h3,Option.getD_some]
theorem leavesM {fn:Func} {R:Ending→World→Prop} {tmps:Array Value}:∀ (Ds:List Nat) (w:World),Mem w0 ex w (L++dfT Ds)→(∀ w',Mem w0 ex w' L→∃ v,(results fn tmps).run P w'=.ok v w'∧R (.returned v) w')→LeavesInM Fence.wide 8 P fn tmps R (Ds.map dfD) .returning w
 | [],w,M,h=>h w (by simpa [dfT] using M)
 | D::Ds,w,M,h=>by
  have hm:(D,dfA)∈L++dfT (D::Ds):=List.mem_append_right _ Zz2
  obtain ⟨o,hD,ho⟩:=M.at hm
  subst ho
  refine ⟨by simp,.inl ⟨D,_,Z,run_takeDeferred hD,leavesM Ds _ ?_ h⟩⟩
  have hu:Upd (L++dfT (D::Ds)) D dfA (.any fun _=>True) (L++(D,.any fun _=>True)::dfT Ds):=by
   clear M h hD hm
   induction L with
   | nil=>exact .head
   | cons q L ih=>exact .tail ih
  have M2:=M.callW hu (grownBy_putObj' w D (.deferred none)) ⟨.deferred none,by
   have h2:=(Array.getElem?_eq_some_iff.1 hD).1
   simp [World.putObj,h2],trivial⟩
  exact M2.sub (List.Sublist.append (List.Sublist.refl L) (List.sublist_cons_self _ _))
theorem rtM {fn:Func} {R:Ending→World→Prop} (Ds:List Nat) (T:TmD (Ds.map dfD) a n E) (M:Mem w0 ex w (L++dfT Ds)) (h:∀ w' a',Tm a' n E→Mem w0 ex w' L→bodyPost P fn R .ret a' w'):bpM P fn R .ret a w:=by
 show LeavesInM Fence.wide 8 P fn a.tmps R a.defers .returning w
 rw [T.defers]
 refine leavesM Ds w M fun w' M'=>?_
 obtain ⟨_,v,h1,h2⟩:=h w' { a with defers:=[] } ⟨rfl,T.size,T.get⟩ M'
 exact ⟨v,h1,h2⟩
end
end
section
open Go.RowKit Go.Proofs.Ytoheddpnnjldgaa.Bi Go.Proofs.Ytoheddpnnjldgaa.Bq
noncomputable def tTop:Code:=Try.f117.body.getD .skip
noncomputable def tX1:Code:=cB tTop
noncomputable def tX2:Code:=cB tX1
noncomputable def tX3:Code:=cB tX2
noncomputable def tX4:Code:=cB tX3
noncomputable def tX5:Code:=cB tX4
noncomputable def tR4:Array Oper:=cOps (cA tX4)
noncomputable def kX5:Code:=cB kX4
section
variable {P:Program} {op:Oper} {a:Act} {K:Act→World→Prop} {Q:Exit→Act→World→Prop} {w0 w:World} {ex:Nat→Prop} {L:List (Nat×BA)} {df:List Deferred} {n t:Nat} {E:List (Nat×Value)} {J:Nat→Option Obj}
theorem ow_mkch {ty e:TypeId} {dr:ChanDir} {x:Operand} (M:Mem w0 ex w L) (T:TmD df a n E) (ho:op.op=.makeChan ty x) (hd:op.dst=some t) (hf:freshE E t=true) (hn:Nat.blt t n=true) (hx:a.eval x=Zi 0) (hu:P.underlying ty=some (.chan dr e)) (hi:(P.info? e).isSome=true)
  (h:∀ g w' a',Mem w0 ex w' ((g,.any fun o=>o=.chan 0 #[] false 0 0 false)::L)→TmD df a' n ((t,.chan (some g))::E)→K a' w'):op.wp P a w K Q:=by
 obtain ⟨i,hi⟩:=Option.isSome_iff_exists.1 hi
 have hr:=Conc.run_makeChan (P:=P) (w:=w) hu hi .i64 0 (by omega) (by omega)
 unfold Oper.wp execOp
 simp only [ho,hx]
 rw [Sem.run_bind,show (0:Int)=((0:Nat):Int) from rfl,hr]
 exact h _ _ _ (M.newAny _ _ Z) (by rw [hd];exact T.put hn hf _)
theorem run_go {x:Operand} {ts:Array TypeId} {f:FuncId} {cap:Array Value} (ho:op.op=.go { callee:=.value x,args:=#[],argTypes:=ts }) (hx:a.eval x=.func (.func f) #[] cap) (w:World) :
  (execOp a.eval op).run P w=.ok (.spawn { target:=.fn (.func f) cap,args:=#[] }) w∧(execOp a.eval op).events P w #[] = #[]:=by
 constructor
 ·unfold execOp resolve;simp [ho,hx,Deferred.ofValue]
 ·unfold execOp resolve;simp [ho,hx,Deferred.ofValue]
theorem Rd.rt {size m:Nat} {A:Option Addr} {xs:List Value} (hJ:JOk J w) (h:Rd w w.heap.size size A m xs) (T:Nat→Question→Nat) (c:Nat):Rd (rt J w T c) (rt J w T c).heap.size size A m xs :=
 ⟨h.1,fun hn=>by
  obtain ⟨b,o,e,hb,hc⟩:=h.2 hn
  exact ⟨b,o,e,by show b < (un J w.heap).size;rw [un_size];exact hb,fun j u hu=>(rt_cell hJ T c _).trans (hc j u hu)⟩⟩
end
structure BwOk (w:World) (b:Bw) (A:Option Addr) (B:Option Addr):Prop where
 cs:Rd w w.heap.size 2 A b.cs.length (rc b.cs)
 ts:Rd w w.heap.size 4 B b.ts.length (lkc b.ts)
 op:∀ t∈b.ts,Rd w w.heap.size 1 t.A t.op.length (ic t.op)
structure BwVal (b:Bw):Prop where
 n4:b.cs.length≤4
 cr:∀ x∈b.cs,0≤x.1∧x.1≤5∧0≤x.2∧x.2≤5
 tr:∀ t∈b.ts,(1≤t.sec∧t.sec≤20)∧t.op.length≤1000∧∀ c∈t.op,0≤c∧c < 4
 tn:b.ts.length≤1000
theorem truths_many {b:Bw} (h:BwVal b):(truthsB b).length≤1000000:=by
 have key:∀ (r:List (Int×Int)) (k:Nat) (l:List Int),(∀ x∈r,0≤x.1∧x.1≤5∧0≤x.2∧x.2≤5)→(trs b.ts r k l).length≤6 ^ r.length:=by
  intro r
  induction r with
  | nil=>intro k l _;unfold trs;split <;> simp
  | cons x r ih =>
   intro k l hx
   obtain ⟨h1,h2,h3,h4⟩:=hx x Zz2
   unfold trs
   have hlen:(upI x.1 x.2).length≤6:=by unfold upI;simp;omega
   have:∀ (u:List Int),((u.flatMap fun n=>trs b.ts r (k+1) (l.set k n)).length)≤u.length * 6 ^ r.length:=by
    intro u
    induction u with
    | nil=>simp
    | cons n u ihu =>
     rw [List.flatMap_cons,Zx3,Zx1,Nat.succ_mul]
     have:=ih (k+1) (l.set k n) fun y hy=>hx y (Zz1 hy)
     omega
   refine Nat.le_trans (this _) ?_
   rw [Zx1,Nat.pow_succ,Nat.mul_comm]
   exact Nat.mul_le_mul_left _ hlen
 have h1:=key b.cs 0 [0,0,0,0] h.cr
 have h2:6 ^ b.cs.length≤6 ^ 4:=Nat.pow_le_pow_right (by omega) h.n4
 exact Nat.le_trans h1 (Nat.le_trans h2 (by decide))
section
variable {J:Nat→Option Obj} {w0 w:World} {Q:Exit→Act→World→Prop} {a:Act} {Lk:List (Nat×BA)} {b:Bw} {A:Option Addr} {ca:Nat} {B:Option Addr} {cb:Nat}
theorem tr_0 (hP:FuncsOk Try.prog) (M:Mem w0 noEx w Lk) (T:Tm a 9 [(0,.agg (b.cells A ca B cb).toArray)]):wpB Try.prog J (cA tTop) (fun e a w=>e=.normal∧∃ g1,Mem w0 noEx w ((g1,.cells (b.cells A ca B cb))::Lk)∧Tm a 9 [(1,Zj g1)]) a w:=by
 refine b_lone hP w0 fun T0=>?_
 replace M:=M.tp T0 0 0
 refine wp_region_lit ?_
 refine Zl2 ?_
 refine Zob M T Z Z Z Z (T.at Z) (l:=b.cells A ca B cb) Z ?_;clear M T;intro g1 w a M T
 refine lq T (Zra Z evc) ?_;clear T;intro a T
 refine wpList_nil ?_
 refine nqR_n M fun w M=>?_
 exact ⟨rfl,g1,M,T.sel [1] Z⟩
theorem tr_1 (hP:FuncsOk Try.prog) {g1:Nat} (M:Mem w0 noEx w ((g1,.cells (b.cells A ca B cb))::Lk)) (T:Tm a 9 [(1,Zj g1)]):wpB Try.prog J (cA tX1) (fun e a w=>e=.normal∧∃ gc g3,Mem w0 noEx w ((g3,.cells [.chan (some gc)])::(gc,.any fun o=>o=.chan 0 #[] false 0 0 false)::(g1,.cells (b.cells A ca B cb))::Lk)∧Tm a 9 [(3,Zj g3),(1,Zj g1)]) a w:=by
 refine b_lone hP w0 fun T0=>?_
 replace M:=M.tp T0 0 0
 refine wp_region_lit ?_
 refine Zl2 ?_
 refine ow_mkch M T Z Z Z Z evc Try.underlying138 (by kernel_rfl) ?_;clear M T;intro gc w a M T
 refine Zl2 ?_
 refine Zoa M T Z Z Z Z ?_;clear M T;intro g3 w a M T
 refine Zl2 ?_
 refine Zos (cs':=[.chan (some gc)]) (ds:=[.chan (some gc)]) M T Z Z (T.at Z) (T.at Z) Z .head Z (by simp) Z (by kernel_rfl) ?_;clear M T;intro w a M T
 refine wpList_nil ?_
 refine nqR_n M fun w M=>?_
 exact ⟨rfl,gc,g3,M,T.sel [3,1] Z⟩
theorem tr_2 (hP:FuncsOk Try.prog) {g1 gc g3:Nat} (M:Mem w0 noEx w ((g3,.cells [.chan (some gc)])::(gc,.any fun o=>o=.chan 0 #[] false 0 0 false)::(g1,.cells (b.cells A ca B cb))::Lk)) (T:Tm a 9 [(3,Zj g3),(1,Zj g1)]):wpB Try.prog J (cA tX2) (fun e a w=>e=.normal∧∃ g4,Mem w0 noEx w ((g4,.cells [.nilFunc])::(g3,.cells [.chan (some gc)])::(gc,.any fun o=>o=.chan 0 #[] false 0 0 false)::(g1,.cells (b.cells A ca B cb))::Lk)∧Tm a 9 [(4,Zj g4),(3,Zj g3),(1,Zj g1)]) a w:=by
 refine b_lone hP w0 fun T0=>?_
 replace M:=M.tp T0 0 0
 refine wp_region_lit ?_
 refine Zl2 ?_
 refine Zoa M T Z Z Z Z ?_;clear M T;intro g4 w a M T
 refine wpList_nil ?_
 refine nqR_n M fun w M=>?_
 exact ⟨rfl,g4,M,T.sel [4,3,1] Z⟩
theorem tr_3 (hP:FuncsOk Try.prog) {g1 gc g3 g4:Nat} (M:Mem w0 noEx w ((g4,.cells [.nilFunc])::(g3,.cells [.chan (some gc)])::(gc,.any fun o=>o=.chan 0 #[] false 0 0 false)::(g1,.cells (b.cells A ca B cb))::Lk)) (T:Tm a 9 [(4,Zj g4),(3,Zj g3),(1,Zj g1)]):wpB Try.prog J (cA tX3) (fun e a w=>e=.normal∧Mem w0 noEx w ((g4,.cells [.func (.func 139) #[] #[Zj g1,Zj g4,Zj g3]])::(g3,.cells [.chan (some gc)])::(gc,.any fun o=>o=.chan 0 #[] false 0 0 false)::(g1,.cells (b.cells A ca B cb))::Lk)∧Tm a 9 [(4,Zj g4),(3,Zj g3)]) a w:=by
 refine b_lone hP w0 fun T0=>?_
 replace M:=M.tp T0 0 0
 refine wp_region_lit ?_
 refine lq T (rn_makeFunc (xs:=[]) (ys:=[.tmp 1,.tmp 4,.tmp 3]) Z .nil (.cons (T.at Z) (.cons (T.at Z) (.cons (T.at Z) .nil)))) ?_;clear T;intro a T
 refine Zl2 ?_
 refine Zos (cs':=[.func (.func 139) #[] #[Zj g1,Zj g4,Zj g3]]) (ds:=[.func (.func 139) #[] #[Zj g1,Zj g4,Zj g3]]) M T Z Z (T.at Z) (T.at Z) Z .head Z (by simp) Z (by kernel_rfl) ?_;clear M T;intro w a M T
 refine wpList_nil ?_
 refine nqR_n M fun w M=>?_
 exact ⟨rfl,M,T.sel [4,3] Z⟩
theorem truths_pre (hP:FuncsOk Try.prog) {bf:Frame} {cs:List Frame} {Post:Goroutine→World→Prop} (hk:bf.kind≠.early) (M:Mem w0 noEx w Lk) (T:Tm a 9 [(0,.agg (b.cells A ca B cb).toArray)])
  (h:∀ (a:Act) (w:World) (g1 gc g3 g4:Nat),Mem w0 noEx w ((g4,.cells [.func (.func 139) #[] #[Zj g1,Zj g4,Zj g3]])::(g3,.cells [.chan (some gc)])::(gc,.any fun o=>o=.chan 0 #[] false 0 0 false)::(g1,.cells (b.cells A ca B cb))::Lk)→Tm a 9 [(4,Zj g4),(3,Zj g3)]→Comp Try.prog J (gr (bf.at a [.code tX4]) cs) w Post):Comp Try.prog J (gr (bf.at a [.code tTop]) cs) w Post:=by
 refine comp_part hP (x:=cA tTop) (y:=tX1) hk (tr_0 hP M T) ?_
 rintro a w ⟨g1,M,T⟩
 refine comp_part hP (x:=cA tX1) (y:=tX2) hk (tr_1 hP M T) ?_
 rintro a w ⟨gc,g3,M,T⟩
 refine comp_part hP (x:=cA tX2) (y:=tX3) hk (tr_2 hP M T) ?_
 rintro a w ⟨g4,M,T⟩
 refine comp_part hP (x:=cA tX3) (y:=tX4) hk (tr_3 hP M T) ?_
 rintro a w ⟨M,T⟩
 exact h a w g1 gc g3 g4 M T
end
end
section
open Go.RowKit Go.Proofs.Ytoheddpnnjldgaa.Bi Go.Proofs.Ytoheddpnnjldgaa.Bq
section
variable {J:Nat→Option Obj} {w0 w:World} {a:Act} {b:Bw} {A:Option Addr} {ca:Nat} {B:Option Addr} {cb:Nat}
theorem truths_rest {Y:Type} {St:Y→XS→Goroutine→Prop} {s:Y} {I:World→Prop} {rd ex:Nat→Prop} {wb:World} {fn:FuncId} {gc g3:Nat} (hO:OldOk wb rd ex) (hout:wb.cell? ⟨g3,0,none⟩=some (.chan (some gc))) {L:List (Nat×BA)} {W:Nat→Prop} {g4:Nat} (T:Tm a 9 [(4,Zj g4),(3,Zj g3)]) :
  wI Try.prog true I rd wb ex fn St tX5 (fun e s' x a=>e=.ret∧s'=s∧x=(L,W)∧a.defers=[]∧a.eval (.tmp 2)=.chan (some gc)) s (L,W) a:=by
 refine ki_seq ?_
 refine ki_reg [0,1] ?_
 refine oi_r T Z (ri_oc hO hout Z (T.at Z)) ?_;clear T;intro a T
 refine oi_q T Z (re_assign Z (T.at Z)) ?_;clear T;intro a T
 refine oi_nil ?_
 refine ti_then ?_
 refine ki_ret ?_
 exact ⟨rfl,Z,Z,T.defers,T.at Z⟩
def EndB (w0:World) (bf:Frame) (k:List Item) (cs:List Frame) (all:List (List Int)) (gc:Nat) (g:Goroutine) (w:World):Prop :=
 ∃ (a:Act) (v:Value) (I:List (Nat×BA)),Sl 109 4 v all.length (lvc all) I∧Tm a 39 [(9,v),(27,.chan (some gc))]∧Mem w0 noEx (Bq.tp w w0.tape 0) I∧g=gr (bf.at (a.put (some 28) (Conc.recvd true zL false)) (.inRegion kR12 [1] :: .code kIB :: .inLoop kLB :: .inBlock 2 :: .code kX5::k)) cs
theorem itemOk_sub {g:Goroutine} {bf:Frame} {a a':Act} {k k':List Item} {cs:List Frame} (h:∃ kf,kf∈g.callers∧kf=bf.at a k) (hcs:∀ fr∈cs,fr∈g.callers) (hg:GOk g) (hd:a'.defers=[]) (hk:∀ it∈k',ItemOk it∨it∈k):GOk (gr (bf.at a' k') cs):=by
 obtain ⟨kf,h1,rfl⟩:=h
 have hkf:=hg.callers _ h1
 refine ⟨⟨fun it hit=>(hk it hit).elim id fun h=>hkf.todo it h,fun d hd'=>?_⟩,fun fr hfr=>hg.callers fr (hcs fr hfr)⟩
 have:d∈a'.defers:=hd'
 rw [hd] at this
 cases this
set_option maxHeartbeats 4000000 in
theorem fork_piece (hP:FuncsOk Try.prog) {bf:Frame} {k:List Item} {cs:List Frame} {Lk:List (Nat×BA)} {a1:Act} {g1 gc g3 g4:Nat} (hk:bf.kind≠.early) (hok:BwOk w0 b A B) (hv:BwVal b)
  (M:Mem w0 noEx w ((g4,.cells [.func (.func 139) #[] #[Zj g1,Zj g4,Zj g3]])::(g3,.cells [.chan (some gc)])::(gc,.any fun o=>o=.chan 0 #[] false 0 0 false)::(g1,.cells (b.cells A ca B cb))::Lk)) (T:Tm a 9 [(4,Zj g4),(3,Zj g3)]) (T1:Tm a1 39 [(9,.slice none 0 0)]) :
  Comp Try.prog J (gr ((Conc.base 117).at a [.code tX4]) (bf.at a1 (.inRegion kR11 [1] :: .code kB2 :: .code kX5::k)::cs)) w (EndB w0 bf k cs (truthsB b) gc):=by
 refine comp_sq hP (x:=cA tX4) (y:=tX5) ?_
 refine comp_rg hP (id:=4) (ops:=tR4) (l:=[0,1]) Z ?_
 refine comp_q hP (i:=0) (v:=.func (.func 140) #[] #[Zj g3,Zj g4]) Z Z (fun T' d'=>rn_makeFunc (xs:=[]) (ys:=[.tmp 3,.tmp 4]) Z .nil (.cons (T.at Z) (.cons (T.at Z) .nil))) ?_
 obtain ⟨a2,ha2⟩:∃ a2,a2=a.put (some 7) (.func (.func 140) #[] #[Zj g3,Zj g4]):=⟨_,rfl⟩
 replace T:Tm a2 9 [(7,.func (.func 140) #[] #[Zj g3,Zj g4]),(4,Zj g4),(3,Zj g3)]:=by rw [ha2];exact T.put (t:=7) rfl rfl _
 refine (show Comp Try.prog J (gr ((Conc.base 117).at (a.put (some 7) (.func (.func 140) #[] #[Zj g3,Zj g4])) (.inRegion tR4 [1] :: .code tX5::[])) (bf.at a1 (.inRegion kR11 [1] :: .code kB2 :: .code kX5::k)::cs)) w (EndB w0 bf k cs (truthsB b) gc) from ?_)
 rw [← ha2]
 clear ha2
 refine comp_fork (XA:=XS) (XB:=XS) (f:=true) (z:=zL) fun hJ hl Tt dd=>?_
 -- the world of the fork
 obtain ⟨wb,hwb⟩:∃ wb,wb=rt J w Tt dd:=⟨_,rfl⟩
 rw [← hwb]
 have hsz:wb.heap.size=w.heap.size:=by rw [hwb];exact un_size J w.heap
 have hcell:∀ p,wb.cell? p=w.cell? p:=fun p=>by rw [hwb];exact rt_cell hJ Tt dd p
 have hchan:wb.heap[gc]? = some (.chan 0 #[] false 0 0 false):=by
  obtain ⟨o,ho,rfl⟩:=(M.blk (gc,.any fun o=>o=.chan 0 #[] false 0 0 false) (by simp)).2
  rw [hwb]
  show (un J w.heap)[gc]? = _
  rw [un_get,ho]
  rfl
 have hgc:w0.heap.size≤gc:=(M.blk (gc,.any fun o=>o=.chan 0 #[] false 0 0 false) (by simp)).1.resolve_right fun h=>h
 let rd:Nat→Prop:=fun b=>b < wb.heap.size∧b≠gc
 let ex:Nat→Prop:=fun b=>b=gc
 have hO:OldOk wb rd ex:=fun p v hp=>by
  have:=old_rd (c:=gc) hchan rfl hp
  exact ⟨this,this.1,this.2⟩
 have hb1:Bk w g1 (b.cells A ca B cb).toArray:=(M.blk (g1,.cells (b.cells A ca B cb)) (by simp)).2
 have hb3:Bk w g3 [.chan (some gc)].toArray:=(M.blk (g3,.cells [.chan (some gc)]) (by simp)).2
 have hb4:Bk w g4 [.func (.func 139) #[] #[Zj g1,Zj g4,Zj g3]].toArray:=(M.blk (g4,.cells [.func (.func 139) #[] #[Zj g1,Zj g4,Zj g3]]) (by simp)).2
 have hout:wb.cell? ⟨g3,0,none⟩=some (.chan (some gc)):=by rw [hcell,hb3.cell];rfl
 have H:BEnv wb rd ex g1 g4 g3 gc b A ca B cb:=by
  refine ⟨hO,fun j u hu=>?_,?_,hout,?_,?_,fun t ht=>?_,hv.n4,hv.cr,hv.tr,hv.tn⟩
  ·rw [hcell,hb1.cell];simpa using hu
  ·rw [hcell,hb4.cell];rfl
  ·rw [hwb];exact (M.rd hok.cs (Nat.le_refl _)).rt hJ Tt dd
  ·rw [hwb];exact (M.rd hok.ts (Nat.le_refl _)).rt hJ Tt dd
  ·rw [hwb];exact (M.rd (hok.op t ht) (Nat.le_refl _)).rt hJ Tt dd
 have hI:IKeeps Try.prog (InvJ J Tt w.heap.size):=ikeeps_J hP fun b o e=>hJ b o e
 have hBe:=bears_J (fun b o e=>(hJ b o e).1) Tt w.heap.size gc
 have hst:Stable (InvJ J Tt w.heap.size) (mSide wb ex) rd:=mSide_stable fun b h1 h2=>⟨h1,h2⟩
 have TT:=side_terms (InvJ J Tt w.heap.size) (mSide wb ex) rd
 let Fin:XS→Goroutine→Prop:=fun x g=>∃ (a:Act) (v:Value),Sl 109 4 v (truthsB b).length (lvc (truthsB b)) x.1∧Tm a 39 [(9,v),(27,.chan (some gc))]∧g=gr (bf.at (a.put (some 28) (Conc.recvd true zL false)) (.inRegion kR12 [1] :: .code kIB :: .inLoop kLB :: .inBlock 2 :: .code kX5::k)) cs
 have hspawn:stepG Try.prog true (gr ((Conc.base 117).at a2 (.inRegion tR4 [1] :: .code tX5::[])) (bf.at a1 (.inRegion kR11 [1] :: .code kB2 :: .code kX5::k)::cs)) wb =
   .spawn (Conc.G ((Conc.base 117).at (a2.put none undef) (.inRegion tR4 [] :: .code tX5::[])) (bf.at a1 (.inRegion kR11 [1] :: .code kB2 :: .code kX5::k)::cs)) (Conc.born Try.prog { target:=.fn (.func 140) #[Zj g3,Zj g4],args:=#[] }) wb #[]:=by
  have hr:=run_go (P:=Try.prog) (op:=tR4[1]) (a:=a2) (x:=.tmp 7) (ts:=#[]) (f:=140) (cap:=#[Zj g3,Zj g4]) rfl (T.at rfl) wb
  have h1:=Conc.stepG_spawn (P:=Try.prog) (main:=true) (b:=Conc.base 117) (a:=a2) (ops:=tR4) (i:=1) (rest:=[]) (o:=tR4[1]) (k:=[.code tX5]) (cs:=bf.at a1 (.inRegion kR11 [1] :: .code kB2 :: .code kX5::k)::cs) (w:=wb) rfl rfl (by simp [Conc.base]) hr.1 rfl
  rw [Conc.listed_nil hr.2] at h1
  exact h1
 have hMb:Mem wb ex wb []:=⟨rfl,rfl,rfl,Nat.le_refl _,fun _ _ _=>rfl,fun p hp=>(by cases hp),(by simp)⟩
 have hsit:(mSide wb ex).Sit ([],fun _=>False) wb:=⟨hMb,fun b hb=>hb.elim,fun p hp=>(by cases hp)⟩
 refine ⟨gc,mSide wb ex,mSide wb ex,rd,Fin,(truthsB b).map lvV,([],fun _=>False),([],fun _=>False),_,_,#[],0,0,false,hspawn,by simp,hst,hst,?_,child_prod hI (fun w d h=>hBe.draw w d h) H,?_,hchan,?_⟩
 ·-- what the parent does
  rw [cons_iff]
  refine tree_idle TT (fun w=>Conc.stepG_region_end) ?_
  refine truths_rest (St:=StA Try.prog gc zL true (InvJ J Tt w.heap.size) (mSide wb ex) rd Fin) (s:=(truthsB b).map lvV) (fn:=117) hO hout (L:=[]) (W:=fun _=>False) (g4:=g4) (show Tm (a2.put none undef) 9 _ from T.sel [4,3] Z) (Conc.base 117) [] _ Z (by simp [Conc.base]) fun e s x a h=>?_
  obtain ⟨rfl,rfl,rfl,hd,h2⟩:=h
  intro todo
  have hres:=Conc.resultsC_tmp (P:=Try.prog) (fn:=Try.f117) (t:=2) rfl a.tmps
  rw [show a.tmps.getD 2 undef=.chan (some gc) from h2] at hres
  refine tree_idle TT (fun w=>Conc.stepG_leave (b:=Conc.base 117) Z hd Try.func117 (hres w).1 (hres w).2) ?_
  rw [show (bf.at a1 (.inRegion kR11 [1] :: .code kB2 :: .code kX5::k)).finish (.chan (some gc))=bf.at (a1.put (some 27) (.chan (some gc))) (.inRegion kR11 [] :: .code kB2 :: .code kX5::k) by rw [Frame.finish_at];rfl]
  replace T1:Tm (a1.put (some 27) (.chan (some gc))) 39 _:=T1.put rfl rfl _
  refine tree_idle TT (fun w=>Conc.stepG_region_end) ?_
  refine tree_idle TT (fun w=>Conc.stepG_block (id:=2) (c:=.loop kLB)) ?_
  refine tree_idle TT (fun w=>Conc.stepG_loop) ?_
  exact loop_cons hI hk (truths_many hv) (fun a L W v hS Ta=>⟨a,v,hS,Ta,Z⟩) (truthsB b) [] _ [] (fun _=>False) _ Z (fun l hl=>(trs_len _ _ _ _ _ hl).trans Z) (Sl.nil _ _) (T1.sel [9,27] Z)
 ·exact ⟨⟨w,dd,hwb,hl.heap,Nat.le_refl _⟩,hsit,hsit,fun _ h _=>h.elim,fun _ _ h=>h,fun _ _ h=>h,fun b hb=>hb.1,fun h=>h,fun h=>h,fun h=>h.2 Z,(Array.getElem?_eq_some_iff.1 hchan).1⟩
 ·-- where the end has been seen
  rintro x g' w' d' ⟨a',v,hS,Ta,rfl⟩ hs hH hn
  have hJ':JOk J w':=hJ.mono hn
  have hMw:Mem w0 noEx (Bq.tp w' w0.tape 0) x.1:=by
   have hM:=hs.1
   refine ⟨?_,Z,?_,Nat.le_trans M.size hn,fun b hb _=>?_,fun p hp=>⟨?_,BA.tp (holds_rt hJ' (flatL_spec hS.flat p hp) (hM.blk p hp).2)⟩,hM.nd⟩
   ·have:=hM.os;rw [hwb] at this;exact this.trans M.os
   ·have:=hM.output;rw [hwb] at this;exact this.trans M.output
   ·have h1:=hM.block b (by rw [hsz];exact Nat.lt_of_lt_of_le hb M.size) (fun e=>by rw [e] at hb;omega)
    rw [hwb] at h1
    exact (un_inj hJ hl.heap hH h1).trans (M.block b hb fun h=>h)
   ·rcases (hM.blk p hp).1 with h | h
    ·exact .inl (Nat.le_trans (by rw [hsz];exact M.size) h)
    ·exact .inl (by rw [show p.1=gc from h];exact hgc)
  refine ⟨⟨a',v,x.1,hS,Ta,hMw,Z⟩,Z,Z,?_,hH,Nat.lt_of_lt_of_le hl.some_ hn⟩
  refine itemOk_sub (g:=gr ((Conc.base 117).at a2 (.inRegion tR4 [1] :: .code tX5::[])) (bf.at a1 (.inRegion kR11 [1] :: .code kB2 :: .code kX5::k)::cs)) (bf:=bf) (a:=a1) (k:=.inRegion kR11 [1] :: .code kB2 :: .code kX5::k) ⟨_,Zz2,Z⟩ (fun fr hfr=>Zz1 hfr) hl.ok Ta.defers fun it hit=>?_
  simp only [Zx7] at hit
  rcases hit with rfl | rfl | rfl | rfl | rfl | hit
  ·exact .inl (show (kR12.all fun o=>opOk o.op)=true by kernel_rfl)
  ·exact .inl (show codeOk kIB=true by kernel_rfl)
  ·exact .inl (show codeOk kLB=true by kernel_rfl)
  ·exact .inl trivial
  ·exact .inr (by simp)
  ·exact .inr (by simp [hit])
end
end
section
open Go.RowKit Go.Proofs.Ytoheddpnnjldgaa.Bi Go.Proofs.Ytoheddpnnjldgaa.Bq
section
variable {J:Nat→Option Obj} {w0 w:World} {a:Act} {b:Bw} {A:Option Addr} {ca:Nat} {B:Option Addr} {cb:Nat} {Q:Exit→Act→World→Prop}
set_option maxHeartbeats 4000000 in
theorem known_mid (hP:FuncsOk Try.prog) {gk:Nat} (hok:BwOk w0 b A B) (hv:BwVal b) (M:Mem w0 noEx w [(gk,.cells (b.cells A ca B cb))]) (T:Tm a 39 [(9,.slice none 0 0),(2,Zj gk)])
  (hQ:∀ (a:Act) (w:World) (v:Value) (I:List (Nat×BA)),Sl 109 4 v (truthsB b).length (lvc (truthsB b)) I→Tm a 39 [(9,v)]→Mem w0 noEx w I→wpB Try.prog J kX5 Q a w):wpB Try.prog J kX4 Q a w:=by
 intro bf k cs Post hk hA
 refine comp_sq hP (x:=cA kX4) (y:=kX5) ?_
 refine comp_sq hP (x:=cA (cA kX4)) (y:=kB2) ?_
 refine comp_rg hP (id:=11) (ops:=kR11) (l:=[0,1]) Z ?_
 have hbox:Bk w gk (b.cells A ca B cb).toArray:=M.get Zz2
 refine comp_q hP (i:=0) (v:=.agg (b.cells A ca B cb).toArray) Z Z (fun T' d'=>Zrr (m:=4) (w:=Bq.tp w T' d') (BA.tp (p:=.cells (b.cells A ca B cb)) hbox) Z (T.at Z) Z) ?_
 obtain ⟨a1,ha1⟩:∃ a1,a1=a.put (some 26) (.agg (b.cells A ca B cb).toArray):=⟨_,rfl⟩
 replace T:Tm a1 39 [(26,.agg (b.cells A ca B cb).toArray),(9,.slice none 0 0),(2,Zj gk)]:=by rw [ha1];exact T.put (t:=26) rfl rfl _
 refine (show Comp Try.prog J (gr (bf.at (a.put (some 26) (.agg (b.cells A ca B cb).toArray)) (.inRegion kR11 [1] :: .code kB2 :: .code kX5::k)) cs) w Post from ?_)
 rw [← ha1]
 clear ha1
 refine comp_call hP (i:=1) (f:=117) (args:=#[.agg (b.cells A ca B cb).toArray]) Z Z (fun T' d'=>run_callV (first:=[]) (cap:=[]) (xs:=[.tmp 26]) Z evf (.cons (T.at Z) .nil) Try.func117 Z Z _) ?_
 rw [Conc.enter_at _ Try.func117 (c:=tTop) rfl]
 generalize ha0:({ tmps:=#[.agg (b.cells A ca B cb).toArray]++Array.replicate _ undef,defers:=[] }:Act)=a0
 have T0:Tm a0 9 [(0,.agg (b.cells A ca B cb).toArray)]:=by
  subst ha0
  refine ⟨rfl,Z,fun p hp=>?_⟩
  simp only [Zx7,Zx8,or_false] at hp
  subst hp
  rfl
 clear ha0
 refine truths_pre hP (Lk:=[(gk,.cells (b.cells A ca B cb))]) (by simp [Conc.base]) M T0 ?_
 intro a2 w2 g1 gc g3 g4 M2 T2
 refine comp_trans (fork_piece hP hk hok hv M2 T2 (T.sel [9] Z)) ?_
 rintro g' w' ⟨a3,v,I,hS,T3,M3,rfl⟩ - -
 obtain ⟨a4,ha4⟩:∃ a4,a4=a3.put (some 28) (Conc.recvd true zL false):=⟨_,rfl⟩
 have T4:Tm a4 39 [(28,.tuple #[zL,.bool false]),(9,v),(27,.chan (some gc))]:=by rw [ha4];exact T3.put (t:=28) rfl rfl _
 rw [← ha4]
 clear ha4
 refine comp_q hP (i:=1) (v:=.bool false) Z Z (fun T' d'=>Zre (vs:=[zL,.bool false]) Z (T4.at Z) Z) ?_
 obtain ⟨a5,ha5⟩:∃ a5,a5=a4.put (some 29) (.bool false):=⟨_,rfl⟩
 have T5:Tm a5 39 [(29,.bool false),(28,.tuple #[zL,.bool false]),(9,v),(27,.chan (some gc))]:=by rw [ha5];exact T4.put (t:=29) rfl rfl _
 refine (show Comp Try.prog J (gr (bf.at (a4.put (some 29) (.bool false)) (.inRegion kR12 [] :: .code kIB :: .inLoop kLB :: .inBlock 2 :: .code kX5::k)) cs) w' Post from ?_)
 rw [← ha5]
 clear ha5
 refine comp_re hP ?_
 refine comp_sq hP (x:=cA kIB) (y:=cB kIB) ?_
 refine comp_go hP (fr':=bf.at a5 (.code (.exit 2) :: .code (cB kIB) :: .inLoop kLB :: .inBlock 2 :: .code kX5::k)) (cs':=cs) (fun w=>?_) ?_
 ·have h29:a5.eval (.tmp 29)=.bool false:=T5.at rfl
  have h1:=Conc.stepG_cond (P:=Try.prog) (main:=true) (b:=bf) (a:=a5) (k:=.code (cB kIB) :: .inLoop kLB :: .inBlock 2 :: .code kX5::k) (cs:=cs) (w:=w) (c:=.tmp 29) (x:=.skip) (y:=.exit 2) h29
  show (stepG Try.prog true (Conc.G (bf.at a5 (.code (.cond (.tmp 29) .skip (.exit 2)) :: .code (cB kIB) :: .inLoop kLB :: .inBlock 2 :: .code kX5::k)) cs) w).bare=_
  rw [h1]
  rfl
 refine comp_go hP (fr':=bf.at a5 (.code kX5::k)) (cs':=cs) (fun w=>?_) ?_
 ·have h1:=Conc.stepG_exit (P:=Try.prog) (main:=true) (b:=bf) (a:=a5) (id:=2) (k:=.code (cB kIB) :: .inLoop kLB :: .inBlock 2 :: .code kX5::k) (k':=.code kX5::k) (cs:=cs) (w:=w) rfl
  show (stepG Try.prog true (Conc.G (bf.at a5 (.code (.exit 2) :: .code (cB kIB) :: .inLoop kLB :: .inBlock 2 :: .code kX5::k)) cs) w).bare=_
  rw [h1]
  rfl
 exact comp_pt (hQ a5 (Bq.tp w' w0.tape 0) v I hS (T5.sel [9] Z) M3 bf k cs Post hk hA)
end
end
open Go.RowKit
def Sm (e size:Nat) (A:Option Addr) (n c:Nat) (xs:List Value) (I:List (Nat×BA)):Prop :=
 (n=0∧xs=[]∧c=0∧∃ g,A=some ⟨g,0,none⟩∧I=[(g,.any fun o=>o=.cells #[] e)])∨∃ g,A=some ⟨g,0,none⟩∧I=[(g,.row e size n xs c)]
theorem Try.append0i (A:Option Addr) (c g:Nat) (ty:TypeId) (w:World):(Builtin.append_ #[28,28] ty #[.slice (some ⟨g,0,none⟩) 0 0,.slice A 0 c]).run Try.prog w=.ok (.slice (some ⟨g,0,none⟩) 0 0) w:=by
 cases A <;> kernel_rfl
theorem ow_appM {P : Program} {op : Oper} {a : Act} {K : Act → World → Prop} {Q : Exit → Act → World → Prop} {s x : Operand} {ty e size bytes b c d m nn t' : Nat} {A : Option Addr} {z : Value} {cs xs : List Value} {w0 w : World} {ex : Nat → Prop} {L0 I : List (Nat × BA)} {E : List (Nat × Value)} (L1 : List (Nat × BA))
   (hinfo:(P.info? e).map (fun i=>(i.zero,i.size,i.bytes))=some (some z,size,bytes)) (hS:Sm e size A m d xs I) (M:Mem w0 ex w L0) (hsp:L0=L1++I) (T:Tm a nn E)
   (ho:op.op=.call { callee:=.builtin .append,args:=#[s,x],argTypes:=#[ty,ty] }) (hd:op.dst=some t') (hf:freshE E t'=true) (hnn:Nat.blt t' nn=true)
   (ht:P.underlying ty=some (.slice e)) (hzs:z.cells.size=size) (hsz:Nat.blt 0 size=true) (hby:Nat.ble bytes 1000=true) (hm:m≤1000000)
   (hs:a.eval s=.slice A m d) (hx:a.eval x=.slice (some ⟨b,0,none⟩) 1 c) (hmem:(b,BA.cells cs)∈L1) (hl:cs.length=size) (h1:cs.all (·.oneCell')=true)
   (h:∀ g cap w' a',Mem w0 ex w' ((g,.row e size (m+1) (xs++cs) cap)::L1)→Tm a' nn ((t',.slice (some ⟨g,0,none⟩) (m+1) cap)::E)→K a' w'):op.wp P a w K Q:=by
 rcases hS with ⟨rfl,rfl,rfl,g,rfl,rfl⟩ | ⟨g,rfl,rfl⟩
 · subst hsp
   obtain ⟨i,hi,hz0,hz1,hz2⟩:=info_parts hinfo
   have hsz:=Nat.le_of_ble_eq_true hsz
   have hby:=Nat.le_of_ble_eq_true hby
   have hbb:(0+1) * bytes≤140737488355328:=by omega
   have hB:=M.get (List.mem_append_left [(g,BA.any fun o=>o=.cells #[] e)] hmem)
   obtain ⟨o,hge,rfl⟩:=(M.blk (g,BA.any fun o=>o=.cells #[] e) (List.mem_append_right _ Zz2)).2
   have hgl:g < w.heap.size:=(Array.getElem?_eq_some_iff.1 hge).1
   refine wp_append_lies w s x ty ho g e i z size bytes ht hi hz0 hz1 hz2 hzs hsz (.slice (some ⟨g,0,none⟩) 0 0) 0 [] hs ⟨by simp,.inr ⟨g,0,#[],Z,Nat.le_refl _,hge,by omega,by unfold maxLen;omega,by simp,by simp⟩⟩ ⟨b,0,none⟩ 1 c cs hx (by omega) (fun j u hu=>by rw [Addr.add_mid,hB.cell,Zxa];simpa using hu) (fun u hu=>(List.all_eq_true.1 h1) u hu) (by omega) (by unfold maxLen;omega) hbb (Nat.le_of_lt hgl) w.heap.size Z ?_
   intro g' cap w' hown hgr hat hlt
   have hgr:w.grownBy w' (some g):=hgr
   simp only [Zxa,Zx5] at hown
   have e0:a.put op.dst (.slice (some ⟨g',0,none⟩) (0+1) cap)=a.put op.dst (.slice (some ⟨g',0,none⟩) (0+1) cap):=rfl
   refine h g' cap w' _ ?_ (by rw [hd];exact T.put hnn hf _)
   have Ms:=Mem.swapI (I:=L1) (L:=[(g,BA.any fun o=>o=.cells #[] e)]) M
   have hg0:g < w'.heap.size:=Nat.lt_of_lt_of_le hgl hgr.size
   rcases hat with h2 | h2
   · have h2:some g=some g':=h2
     injection h2 with h2
     subst h2
     exact Ms.callW (L':=(g,.row e size (0+1) ([]++cs) cap)::L1) .head hgr (own_rebase hown (by omega))
   · have M1:=Ms.callW (L':=(g,.any (fun _=>True))::L1) .head hgr ⟨w'.heap[g],Array.getElem?_eq_getElem hg0,trivial⟩
     exact M1.forget.add (by rw [h2];exact M.size) (own_rebase hown (by omega)) (fun q hq e=>by have:=BA.lt (Ms.blk q (Zz1 hq)).2;omega)
 · exact ow_app L1 hinfo (.inr ⟨g,d,Z,Z⟩) M hsp T ho hd hf hnn ht hzs hsz hby hm hs hx hmem hl h1 h
open Go.RowKit
theorem Bk.of_heap {w:World} {g:Nat} {t:TypeId} {cur:Array Value} (h:w.heap[g]? = some (.cells cur t)):Bk w g cur.toList.toArray :=
 ⟨(Array.getElem?_eq_some_iff.1 h).1,fun o=>by simp only [World.cell?,h];rfl,fun o=>by simp only [World.frozen?,h];simp⟩
theorem Sp.mono {w:World} {ex:Nat→Prop} {I I':List (Nat×BA)} {A:Option Addr} {n size b o:Nat} {xs:List Value} (S:Sp w ex I A n size b o xs) (h:I.Sublist I'):Sp w ex I' A n size b o xs :=
 ⟨S.at0,S.len,fun w' L M hI hn=>S.lt w' L M (h.trans hI) hn,fun w' L M hI=>S.cell w' L M (h.trans hI)⟩
abbrev JE:=Jb×Option Addr×Nat
abbrev LE:=List Int×Option Addr×Nat
def lc (l:List LE):List Value:=l.map fun x=>.slice x.2.1 x.1.length x.2.2
theorem lc_length (l:List LE):(lc l).length=l.length:=by simp [lc]
section
variable {w w':World} {ex:Nat→Prop} {I L:List (Nat×BA)} {n b o k:Nat} {A:Option Addr} {l:List JE} {r:List LE}
theorem Sp.lc0 {x:List Int} {B:Option Addr} {c:Nat} (S:Sp w ex I A n 1 b o (lc r)) (M:Mem w ex w' L) (hI:I.Sublist L) (h:r[k]? = some (x,B,c)):w'.cell? ⟨b,o+k * 1,none⟩=some (.slice B x.length c):=by
 rw [Nat.mul_one]
 exact S.cell w' L M hI _ _ (by unfold lc;rw [List.getElem?_map,h];rfl)
end
section
variable {P:Program} {op:Oper} {a:Act} {K:Act→World→Prop} {Q:Exit→Act→World→Prop} {w0 w:World} {ex:Nat→Prop} {L0 L:List (Nat×BA)} {E:List (Nat×Value)} {t n:Nat}
theorem rn_rem {ty ty':TypeId} {x y:Operand} {p q:Int} (ho:op.op=.binOp .rem ty x y ty') (hx:a.eval x=Zi p) (hy:a.eval y=Zi q) (hq:q≠0):Runs P op a (Zi (p.tmod q)) w:=by
 refine rn_bin ho hx hy ?_
 rw [eqGuard_rem,binOp_rem]
 unfold Op.intDiv
 rw [if_neg (by simpa using hq)]
 rfl
end
theorem Upd.app {g:Nat} {p p':BA}:∀ (L:List (Nat×BA)),Upd (L++[(g,p)]) g p p' (L++[(g,p')])
 | []=>.head
 | _::L=>.tail (Upd.app L)
theorem ic_snoc (l:List Int) (x:Int):ic l++[Zi x]=ic (l++[x]):=by simp [ic]
section
variable {P:Program} {op:Oper} {a:Act} {K:Act→World→Prop} {Q:Exit→Act→World→Prop} {w0 w:World} {ex:Nat→Prop} {L0 L:List (Nat×BA)} {E:List (Nat×Value)} {t n:Nat}
theorem ow_bs0 {ty e:TypeId} (M:Mem w0 ex w L) (T:Tm a n E) (ho:op.op=.buildSlice ty 0 #[]) (hd:op.dst=some t) (hf:freshE E t=true) (hn:Nat.blt t n=true)
  (hr:∀ w:World,(Instr.buildSlice ty 0 #[]).run P w=.ok (.slice (some ⟨w.heap.size,0,none⟩) 0 0) (w.alloc (.cells #[] e)))
  (h:∀ g w' a',Mem w0 ex w' ((g,.any fun o=>o=.cells #[] e)::L)→Tm a' n ((t,.slice (some ⟨g,0,none⟩) 0 0)::E)→K a' w'):op.wp P a w K Q:=by
 unfold Oper.wp execOp
 simp only [ho]
 have e2:((#[]:Array (Nat×Operand)).map fun (i,x)=>(i,a.eval x)) = #[]:=by simp
 rw [Sem.run_bind,e2,hr]
 exact h w.heap.size _ _ (M.newAny (.cells #[] e) (fun o=>o=.cells #[] e) Z) (by rw [hd];exact T.put hn hf _)
theorem ow_appS {s x:Operand} {ty e size bytes b m d:Nat} {B:Option Addr} {z:Value} {cs:List Value}
  (hinfo:(P.info? e).map (fun i=>(i.zero,i.size,i.bytes))=some (some z,size,bytes)) (M:Mem w0 ex w ((b,.any fun o=>o=.cells #[] e)::L)) (T:Tm a n E)
  (ho:op.op=.call { callee:=.builtin .append,args:=#[s,x],argTypes:=#[ty,ty] }) (hd:op.dst=some t) (hf:freshE E t=true) (hnn:Nat.blt t n=true)
  (h0:∀ g (w:World),(Builtin.append_ #[ty,ty] op.type #[.slice (some ⟨g,0,none⟩) 0 0,.slice B 0 d]).run P w=.ok (.slice (some ⟨g,0,none⟩) 0 0) w)
  (ht:P.underlying ty=some (.slice e)) (hzs:z.cells.size=size) (hsz:Nat.blt 0 size=true) (hby:Nat.ble bytes 1000=true) (hm:m≤1000000)
  (hs:a.eval s=.slice (some ⟨b,0,none⟩) 0 0) (hx:a.eval x=.slice B m d) (hr:Rd w w.heap.size size B m cs) (h1:∀ u∈cs,u.oneCell'=true)
  (h:∀ A' c' I' w' a',Sm e size A' m c' cs I'→Mem w0 ex w' (I'++L)→Tm a' n ((t,.slice A' m c')::E)→K a' w'):op.wp P a w K Q:=by
 rcases Nat.eq_zero_or_pos m with rfl | hm0
 ·obtain rfl:cs=[]:=List.eq_nil_of_length_eq_zero (by have:=hr.1;omega)
  unfold Oper.wp execOp
  simp only [ho,resolve,invoke,builtin,Sem.run_bind,Sem.run_pure,Result.andThen_ok,List.map_toArray,List.map_cons,List.map_nil,hs,hx,h0]
  exact h _ _ [(b,.any fun o=>o=.cells #[] e)] w _ (.inl ⟨rfl,Z,Z,b,Z,Z⟩) M (by rw [hd];exact T.put hnn hf _)
 ·obtain ⟨i,hi,hz0,hz1,hz2⟩:=info_parts hinfo
  obtain ⟨g2,o2,rfl,hlt,hc⟩:=hr.cells hm0
  have hby:=Nat.le_of_ble_eq_true hby
  have hsz:=Nat.le_of_ble_eq_true hsz
  have hbb:(0+m) * bytes≤140737488355328:=by
   have:(0+m) * bytes≤1000000 * 1000:=Nat.mul_le_mul (by omega) hby
   omega
  obtain ⟨h2,o,hge,rfl⟩:=M.blk (b,.any fun o=>o=.cells #[] e) Zz2
  have hgl:b < w.heap.size:=(Array.getElem?_eq_some_iff.1 hge).1
  refine wp_append_lies w s x ty ho b e i z size bytes ht hi hz0 hz1 hz2 hzs hsz _ 0 [] hs ⟨by simp,.inr ⟨b,0,#[],Z,Nat.le_refl _,hge,by omega,by unfold maxLen;omega,by simp,by simp⟩⟩ ⟨g2,o2,none⟩ m d cs hx hr.1 (fun j u hu=>by rw [Addr.add_mid];exact hc j u hu) h1 hm0 (by unfold maxLen;omega) hbb (Nat.le_of_lt hgl) w.heap.size Z ?_
  intro g cap' w' hown hgr hat hlt2
  have hgr:w.grownBy w' (some b):=hgr
  simp only [Zxa,Zx5] at hown
  have key:Mem w0 ex w' ((g,.row e size m cs cap')::L):=by
   rcases hat with h3 | h3
   ·have h3:some b=some g:=h3
    injection h3 with h3
    subst h3
    exact M.callW (L':=(b,.row e size m cs cap')::L) .head hgr (own_rebase hown hm0)
   ·have M1:=M.callW (L':=(b,.any (fun _=>True))::L) .head hgr (by
     have hl0:b < w'.heap.size:=Nat.lt_of_lt_of_le hgl hgr.size
     exact ⟨w'.heap[b],Array.getElem?_eq_getElem hl0,trivial⟩)
    exact M1.forget.add (by rw [h3];exact M.size) (own_rebase hown hm0) (fun q hq e=>by have:=BA.lt (M.blk q (Zz1 hq)).2;omega)
  have e0:a.put op.dst (.slice (some ⟨g,0,none⟩) (0+m) cap')=a.put op.dst (.slice (some ⟨g,0,none⟩) m cap'):=by rw [Zxa]
  rw [e0]
  exact h _ _ [(g,.row e size m cs cap')] w' _ (.inr ⟨g,Z,Z⟩) key (by rw [hd];exact T.put hnn hf _)
end
def Cl (e size:Nat) (A:Option Addr) (n c:Nat) (xs:List Value) (I:List (Nat×BA)):Prop :=
 (A=none∧n=0∧xs=[]∧c=0∧I=[])∨Sm e size A n c xs I
theorem Cl.row (e size g n c:Nat) (xs:List Value):Cl e size (some ⟨g,0,none⟩) n c xs [(g,.row e size n xs c)]:=.inr (.inr ⟨g,rfl,rfl⟩)
theorem Cl.spV {e size n c:Nat} {A:Option Addr} {xs:List Value} {I:List (Nat×BA)} (h:Cl e size A n c xs I) (hl:xs.length=n * size):∃ b o,∀ (w:World) (ex:Nat→Prop),Sp w ex I A n size b o xs:=by
 rcases h with ⟨rfl,rfl,rfl,_,rfl⟩ | ⟨rfl,rfl,_,g,rfl,rfl⟩ | ⟨g,rfl,rfl⟩
 · exact ⟨0,0,fun w ex=>Sp.nil⟩
 · exact ⟨0,0,fun w ex=>⟨fun h=>absurd h (by omega),by simp,fun _ _ _ _ h=>absurd h (by omega),fun _ _ _ _ j u hu=>by simp at hu⟩⟩
 · exact ⟨g,0,fun w ex=>Sp.row hl⟩
theorem Cl.capLe {e n size:Nat} {A:Option Addr} {c:Nat} {xs:List Value} {I:List (Nat×BA)} {w0 w:World} {ex:Nat→Prop} {L:List (Nat×BA)} (h:Cl e size A n c xs I) (M:Mem w0 ex w L) (hI:I.Sublist L):n≤c:=by
 rcases h with ⟨_,rfl,_,rfl,_⟩ | ⟨rfl,_,rfl,_⟩ | ⟨g,rfl,rfl⟩
 ·omega
 ·omega
 ·obtain ⟨⟨-,h5⟩,h6⟩:=(M.blk (g,.row e size n xs c) (hI.subset Zz2)).2
  rcases h5 with ⟨h7,-⟩ | ⟨g',cap',cur,h7,-,-,h8,-⟩
  ·cases h7
  ·injection h7 with _ _ h9
   omega
theorem ow_appC {P : Program} {op : Oper} {a : Act} {K : Act → World → Prop} {Q : Exit → Act → World → Prop} {s x : Operand} {ty e size bytes b c d m nn t' : Nat} {A : Option Addr} {z : Value} {cs xs : List Value} {w0 w : World} {ex : Nat → Prop} {L0 I : List (Nat × BA)} {E : List (Nat × Value)} (L1 : List (Nat × BA))
   (hinfo:(P.info? e).map (fun i=>(i.zero,i.size,i.bytes))=some (some z,size,bytes)) (hS:Cl e size A m d xs I) (M:Mem w0 ex w L0) (hsp:L0=L1++I) (T:Tm a nn E)
   (ho:op.op=.call { callee:=.builtin .append,args:=#[s,x],argTypes:=#[ty,ty] }) (hd:op.dst=some t') (hf:freshE E t'=true) (hnn:Nat.blt t' nn=true)
   (ht:P.underlying ty=some (.slice e)) (hzs:z.cells.size=size) (hsz:Nat.blt 0 size=true) (hby:Nat.ble bytes 1000=true) (hm:m≤1000000)
   (hs:a.eval s=.slice A m d) (hx:a.eval x=.slice (some ⟨b,0,none⟩) 1 c) (hmem:(b,BA.cells cs)∈L1) (hl:cs.length=size) (h1:cs.all (·.oneCell')=true)
   (h:∀ g cap w' a',Mem w0 ex w' ((g,.row e size (m+1) (xs++cs) cap)::L1)→Tm a' nn ((t',.slice (some ⟨g,0,none⟩) (m+1) cap)::E)→K a' w'):op.wp P a w K Q:=by
 rcases hS with ⟨rfl,rfl,rfl,rfl,rfl⟩ | hS
 · exact ow_app L1 hinfo (Sl.nil e size) M hsp T ho hd hf hnn ht hzs hsz hby hm hs hx hmem hl h1 h
 · exact ow_appM L1 hinfo hS M hsp T ho hd hf hnn ht hzs hsz hby hm hs hx hmem hl h1 h
section
open Go.RowKit Go.Proofs.Ytoheddpnnjldgaa.Bq
structure L4 where
 a:Int
 b:Int
 c:Int
 d:Int
def l4cE (p:L4):List Value:=[Zi p.a,Zi p.b,Zi p.c,Zi p.d]
def l4c (l:List L4):List Value:=l.flatMap l4cE
theorem l4c_length (l:List L4):(l4c l).length=l.length * 4:=by
 induction l with
 | nil=>rfl
 | cons x l ih =>
  show (l4cE x++l4c l).length=_
  rw [Zx3,ih,Zx1]
  show 4+_=_
  omega
theorem l4c_get:∀ (l:List L4) (k:Nat) {x:L4},l[k]? = some x→∀ (i:Nat) (v:Value),(l4cE x)[i]? = some v→(l4c l)[k * 4+i]? = some v
 | [],k,x,h=>by simp at h
 | y::l,0,x,h=>by
  intro i v hv
  simp only [List.getElem?_cons_zero,Option.some.injEq] at h
  subst h
  show (l4cE y++l4c l)[0 * 4+i]? = some v
  rw [Nat.zero_mul,Zxa,List.getElem?_append_left (List.getElem?_eq_some_iff.1 hv).1]
  exact hv
 | y::l,k+1,x,h=>by
  intro i v hv
  have:=l4c_get l k (by simpa using h) i v hv
  show (l4cE y++l4c l)[(k+1) * 4+i]? = some v
  have e:(l4cE y).length=4:=rfl
  rw [List.getElem?_append_right (by rw [e];omega),e,show (k+1) * 4+i - 4=k * 4+i by omega]
  exact this
theorem l4c_next {l:List L4} {k:Nat} (h:k < l.length):∃ x,l[k]? = some x∧l.drop k=x::l.drop (k+1):=⟨l[k],List.getElem?_eq_getElem h,List.drop_eq_getElem_cons h⟩
section
variable {w w':World} {ex:Nat→Prop} {I L:List (Nat×BA)} {n b o k:Nat} {A:Option Addr} {l:List L4} {p:L4}
theorem Sp.l4cA (S:Sp w ex I A n 4 b o (l4c l)) (M:Mem w ex w' L) (hI:I.Sublist L) (h:l[k]? = some p) (f:Nat) (v:Value) (hv:(l4cE p)[f]? = some v):w'.cell? ⟨b,o+k * 4+f,none⟩=some v:=by
 have:=S.cell w' L M hI _ _ (l4c_get l k h f v hv)
 rwa [← Nat.add_assoc] at this
theorem Sp.l4cR (S:Sp w ex I A n 4 b o (l4c l)) (M:Mem w ex w' L) (hI:I.Sublist L) (h:l[k]? = some p):w'.rangeAt b (o+k * 4) [Zi p.a,Zi p.b,Zi p.c,Zi p.d]:=fun j v hv=>S.l4cA M hI h j v hv
end
def toL4 (l:List Int):L4:=⟨l.getD 0 0,l.getD 1 0,l.getD 2 0,l.getD 3 0⟩
def truthsL (b:Bw):List L4:=(truthsB b).map toL4
theorem lvc_l4:∀ (ts:List (List Int)),(∀ l∈ts,l.length=4)→lvc ts=l4c (ts.map toL4)
 | [],_=>rfl
 | l::r,h=>by
  have h1:=h l Zz2
  have ih:=lvc_l4 r fun x hx=>h x (Zz1 hx)
  match l,h1 with
  | [p1,p2,p3,p4],_ =>
   show ic [p1,p2,p3,p4]++lvc r=_
   rw [ih]
   rfl
theorem truthsB_len {b:Bw} {l:List Int} (h:l∈truthsB b):l.length=4:=(trs_len _ _ _ _ _ h).trans rfl
theorem sl_cl {e size n:Nat} {v:Value} {xs:List Value} {I:List (Nat×BA)} (h:Sl e size v n xs I):∃ A c,v=.slice A n c∧Cl e size A n c xs I:=by
 rcases h with ⟨rfl,rfl,rfl,rfl⟩ | ⟨g,cap,rfl,rfl⟩
 · exact ⟨none,0,Z,.inl ⟨rfl,Z,Z,Z,Z⟩⟩
 · exact ⟨_,cap,Z,Cl.row e size g n cap xs⟩
def firstE:List Int→Int
 | []=>0
 | e::r=>if e=0 then firstE r else e
def knownE (b:Bw) (el:List Int):Int:=if chkB b≠0 then chkB b else if firstE el≠0 then firstE el else if (truthsB b).length=0 then 9 else 0
def knownL (b:Bw) (el:List Int):List L4:=if chkB b≠0 then [] else if firstE el≠0 then [] else truthsL b
theorem withinB_iff {n lo hi:Int}:withinB n lo hi=true↔lo≤n∧n≤hi:=by unfold withinB;simp
theorem chkR0 {x y h:Int} (e:chkR x y 0 h=0):0≤x∧x≤y∧y≤h:=by
 unfold chkR at e
 split at e
 ·rename_i h1
  rw [withinB_iff,withinB_iff] at h1
  split at e
  ·cases e
  ·omega
 ·cases e
theorem rngs0 {h:Int}:∀ {l:List (Int×Int)},rngsE h l=0→∀ x∈l,0≤x.1∧x.1≤x.2∧x.2≤h
 | y::l,e,x,hx=>by
  unfold rngsE at e
  split at e
  ·rename_i h1
   rcases Zx7.1 hx with rfl | hx
   ·exact chkR0 h1
   ·exact rngs0 e x hx
  ·rename_i h1;exact absurd e h1
theorem opE0 {n:Int}:∀ {l:List Int} {p:Option Int},opE n l p=0→∀ c∈l,0≤c∧c≤n - 1
 | d::l,p,e,c,hc=>by
  unfold opE at e
  split at e
  ·cases e
  ·rename_i h1
   split at e
   ·cases e
   ·rcases Zx7.1 hc with rfl | hc
    ·exact withinB_iff.1 (by simpa using h1)
    ·exact opE0 e c hc
theorem tsts0 {n:Int}:∀ {l:List Lk},tstsE n l=0→∀ t∈l,tstE n t=0
 | y::l,e,t,ht=>by
  unfold tstsE at e
  split at e
  ·rename_i h1
   rcases Zx7.1 ht with rfl | ht
   ·exact h1
   ·exact tsts0 e t ht
  ·rename_i h1;exact absurd e h1
theorem tst0 {n:Int} {t:Lk} (e:tstE n t=0):t.op.length≠0∧opE n t.op none=0∧(1≤t.sec∧t.sec≤20)∧0≤t.lo∧t.lo≤t.hi∧t.hi≤400:=by
 unfold tstE at e
 split at e
 ·cases e
 ·split at e
  ·rename_i h1;exact absurd e h1
  ·split at e
   ·cases e
   ·rename_i h1 h2 h3
    exact ⟨h1,by simpa using h2,withinB_iff.1 (by simpa using h3),chkR0 e⟩
structure BwGood (b:Bw):Prop where
 full:1≤b.full∧b.full≤200
 air:0≤b.a0∧b.a0≤b.a1∧b.a1≤b.full
 n4:b.cs.length≤4
 cs:∀ x∈b.cs,0≤x.1∧x.1≤x.2∧x.2≤5
 n3:b.ts.length≤3
 ts:∀ t∈b.ts,tstE b.cs.length t=0
theorem chkB_good {b:Bw} (e:chkB b=0):BwGood b:=by
 unfold chkB at e
 split at e
 ·cases e
 ·rename_i h1
  split at e
  ·rename_i h2;exact absurd e h2
  ·rename_i h2
   split at e
   ·cases e
   ·rename_i h3
    split at e
    ·rename_i h4;exact absurd e h4
    ·rename_i h4
     split at e
     ·cases e
     ·rename_i h5
      exact ⟨withinB_iff.1 (by simpa using h1),chkR0 (by simpa using h2),by omega,rngs0 (by simpa using h4),by omega,tsts0 e⟩
theorem BwGood.val {b:Bw} (h:BwGood b) (nop:∀ t∈b.ts,t.op.length≤1000):BwVal b:=by
 refine ⟨h.n4,fun x hx=>by have:=h.cs x hx;omega,fun t ht=>?_,by have:=h.n3;omega⟩
 obtain ⟨-,h2,h3,-⟩:=tst0 (h.ts t ht)
 refine ⟨h3,nop t ht,fun c hc=>?_⟩
 have:=opE0 h2 c hc
 have:=h.n4
 omega
def KnownPost (b:Bw) (el:List Int) (w:World) (e:Ending) (w':World):Prop :=
 ∃ A c I,e=.returned (.tuple #[.slice A (knownL b el).length c,Zi (knownE b el)])∧Cl 109 4 A (knownL b el).length c (l4c (knownL b el)) I∧Mem w noEx w' I
theorem known_any {J:Nat→Option Obj} (hP:FuncsOk Try.prog) (b:Bw) (A:Option Addr) (c:Nat) (D:Option Addr) (d:Nat) (E:Option Addr) (ce:Nat) (el:List Int)  (w:World) (hA:Rd w w.heap.size 2 A b.cs.length (rc b.cs)) (hD:Rd w w.heap.size 4 D b.ts.length (lkc b.ts)) (hop:∀ t∈b.ts,Rd w w.heap.size 1 t.A t.op.length (ic t.op)) (nA:b.cs.length≤1000) (nD:b.ts.length≤1000) (nop:∀ t∈b.ts,t.op.length≤1000) (hE:Rd w w.heap.size 1 E el.length (ic el)) (nE:el.length≤1000) :
   CallsB Try.prog J 77 #[.agg #[Zi b.full,Zi b.a0,Zi b.a1,.slice A b.cs.length c,.slice D b.ts.length d],.slice E el.length ce] w (KnownPost b el w):=by
 obtain ⟨bA,oA,SA⟩:=Sp.old hA
 obtain ⟨bD,oD,SD⟩:=Sp.old hD
 obtain ⟨bE,oE,SE⟩:=Sp.old hE
 refine px_enterB hP noEx Try.func77 Z 39 Z [.agg #[Zi b.full,Zi b.a0,Zi b.a1,.slice A b.cs.length c,.slice D b.ts.length d],.slice E el.length ce] Z Z (Mem.init w _) ?_
 intro ac wc T M
 refine wpB_seq hP ?_
 refine b_lone hP w fun T9=>?_
 replace M:=M.tp T9 0 0
 replace SA:=SA.tp T9 0
 replace SD:=SD.tp T9 0
 replace SE:=SE.tp T9 0
 refine wp_region_lit ?_
 refine Zl2 ?_
 refine Zob M T Z Z Z Z (T.e 0 Z) Z ?_;clear M T;intro g1 wc ac M T
 refine Zg2 T (Zq (Zra Z evc)) Z (Zc Z) Z ?_;intro ac T
 refine wpList_nil ?_
 refine nqR_n M ?_;clear M;intro wc M
 replace SA:=SA.pt
 replace SD:=SD.pt
 replace SE:=SE.pt
 replace T:=T.pick [2,4] rfl
 refine nm_then ?_
 refine wpB_seq hP ?_
 refine wpB_seq hP ?_
 refine b_lone hP w fun T9=>?_
 replace M:=M.tp T9 0 0
 replace SA:=SA.tp T9 0
 replace SD:=SD.tp T9 0
 replace SE:=SE.tp T9 0
 refine wp_region_lit ?_
 refine lq T (Zrr (Mem.nth M 0 Z) Z (T.e 0 Z) Z) ?_;intro ac T
 refine Zl2 ?_
 refine Zod T Z Z Z Z evf (.cons (T.e 0 Z) .nil) Try.func60 Z Z ?_
 refine Calls.mono (bChk_any b _ _ _ _ _ (SA.rd M (Zz9 _)) (SD.rd M (Zz9 _)) (fun t ht=>M.rd (hop t ht) (Nat.le_refl _)) nA nD nop) ?_
 clear T;rintro e wc ⟨rfl,hb⟩ ac T
 replace M:=M.call hb;clear hb
 refine lq T (Zra Z (T.e 0 Z)) ?_;intro ac T
 refine wpList_nil ?_
 refine nqR_n M ?_;clear M;intro wc M
 replace SA:=SA.pt
 replace SD:=SD.pt
 replace SE:=SE.pt
 replace T:=T.pick [0,3,4] rfl
 refine nm_then ?_
 refine wpB_seq hP ?_
 refine b_lone hP w fun T9=>?_
 replace M:=M.tp T9 0 0
 replace SA:=SA.tp T9 0
 replace SD:=SD.tp T9 0
 replace SE:=SE.tp T9 0
 refine wp_region_lit ?_
 refine Zg2 T (Zq (Zrm Z (T.e 0 Z))) Z (fun _ T=>Zq (rn_neq Z (T.e 0 Z) evc)) Z ?_;intro ac T
 refine wpList_nil ?_
 refine nqR_n M ?_;clear M;intro wc M
 replace SA:=SA.pt
 replace SD:=SD.pt
 replace SE:=SE.pt
 replace T:=T.pick [0,2,3,4] rfl
 refine nm_then ?_
 refine wB_ifn hP (T.e 0 Z) ?_ ?_
 ·intro h1
  refine wpB_seq hP ?_
  refine b_lone hP w fun T9=>?_
  replace M:=M.tp T9 0 0
  replace SA:=SA.tp T9 0
  replace SD:=SD.tp T9 0
  replace SE:=SE.tp T9 0
  refine wp_region_lit ?_
  refine Zg3 T (Zq (Zrm Z (T.e 1 Z))) Z (Zc Z) Z (Za 1 Z Z) Z ?_;intro ac T
  refine wpList_nil ?_
  refine nqR_n M ?_;clear M;intro wc M
  replace SA:=SA.pt
  replace SD:=SD.pt
  replace SE:=SE.pt
  replace T:=T.pick [0,1] rfl
  replace M:=M.mask [false] rfl
  refine nm_then ?_
  refine wpB_ret hP ?_
  refine Zrt ?_
  refine rt_2 T Z (T.e 1 Z) (T.e 0 Z) ?_
  refine ⟨none,0,[],by rw [show knownL b el=[] by unfold knownL;simp_all];exact congrArg Ending.returned (by unfold knownE;simp_all),.inl ⟨rfl,by rw [show knownL b el=[] by unfold knownL;simp_all];rfl,by rw [show knownL b el=[] by unfold knownL;simp_all];rfl,Z,Z⟩,M.mask [] Z⟩
 intro h1
 refine wpB_skip hP ?_
 refine nm_then ?_
 refine wpB_seq hP ?_
 refine wpB_seq hP ?_
 refine b_lone hP w fun T9=>?_
 replace M:=M.tp T9 0 0
 replace SA:=SA.tp T9 0
 replace SD:=SD.tp T9 0
 replace SE:=SE.tp T9 0
 refine wp_region_lit ?_
 refine Zg3 T (Zq (Zrm Z (T.e 3 Z))) Z (Zl Try.underlying137 0 Z Z) Z (fun _ T=>Zq (Zrm Z evc)) Z ?_;intro ac T
 refine wpList_nil ?_
 refine nqR_n M ?_;clear M;intro wc M
 replace SA:=SA.pt
 replace SD:=SD.pt
 replace SE:=SE.pt
 replace T:=T.pick [0,1,2,5] rfl
 refine nm_then ?_
 refine wpB_block hP ?_
 refine wpB_loop_n hP (fun mz ac wc=>∃ (k:Nat),mz=el.length - k∧(k≤el.length)∧(firstE el=firstE (el.drop k))∧Tm ac 39 [(2,Zj g1),(16,.slice E el.length ce),(17,Zi ((el.length:Nat):Int)),(18,Zi (k:Int))]∧Mem w noEx wc [(g1,.cells [Zi b.full,Zi b.a0,Zi b.a1,.slice A b.cs.length c,.slice D b.ts.length d])]) ?_ ?_
 ·exact ⟨_,0,Z,(Nat.zero_le _),Z,T.pick [3,2,1,0] Z,M.mask [true] Z⟩
 clear T M
 rintro mz ac wc ⟨k,hmm1,hk,H,T,M⟩
 refine wpB_seq hP ?_
 refine b_lone hP w fun T9=>?_
 replace M:=M.tp T9 0 0
 replace SA:=SA.tp T9 0
 replace SD:=SD.tp T9 0
 replace SE:=SE.tp T9 0
 refine wp_region_lit ?_
 refine lq T (rn_lss Z (T.e 3 Z) (T.e 2 Z)) ?_;intro ac T
 refine wpList_nil ?_
 refine nqR_n M ?_;clear M;intro wc M
 replace SA:=SA.pt
 replace SD:=SD.pt
 replace SE:=SE.pt
 refine nm_then ?_
 refine wpB_seq hP ?_
 refine wB_if hP (T.e 0 Z) ?_ ?_
 ·intro h2
  obtain ⟨p,hkp,hd⟩:=ic_next (l:=el) (k:=k) (by omega)
  rw [hd,firstE] at H
  refine wpB_skip hP ?_
  refine nm_then ?_
  refine wpB_seq hP ?_
  refine wpB_block hP ?_
  refine wpB_seq hP ?_
  refine b_lone hP w fun T9=>?_
  replace M:=M.tp T9 0 0
  replace SA:=SA.tp T9 0
  replace SD:=SD.tp T9 0
  replace SE:=SE.tp T9 0
  refine wp_region_lit ?_
  refine Zg3 T (Zq (Zri (size:=1) k Z (T.e 2 Z) (T.e 4 Z) ⟨_,Try.underlying137,by kernel_rfl⟩ Z (by omega) (SE.at0 (by omega)))) Z (fun _ T=>Zq (rn_cell (Sp.ic0 SE M (Zz9 _) hkp) Z (T.e 0 Z))) Z (Za 0 Z Z) Z ?_;intro ac T
  refine wpList_nil ?_
  refine nqR_n M ?_;clear M;intro wc M
  replace SA:=SA.pt
  replace SD:=SD.pt
  replace SE:=SE.pt
  replace T:=T.pick [0,4,5,6,7] rfl
  refine nm_then ?_
  refine wpB_seq hP ?_
  refine b_lone hP w fun T9=>?_
  replace M:=M.tp T9 0 0
  replace SA:=SA.tp T9 0
  replace SD:=SD.tp T9 0
  replace SE:=SE.tp T9 0
  refine wp_region_lit ?_
  refine Zg2 T (Zq (Zrm Z (T.e 0 Z))) Z (fun _ T=>Zq (rn_neq Z (T.e 0 Z) evc)) Z ?_;intro ac T
  refine wpList_nil ?_
  refine nqR_n M ?_;clear M;intro wc M
  replace SA:=SA.pt
  replace SD:=SD.pt
  replace SE:=SE.pt
  replace T:=T.pick [0,2,3,4,5,6] rfl
  refine nm_then ?_
  refine wB_ifn hP (T.e 0 Z) ?_ ?_
  ·intro h3
   refine wpB_seq hP ?_
   refine b_lone hP w fun T9=>?_
   replace M:=M.tp T9 0 0
   replace SA:=SA.tp T9 0
   replace SD:=SD.tp T9 0
   replace SE:=SE.tp T9 0
   refine wp_region_lit ?_
   refine Zg3 T (Zq (Zrm Z (T.e 1 Z))) Z (Zc Z) Z (Za 1 Z Z) Z ?_;intro ac T
   refine wpList_nil ?_
   refine nqR_n M ?_;clear M;intro wc M
   replace SA:=SA.pt
   replace SD:=SD.pt
   replace SE:=SE.pt
   replace T:=T.pick [0,1] rfl
   replace M:=M.mask [false] rfl
   refine nm_then ?_
   refine wpB_ret hP ?_
   refine Zrb ?_
   refine Zrt ?_
   refine Zrt ?_
   refine Zrb ?_
   refine Zrt ?_
   refine rt_2 T Z (T.e 1 Z) (T.e 0 Z) ?_
   refine ⟨none,0,[],by rw [show knownL b el=[] by unfold knownL;simp_all];exact congrArg Ending.returned (by unfold knownE;simp_all),.inl ⟨rfl,by rw [show knownL b el=[] by unfold knownL;simp_all];rfl,by rw [show knownL b el=[] by unfold knownL;simp_all];rfl,Z,Z⟩,M.mask [] Z⟩
  intro h3
  refine wpB_skip hP ?_
  refine Znb ?_
  refine nm_then ?_
  refine b_lone hP w fun T9=>?_
  replace M:=M.tp T9 0 0
  replace SA:=SA.tp T9 0
  replace SD:=SD.tp T9 0
  replace SE:=SE.tp T9 0
  refine wp_region_lit ?_
  refine lq T (rn_add Z (T.e 5 Z) evc (by omega)) ?_;intro ac T
  refine l_q (v:=(Zi ((k:Int)+1))) (T.pick [0,1,2,3,4,5] Z) Z Z Z Z (Zrm Z (T.e 0 Z)) ?_;intro ac T
  refine wpList_nil ?_
  refine nqR_n M ?_;clear M;intro wc M
  replace SA:=SA.pt
  replace SD:=SD.pt
  replace SE:=SE.pt
  replace T:=T.pick [0,4,5,6] rfl
  refine nm_then ?_
  rw [if_pos (by simp_all)] at H
  exact ⟨_,by omega,k+1,Z,(by omega),H,T.pick [1,2,3,0] Z,M.mask [true] Z⟩
 intro h2
 rw [List.drop_of_length_le (by omega),firstE] at H
 refine wpB_exit hP ?_
 refine Zet ?_
 refine Zet ?_
 refine ex_hit ?_
 refine nm_then ?_
 refine wpB_seq hP ?_
 refine b_lone hP w fun T9=>?_
 replace M:=M.tp T9 0 0
 replace SA:=SA.tp T9 0
 replace SD:=SD.tp T9 0
 replace SE:=SE.tp T9 0
 refine wp_region_lit ?_
 refine lq T (Zra Z evc) ?_;intro ac T
 refine wpList_nil ?_
 refine nqR_n M ?_;clear M;intro wc M
 replace SA:=SA.pt
 replace SD:=SD.pt
 replace SE:=SE.pt
 replace T:=T.pick [0,2] rfl
 refine nm_then ?_
 have hgood:=chkB_good (b:=b) (by simp_all)
 have hval:=hgood.val nop
 refine known_mid hP (b:=b) ⟨hA,hD,hop⟩ hval M (T.pick [0,1] Z) ?_
 clear T M
 intro ac wc vq Iq hSq T M
 rw [lvc_l4 _ fun l hl=>truthsB_len hl] at hSq
 obtain ⟨Aq,cq,rfl,hCq⟩:=sl_cl hSq
 replace M:Mem w noEx wc ([]++Iq):=M
 refine wpB_seq hP ?_
 refine wpB_seq hP ?_
 refine b_lone hP w fun T9=>?_
 replace M:=M.tp T9 0 0
 replace SA:=SA.tp T9 0
 replace SD:=SD.tp T9 0
 replace SE:=SE.tp T9 0
 refine wp_region_lit ?_
 refine Zg3 T (Zq (Zrm Z (T.e 0 Z))) Z (Zl Try.underlying104 0 Z Z) Z (fun _ T=>Zq (rn_eql Z (T.e 0 Z) evc)) Z ?_;intro ac T
 refine wpList_nil ?_
 refine nqR_n M ?_;clear M;intro wc M
 replace SA:=SA.pt
 replace SD:=SD.pt
 replace SE:=SE.pt
 replace T:=T.pick [0,3] rfl
 refine nm_then ?_
 refine wB_if hP (T.e 0 Z) ?_ ?_
 ·intro h4
  refine wpB_seq hP ?_
  refine b_lone hP w fun T9=>?_
  replace M:=M.tp T9 0 0
  replace SA:=SA.tp T9 0
  replace SD:=SD.tp T9 0
  replace SE:=SE.tp T9 0
  refine wp_region_lit ?_
  refine Zg2 T (Zq (Zra Z evc)) Z (Zc Z) Z ?_;intro ac T
  refine wpList_nil ?_
  refine nqR_n M ?_;clear M;intro wc M
  replace SA:=SA.pt
  replace SD:=SD.pt
  replace SE:=SE.pt
  replace T:=T.pick [0,1] rfl
  refine nm_then ?_
  refine wpB_ret hP ?_
  refine Zrt ?_
  refine rt_2 T Z (T.e 1 Z) (T.e 0 Z) ?_
  have hkl:knownL b el=truthsL b:=by unfold knownL;simp_all
  have hke:knownE b el=9:=by unfold knownE;simp_all
  have hll:(truthsL b).length=(truthsB b).length:=by unfold truthsL;simp
  unfold KnownPost
  rw [hkl,hke,hll]
  obtain ⟨h8,h9⟩:truthsL b=[]∧(truthsB b).length=0:=⟨List.eq_nil_of_length_eq_zero (by rw [hll];omega),by omega⟩
  rw [h8,h9]
  exact ⟨none,0,[],Z,.inl ⟨rfl,Z,Z,Z,Z⟩,M.sub (Zz9 _)⟩
 intro h4
 refine wpB_skip hP ?_
 refine nm_then ?_
 refine wpB_seq hP ?_
 refine b_lone hP w fun T9=>?_
 replace M:=M.tp T9 0 0
 replace SA:=SA.tp T9 0
 replace SD:=SD.tp T9 0
 replace SE:=SE.tp T9 0
 refine wp_region_lit ?_
 refine Zg3 T (Zq (Zrm Z (T.e 1 Z))) Z (Za 0 Z Z) Z (Zc Z) Z ?_;intro ac T
 refine wpList_nil ?_
 refine nqR_n M ?_;clear M;intro wc M
 replace SA:=SA.pt
 replace SD:=SD.pt
 replace SE:=SE.pt
 replace T:=T.pick [0,1] rfl
 refine nm_then ?_
 refine wpB_ret hP ?_
 refine rt_2 T Z (T.e 1 Z) (T.e 0 Z) ?_
 have hkl:knownL b el=truthsL b:=by unfold knownL;simp_all
 have hke:knownE b el=0:=by unfold knownE;simp_all
 have hll:(truthsL b).length=(truthsB b).length:=by unfold truthsL;simp
 unfold KnownPost
 rw [hkl,hke,hll]
 exact ⟨Aq,cq,Iq,Z,hCq,M⟩
end
section
open Go.RowKit
open Go.Maps (Keyed)
section
variable {P:Program} {k:TypeId} {ok:Value→Value→Prop} {w w':World} {b:Nat}
end
section
variable {P:Program} {ops:Array Oper} {rest:List Oper} {op:Oper} {a:Act} {Q:Exit→Act→World→Prop} {w0 w:World} {ex:Nat→Prop} {L L':List (Nat×BA)} {k e t:TypeId} {ok:Value→Value→Prop}
end
theorem Try.zeroBool (w:World):(zeroValue 4).run Try.prog w=.ok (.bool false) w:=by kernel_rfl
end
section
open Go.RowKit
open Go.Maps (Keyed)
section
variable {P:Program} {k:TypeId} {n:Nat} {S:Int×Int→Prop} {es:Array MapEntry} {clock:Nat}
end
section
variable {P:Program} {ops:Array Oper} {rest:List Oper} {op:Oper} {a:Act} {Q:Exit→Act→World→Prop} {df:List Deferred} {w0 w:World} {ex:Nat→Prop} {L L':List (Nat×BA)} {k e ty:TypeId} {n nn t:Nat} {E:List (Nat×Value)} {K:Act→World→Prop}
end
end
section
open Go.RowKit Go.Shelf
section
variable {P:Program} {ops:Array Oper} {Q:Exit→Act→World→Prop} {S:Array Bool→World→Prop} {nn:Nat}
end
section
variable {df:List Deferred} {P:Program} {ops:Array Oper} {rest:List Oper} {op oi:Oper} {a:Act} {Q:Exit→Act→World→Prop} {w0 w:World} {ex:Nat→Prop} {L:List (Nat×BA)} {K:Act→World→Prop} {n t i fuel nn:Nat} {E:List (Nat×Value)} {v:Value} {S:Array Bool→World→Prop} {l l':Array Bool}
theorem opW (hd:∀ c,op.op≠.defer c) (h:op.wp P a w K Q):op.wpIn Fence.wide nn P a w K Q:=by
 refine ⟨fun _ _=>trivial,?_⟩
 rw [show Fence.wide.round=none from rfl,Oper.semAt_none]
 unfold Oper.wp at h
 cases hr:(execOp a.eval op).run P w with
 | ok nx w' =>
  rw [hr] at h
  cases nx with
  | value v=>exact h
  | skip=>exact h
  | defer d=>exact h
  | enter f args=>exact ⟨fun h9=>by simp [Fence.wide] at h9,callsIn_wide.2 h⟩
  | row r args=>exact ⟨fun h9=>by simp [Fence.wide] at h9,fun c cs _=>let ⟨v,w2,r2,s2⟩:=h c cs;⟨v,w2,r2,stepsIn_wide.2 s2⟩⟩
  | _=>exact h.elim
 | halt hh w' =>
  rw [hr] at h
  cases hh with
  | panic v=>exact h
  | _=>exact h.elim
theorem ow_yield {x:Operand} {xs:List Operand} {ts:Array TypeId} {lr:Nat} {vs:List Value} {R:Ending→World→Prop} (T:TmD df a n E) (ho:op.op=.call { callee:=.value x,args:=xs.toArray,argTypes:=ts }) (hd:op.dst=some t) (hf:freshE E t=true) (hn:Nat.blt t n=true)
  (hx:a.eval x=.func (.yield lr) #[] #[]) (hv:EvL a xs vs) (hY:YieldAt Fence.wide 6 P lr vs.toArray w R) (h:∀ e w',R e w'→∃ v,e=.returned v∧∀ a',TmD df a' n ((t,v)::E)→K a' w'):op.wpIn Fence.wide 7 P a w K Q:=by
 obtain ⟨fn,tmps,assign,body,hy,hR⟩:=hY
 have hrun:(execOp a.eval op).run P w=.ok (.round lr fn tmps assign body) w:=by
  unfold execOp
  simp [ho,resolve,invoke,Deferred.ofValue,hx,hv.map,Sem.run_bind]
  exact hy
 refine ⟨fun _ _=>trivial,?_⟩
 rw [show Fence.wide.round=none from rfl,Oper.semAt_none,hrun]
 refine ⟨fun h9=>by simp [Fence.wide] at h9,hR.mono fun e w' hr=>?_⟩
 obtain ⟨v,rfl,h2⟩:=h e w' hr
 exact (hd ▸ h2 _ (T.put hn hf v):K (a.put op.dst v) w')
def MT:Array Bool→World→Prop:=fun _ _=>True
theorem si_T:∀ (B:Array Bool) W,MT (B.setIfInBounds i true) W↔MT B W:=fun _ _=>Iff.rfl
theorem fr_lit {id:Nat} {os:List Oper} (h:wpListIn Fence.wide 7 P os.toArray Q os a w):(Code.region id os.toArray false).wp P Q a w:=(wpIn_wide (n:=7)).1 (wpIn_region_lit h)
theorem fl_q (T:TmD df a n E) (hw:Region.wanted op (yielded ops a.tmps)=true) (hd:op.dst=some t) (hf:freshE E t=true) (hn:Nat.blt t n=true) (hr:Runs P op a v w)
  (h:∀ a',TmD df a' n ((t,v)::E)→wpListIn Fence.wide nn P ops Q rest a' w):wpListIn Fence.wide nn P ops Q (op::rest) a w :=
 wpListIn_step fun K hK=>by
  rw [if_pos hw]
  refine ⟨fun _ _=>trivial,?_⟩
  unfold Runs at hr
  rw [show Fence.wide.round=none from rfl,Oper.semAt_none,hr,Oper.uponIn_value,hd]
  exact hK _ _ (h _ (T.put hn hf v))
theorem fl_w (hw:Region.wanted op (yielded ops a.tmps)=true) (h:∀ K:Act→World→Prop,Shut (∀ a w,wpListIn Fence.wide nn P ops Q rest a w→K a w)→op.wp P a w K Q) (hd:∀ c,op.op≠.defer c:=by intro c h9;cases h9):wpListIn Fence.wide nn P ops Q (op::rest) a w :=
 wpListIn_step fun K hK=>by rw [if_pos hw];exact opW hd (h K hK)
theorem fl_y (hw:Region.wanted op (yielded ops a.tmps)=true) (h:∀ K:Act→World→Prop,Shut (∀ a w,wpListIn Fence.wide nn P ops Q rest a w→K a w)→op.wpIn Fence.wide nn P a w K Q):wpListIn Fence.wide nn P ops Q (op::rest) a w :=
 wpListIn_step fun K hK=>by rw [if_pos hw];exact h K hK
theorem fl_pass (T:TmD df a n E) (hw:Region.wanted op (yielded ops a.tmps)=false) (hd:op.dst=some t) (hf:freshE E t=true) (hn:Nat.blt t n=true) (h:∀ a',TmD df a' n ((t,undef)::E)→wpListIn Fence.wide nn P ops Q rest a' w):wpListIn Fence.wide nn P ops Q (op::rest) a w :=
 wpListIn_step fun K hK=>by
  rw [if_neg (by rw [hw];simp),hd]
  exact ⟨fun _ _=>trivial,hK _ _ (h _ (T.put hn hf _))⟩
theorem fl_nil (h:Q .normal a w):wpListIn Fence.wide nn P ops Q [] a w:=h
end
end
section
open Go.RowKit Go.Shelf
theorem cell_isC {W:World} {a:Addr} {v:Value} (h:W.cell? a=some v):∃ o:Obj,W.heap[a.block]? = some o∧o.isCells=true:=by
 unfold World.cell? at h
 cases ho:W.heap[a.block]? with
 | none=>simp [ho] at h
 | some o=>exact ⟨o,rfl,by cases o <;> simp_all [Obj.isCells]⟩
section
variable {P:Program} {df:List Deferred} {a:Act} {w0 w:World} {ex:Nat→Prop} {n:Nat} {E:List (Nat×Value)}
end
end
section
open Go.RowKit Go.Shelf
def KpB (l:Nat) (eb:Nat→Prop) (W W':World):Prop:=Mem W (fun b=>b=l∨eb b) W' []
theorem KpB.mem {l:Nat} {eb ex:Nat→Prop} {w0 W W':World} {L:List (Nat×BA)} (h:KpB l eb W W') (M:Mem w0 ex W L) (hl:∀ p∈L,p.1≠l∧¬ eb p.1) (hx:∀ b,b=l∨eb b→ex b∨w0.heap.size≤b):Mem w0 ex W' L :=
 ⟨h.os.trans M.os,h.tape.trans M.tape,h.output.trans M.output,Nat.le_trans M.size h.size,
  fun b hb he=>(h.block b (Nat.lt_of_lt_of_le hb M.size) (fun hh=>by rcases hx b hh with h | h;exact he h;omega)).trans (M.block b hb he),
  fun p hp=>⟨(M.blk p hp).1,BA.same (M.blk p hp).2 h.size (h.block _ (BA.lt (M.blk p hp).2) (fun hh=>by obtain ⟨h1,h2⟩:=hl p hp;rcases hh with h | h;exact h1 h;exact h2 h))⟩,M.nd⟩
def KpN (B:Nat) (W W':World):Prop:=W'.os=W.os∧W'.tape=W.tape∧W'.output=W.output∧W.heap.size≤W'.heap.size∧∀ b o,W.heap[b]? = some o→(b < B∨o.isCells=true)→W'.heap[b]? = some o
theorem KpN.of_below {B:Nat} {W W':World} (h:Below W.heap.size W W'):KpN B W W':=⟨h.os,h.tape,h.output,h.size,fun b o ho _=>(h.block b (Array.getElem?_eq_some_iff.1 ho).1).trans ho⟩
theorem KpN.put {B l:Nat} {W:World} {o:Obj} (hl:B≤l) (h:W.heap[l]? = some o) (hc:o.isCells=false) (o':Obj):KpN B W (W.putObj l o') :=
 ⟨rfl,rfl,rfl,by simp,fun b o1 ho1 hc1=>(World.putObj_heap_other (fun e=>by
  subst e
  rw [h] at ho1
  injection ho1 with ho1
  subst ho1
  rcases hc1 with h1 | h1
  ·omega
  ·rw [hc] at h1;cases h1)).trans ho1⟩
theorem KpN.t {B:Nat} {X Y Z:World} (h:KpN B X Y) (k:KpN B Y Z):KpN B X Z :=
 ⟨k.1.trans h.1,k.2.1.trans h.2.1,k.2.2.1.trans h.2.2.1,Nat.le_trans h.2.2.2.1 k.2.2.2.1,fun b o ho hc=>k.2.2.2.2 b o (h.2.2.2.2 b o ho hc) hc⟩
theorem KpN.mono {B B':Nat} {W W':World} (h:KpN B W W') (hB:B'≤B):KpN B' W W' :=
 ⟨h.1,h.2.1,h.2.2.1,h.2.2.2.1,fun b o ho hc=>h.2.2.2.2 b o ho (hc.imp (fun h=>Nat.lt_of_lt_of_le h hB) id)⟩
theorem KpN.cell {B:Nat} {W W':World} (h:KpN B W W') {a:Addr} {v:Value} (hc:W.cell? a=some v):W'.cell? a=some v:=by
 obtain ⟨ob,h1,h2⟩:=cell_isC hc
 rw [World.cell?_of_block (w:=W) (a:=a) ((h.2.2.2.2 a.block ob h1 (.inr h2)).trans h1.symm)]
 exact hc
theorem KpN.bk {B:Nat} {W W':World} (h:KpN B W W') {g:Nat} {c:Value} {cs:List Value} (hB:Bk W g (c::cs).toArray):Bk W' g (c::cs).toArray:=by
 have hc:=hB.cell 0
 obtain ⟨ob,h1,h2⟩:=cell_isC (a:=⟨g,0,none⟩) (v:=c) (by simpa using hc)
 have e:=(h.2.2.2.2 g ob h1 (.inr h2)).trans h1.symm
 exact ⟨Nat.lt_of_lt_of_le hB.lt h.2.2.2.1,fun o=>(World.cell?_of_block (w:=W) (a:=⟨g,o,none⟩) e).trans (hB.cell o),fun o=>(World.frozen?_of_block (w:=W) (a:=⟨g,o,none⟩) e).trans (hB.frozen o)⟩
theorem KpN.rd {B n size k:Nat} {W W':World} {A:Option Addr} {xs:List Value} (h:KpN B W W') (hr:Rd W n size A k xs):Rd W' n size A k xs :=
 ⟨hr.1,fun hn=>by
  obtain ⟨b,o,h1,h2,h3⟩:=hr.2 hn
  exact ⟨b,o,h1,h2,fun j u hu=>h.cell (h3 j u hu)⟩⟩
theorem KpN.rdS {B size k:Nat} {W W':World} {A:Option Addr} {xs:List Value} (h:KpN B W W') (hr:Rd W W.heap.size size A k xs):Rd W' W'.heap.size size A k xs:=(h.rd hr).more h.2.2.2.1
theorem Mem.kpN {B:Nat} {w0 W W':World} {ex:Nat→Prop} {L:List (Nat×BA)} (M:Mem w0 ex W L) (h:KpN B W W') (hw:w0.heap.size≤B) (hL:farOk B L):Mem w0 ex W' L:=by
 have same:∀ b o,W.heap[b]? = some o→(b < B∨o.isCells=true)→W'.heap[b]? = W.heap[b]?:=fun b o ho hc=>(h.2.2.2.2 b o ho hc).trans ho.symm
 refine ⟨h.1.trans M.os,h.2.1.trans M.tape,h.2.2.1.trans M.output,Nat.le_trans M.size h.2.2.2.1,fun b hb he=>?_,fun p hp=>⟨(M.blk p hp).1,?_⟩,M.nd⟩
 ·have hlt:b < W.heap.size:=Nat.lt_of_lt_of_le hb M.size
  exact (same b _ (Array.getElem?_eq_getElem hlt) (.inl (by omega))).trans (M.block b hb he)
 ·have hp2:=(M.blk p hp).2
  have hlt:=BA.lt hp2
  have ho:W.heap[p.1]? = some W.heap[p.1]:=Array.getElem?_eq_getElem hlt
  exact BA.same hp2 h.2.2.2.1 (same _ _ ho ((hL p hp).imp id fun hc=>BA.isC_cells hp2 hc ho))
def Calm {β:Type} (B:Nat) (J:β→World→Prop):Prop:=∀ s W W',J s W→KpN B W W'→J s W'
def SeqB {α:Type} (P:Program) (gf:Nat) (lb:Array Value) (encs:α→Array Value) (eb:Nat→Prop) (Ox:α→World→Prop) (S Sp:List α→Prop) (w:World):Prop :=
 ∀ (l:Nat) (J Jx:List α→World→Prop) (W:World),Below w.heap.size w W→w.heap.size≤l→l < W.heap.size→Calm W.heap.size J→Calm W.heap.size Jx →
  (∀ pre x W1,J pre W1→Ox x W1→YieldAt Fence.wide 6 P l (encs x) W1 fun e W' =>
   (e=.returned (.bool true)∧J (pre++[x]) W'∧KpB l eb W1 W')∨(e=.returned (.bool false)∧Jx (pre++[x]) W'∧KpB l eb W1 W')) →
  J [] W →
  Calls P gf (#[.func (.yield l) #[] #[]]++lb) W fun e W'=>(∃ v,e=.returned v)∧((∃ xs,S xs∧J xs W')∨(∃ pre,Sp pre∧Jx pre W'))
def rPostB {α:Type} (W:World) (exb:Nat→Prop) (J:List α→List (Nat×BA)→World→Prop) (Jx:Code→List α→List (Nat×BA)→World→Prop) (xs:List α):Exit→Act→World→Prop
 | .normal,_,W'=>∃ L,J xs L W'∧Mem W exb W' L
 | .ret,_,W'=>∃ L,Jx .ret xs L W'∧Mem W exb W' L
 | .exit id,_,W'=>∃ L,Jx (.exit id) xs L W'∧Mem W exb W' L
 | _,_,_=>False
section
variable {α:Type} {W:World} {exb:Nat→Prop} {J:List α→List (Nat×BA)→World→Prop} {Jx:Code→List α→List (Nat×BA)→World→Prop} {xs:List α} {a:Act} {w:World} {L:List (Nat×BA)}
theorem rb_nm (h:J xs L w) (M:Mem W exb w L):rPostB W exb J Jx xs .normal a w:=⟨L,h,M⟩
theorem rb_ret (h:Jx .ret xs L w) (M:Mem W exb w L):rPostB W exb J Jx xs .ret a w:=⟨L,h,M⟩
end
theorem Mem.backE {w0 w:World} {ex eb:Nat→Prop} {L L':List (Nat×BA)} {w':World} (M:Mem w0 ex w L) (M':Mem w eb w' L') (he:∀ b,eb b→ex b∨w0.heap.size≤b):Mem w0 ex w' L' :=
 ⟨M'.os.trans M.os,M'.tape.trans M.tape,M'.output.trans M.output,Nat.le_trans M.size M'.size,
  fun b hb hx=>(M'.block b (Nat.lt_of_lt_of_le hb M.size) (fun h=>by rcases he b h with h | h;exact hx h;omega)).trans (M.block b hb hx),
  fun p hp=>⟨by
   rcases (M'.blk p hp).1 with h | h
   ·exact .inl (Nat.le_trans M.size h)
   ·exact (he _ h).symm,(M'.blk p hp).2⟩,M'.nd⟩
section
variable {P:Program} {df:List Deferred} {a:Act} {w0 w:World} {ex:Nat→Prop} {n:Nat} {E:List (Nat×Value)}
theorem px_rangeB {α γ:Type} {g:Operand} {ps:Array Tmp} {assign body:Code} {Q:Exit→Act→World→Prop} (T:TmD df a n E)
  {gf:Nat} {lb:Array Value} (hg:a.eval g=.func (.func gf) #[] lb) (eg:∀ args w,(callFunc gf args).run P w=.ok (.enter gf args) w)
  {encs:α→Array Value} {Ox:α→World→Prop} {S Sp:List α→Prop} (eb:Nat→Prop) (hseq:SeqB P gf lb encs eb Ox S Sp w) (hps:∀ x,(encs x).size=ps.size)
  (J:List α→List (Nat×BA)→World→Prop) (Jx:Code→List α→List (Nat×BA)→World→Prop)
  (EP:α→List (Nat×Value)) (EA:α→γ→List (Nat×Value)) (LB:α→γ→List (Nat×BA))
  (hf:∀ pre L W,J pre L W→∀ p∈L,p.1 < w.heap.size) (hfx:∀ c pre L W,Jx c pre L W→∀ p∈L,p.1 < w.heap.size)
  (heb:∀ pre L W,J pre L W→∀ p∈L,eb p.1)
  (hebl:∀ b,eb b→b < w.heap.size) (hebx:∀ b,eb b→ex b∨w0.heap.size≤b) (hOx:Calm w.heap.size Ox)
  (hJ:∀ pre L W W',J pre L W→KpN w.heap.size W W'→J pre L W') (hJx:∀ c pre L W W',Jx c pre L W→KpN w.heap.size W W'→Jx c pre L W')
  {L0:List (Nat×BA)} (M:Mem w0 ex w L0) (hJ0:J [] L0 w)
  (hEP:∀ x,TmD [] { tmps:=(ps.zip (encs x)).foldl (fun t (p,v)=>t.setIfInBounds p v) a.tmps,defers:=[] } n (EP x))
  (hLB:∀ x c,∀ p∈LB x c,p.2.isC=true)
  (hass:∀ (l:Nat) (x:α) (W:World) (K:Act→World→Prop) (a1:Act),TmD [] a1 n (EP x)→(∀ c a' W',TmD [] a' n (EA x c)→Mem W noEx W' (LB x c)→K a' W')→assign.wpIn (FW l) 6 P (Exit.then K (fun _ _ _=>False)) a1 W)
  (hbody:∀ (l:Nat) (pre:List α) (x:α) (c:γ) (L:List (Nat×BA)) (a':Act) (W:World),J pre L W→Ox x W→w.heap.size≤W.heap.size→w.heap.size≤l →
   Mem w0 ex W (LB x c++L)→(∀ p∈LB x c,¬ eb p.1)→∀ (exb:Nat→Prop) (Wc:World),exb=eb→Wc=W→TmD [] a' n (EA x c)→Mem W exb Wc L→body.wpIn (FW l) 6 P (rPostB W exb J Jx (pre++[x])) a' Wc)
  (hdone:∀ (D:Nat) (xs:List α) (L:List (Nat×BA)) (a':Act) (W:World),w.heap.size≤D→S xs→J xs L W→w.heap.size≤W.heap.size→TmD (dfD D::df) a' n E→Mem w0 ex W ((D,dfA)::L)→Q .normal a' W)
  (hstop:∀ (D:Nat) (c:Code) (pre:List α) (L:List (Nat×BA)) (a':Act) (W:World),w.heap.size≤D→Sp pre→Jx c pre L W→w.heap.size≤W.heap.size→TmD (dfD D::df) a' n E→Mem w0 ex W ((D,dfA)::L)→c.wp P Q a' W) :
  (Code.rangeFunc g ps assign body).wp P Q a w:=by
 have hz0:=M.size
 refine (wpIn_wide (n:=8)).1 (wpIn_rangeFunc ?_)
 intro fn hfn
 obtain ⟨rc,hrc⟩:∃ rc:LoopState→Option Code→Loop,rc=fun st pe=>{ state:=st,pending:=pe,fn,tmps:=a.tmps,params:=ps,assign,body,defers:=w.heap.size }:=⟨_,rfl⟩
 obtain ⟨W1,hW1⟩:∃ W1,(w.alloc (.deferred (some []))).alloc (.loop (rc .ready none))=W1:=⟨_,rfl⟩
 have hb1:Below w.heap.size w W1:=by
  rw [← hW1]
  exact (((Below.refl _ w).alloc (Nat.le_refl _) _).alloc (by simp) _)
 have hs1:W1.heap.size=w.heap.size+2:=by rw [← hW1];simp
 have hL1:W1.heap[w.heap.size+1]? = some (.loop (rc .ready none)):=by
  rw [← hW1]
  have:=World.alloc_heap_new (w.alloc (.deferred (some []))) (.loop (rc .ready none))
  rwa [World.size_alloc] at this
 have hK1:W1.heap[w.heap.size]? = some (.deferred (some [])):=by
  rw [← hW1]
  exact (Below.heap_alloc _ _ _ (by simp)).trans (World.alloc_heap_new w _)
 have put:∀ {W:World} {o:Obj} (o':Obj),W.heap[w.heap.size+1]? = some o→o.isCells=false→KpN w.heap.size W (W.putObj (w.heap.size+1) o'):=fun o' h hc=>KpN.put (by omega) h hc o'
 have otherD:∀ {W:World} (o':Obj),(W.putObj (w.heap.size+1) o').heap[w.heap.size]? = W.heap[w.heap.size]?:=fun o'=>World.putObj_heap_other (by omega)
 refine ⟨w.heap.size+1,[{ target:=.collected w.heap.size,args:=#[] }],W1,{ target:=.fn (.func gf) lb,args:=#[.func (.yield (w.heap.size+1)) #[] #[]] },W1,gf,
  #[.func (.yield (w.heap.size+1)) #[] #[]]++lb,W1,?_,?_,?_,?_,fun _=>by omega,?_⟩
 ·rw [← hW1,hrc];exact run_enterLoop_outer _ _ _ _ _
 ·simp only [resolve,hg]
  simp [go_sem]
 ·intro f' hf';simp [Target.leads] at hf';subst hf';trivial
 ·simp [invoke,go_sem,eg]
 ·refine callsIn_wide.2 (Calls.mono (hseq (w.heap.size+1)
   (fun pre W=>∃ L,J pre L W∧Mem w0 ex W L∧w.heap.size≤W.heap.size∧W.heap[w.heap.size+1]? = some (.loop (rc .ready none))∧W.heap[w.heap.size]? = some (.deferred (some [])))
   (fun pre W=>∃ c L,Jx c pre L W∧Mem w0 ex W L∧w.heap.size≤W.heap.size∧W.heap[w.heap.size+1]? = some (.loop (rc .done (some c)))∧W.heap[w.heap.size]? = some (.deferred (some [])))
   W1 hb1 (by omega) (by omega) ?_ ?_ ?_ ⟨L0,hJ _ _ _ _ hJ0 (.of_below hb1),M.call hb1,hb1.size,hL1,hK1⟩) ?_)
  ·rintro pre W W' ⟨L,hj,M1,hz,hl,hk⟩ hK
   have hK2:=hK.mono (B':=w.heap.size) (by omega)
   exact ⟨L,hJ _ _ _ _ hj hK2,M1.kpN hK2 hz0 (fun p hp=>.inl (hf _ _ _ hj p hp)),Nat.le_trans hz hK.2.2.2.1,hK.2.2.2.2 _ _ hl (.inl (by omega)),hK.2.2.2.2 _ _ hk (.inl (by omega))⟩
  ·rintro pre W W' ⟨c,L,hj,M1,hz,hl,hk⟩ hK
   have hK2:=hK.mono (B':=w.heap.size) (by omega)
   exact ⟨c,L,hJx _ _ _ _ _ hj hK2,M1.kpN hK2 hz0 (fun p hp=>.inl (hfx _ _ _ _ hj p hp)),Nat.le_trans hz hK.2.2.2.1,hK.2.2.2.2 _ _ hl (.inl (by omega)),hK.2.2.2.2 _ _ hk (.inl (by omega))⟩
  ·-- one round
   rintro pre x W ⟨L,hj,M1,hz,hl,hk⟩ hox
   have hy:=run_yield (P:=P) (args:=encs x) hl (by rw [hrc];exact hps x)
   rw [hrc] at hy
   refine ⟨fn,_,assign,body,hy,roundIn_of_wpIn hfn (hass _ x W _ _ (hEP x) ?_)⟩
   clear hy
   intro c a' Wa T' N1
   have hba:=N1.below
   have hla:Wa.heap[w.heap.size+1]? = some (.loop (rc .ready none)):=(hba.block _ (Array.getElem?_eq_some_iff.1 hl).1).trans hl
   have hka:Wa.heap[w.heap.size]? = some (.deferred (some [])):=(hba.block _ (Array.getElem?_eq_some_iff.1 hk).1).trans hk
   have hlta:=(Array.getElem?_eq_some_iff.1 hla).1
   obtain ⟨bz,hbz⟩:∃ bz:Obj,bz=.loop { rc .ready none with state:=.busy }:=⟨_,rfl⟩
   have hbzc:bz.isCells=false:=by rw [hbz];rfl
   obtain ⟨Wb,hWb⟩:∃ Wb,Wb=Wa.putObj (w.heap.size+1) bz:=⟨_,rfl⟩
   have hsb:Wb.heap.size=Wa.heap.size:=by rw [hWb];simp
   have hkp:KpN w.heap.size W Wb:=by rw [hWb];exact (KpN.of_below hba).t (put _ hla rfl)
   have hlb:Wb.heap[w.heap.size+1]? = some bz:=by rw [hWb];exact World.putObj_heap_same hlta
   have hkb:Wb.heap[w.heap.size]? = some (.deferred (some [])):=by rw [hWb];exact (otherD _).trans hka
   refine ⟨Wb,by rw [hWb,hbz];exact run_beginRound hla (by rw [hrc]),?_⟩
   have hjb:=hJ _ _ _ _ hj hkp
   have hoxb:=hOx _ _ _ hox hkp
   have hfr:∀ p∈LB x c,W.heap.size≤p.1:=fun p hp=>by
    rcases (N1.blk p hp).1 with h | h
    ·exact h
    ·exact h.elim
   have M3:Mem w0 ex Wb (LB x c++L):=by
    rw [hWb]
    refine (M1.join N1).kpN (put _ hla Z) hz0 fun p hp=>?_
    rcases List.mem_append.1 hp with h | h
    ·exact .inr (hLB _ _ p h)
    ·exact .inl (hf _ _ _ hj p h)
   have M3L:Mem w0 ex Wb L:=M3.sub (Zsq _ _)
   have hnl:∀ p∈LB x c,¬ eb p.1:=fun p hp he=>by
    have:=hfr p hp
    have:=hebl _ he
    omega
   have M5:Mem Wb eb Wb L:=⟨rfl,rfl,rfl,Nat.le_refl _,fun _ _ _=>rfl,fun p hp=>⟨.inr (heb _ _ _ hj p hp),(M3L.blk p hp).2⟩,M3L.nd⟩
   have hne : ¬ eb (w.heap.size+1):=fun he=>by have:=hebl _ he;omega
   have hnd : ¬ eb w.heap.size:=fun he=>by have:=hebl _ he;omega
   have hzb:w.heap.size≤Wb.heap.size:=by rw [hsb];exact Nat.le_trans hz hba.size
   -- what holds behind the round
   have fin:∀ (jump:Option Code) (L2:List (Nat×BA)) (W3:World),Mem Wb eb W3 L2 →
     (Instr.endRound (w.heap.size+1) jump).run P W3=.ok (.bool jump.isNone) (W3.putObj (w.heap.size+1) (.loop (rc (if jump.isNone then .ready else .done) jump))) ∧
     W3.heap[w.heap.size+1]? = some bz∧KpB (w.heap.size+1) eb W (W3.putObj (w.heap.size+1) (.loop (rc (if jump.isNone then .ready else .done) jump))) ∧
     w.heap.size≤(W3.putObj (w.heap.size+1) (.loop (rc (if jump.isNone then .ready else .done) jump))).heap.size ∧
     (W3.putObj (w.heap.size+1) (.loop (rc (if jump.isNone then .ready else .done) jump))).heap[w.heap.size+1]? = some (.loop (rc (if jump.isNone then .ready else .done) jump)) ∧
     (W3.putObj (w.heap.size+1) (.loop (rc (if jump.isNone then .ready else .done) jump))).heap[w.heap.size]? = some (.deferred (some [])):=fun jump L2 W3 M4=>by
    have hl3:=(M4.block _ (Array.getElem?_eq_some_iff.1 hlb).1 hne).trans hlb
    have hk3:=(M4.block _ (Array.getElem?_eq_some_iff.1 hkb).1 hnd).trans hkb
    have hr:=run_endRound (P:=P) jump (by rw [hbz] at hl3;exact hl3)
    rw [hrc] at hr ⊢
    refine ⟨hr,hl3,⟨?_,?_,?_,?_,fun b hb he=>?_,fun p hp=>(by cases hp),by simp⟩,?_,World.putObj_heap_same (Array.getElem?_eq_some_iff.1 hl3).1,(otherD _).trans hk3⟩
    ·exact M4.os.trans (by rw [hWb];exact hba.os)
    ·exact M4.tape.trans (by rw [hWb];exact hba.tape)
    ·exact M4.output.trans (by rw [hWb];exact hba.output)
    ·have h1:=M4.size
     have h2:=hba.size
     simp only [World.putObj_size]
     omega
    ·have h1:=hba.size
     have hbl:b≠w.heap.size+1:=fun e=>he (.inl e)
     rw [World.putObj_heap_other hbl,M4.block b (by omega) (fun h=>he (.inr h)),hWb,World.putObj_heap_other hbl]
     exact hba.block b hb
    ·have h1:=M4.size
     simp only [World.putObj_size]
     omega
   refine wpIn_mono (hbody _ pre x c L a' Wb hjb hoxb hzb (by omega) M3 hnl eb Wb Z Z T' M5) ?_
   rintro e a3 W3 hp
   cases e with
   | normal =>
    obtain ⟨L2,hj3,M4⟩:=hp
    obtain ⟨hr,hl3,hkb3,hz3,hl4,hk4⟩:=fin none L2 W3 M4
    exact ⟨_,_,hr,.inl ⟨rfl,⟨L2,hJ _ _ _ _ hj3 (put _ hl3 hbzc),(M3L.backE M4 hebx).kpN (put _ hl3 hbzc) hz0 (fun p hp=>.inl (hf _ _ _ hj3 p hp)),hz3,hl4,hk4⟩,hkb3⟩⟩
   | ret =>
    obtain ⟨L2,hj3,M4⟩:=hp
    obtain ⟨hr,hl3,hkb3,hz3,hl4,hk4⟩:=fin (some .ret) L2 W3 M4
    exact ⟨_,_,hr,.inr ⟨rfl,⟨.ret,L2,hJx _ _ _ _ _ hj3 (put _ hl3 hbzc),(M3L.backE M4 hebx).kpN (put _ hl3 hbzc) hz0 (fun p hp=>.inl (hfx _ _ _ _ hj3 p hp)),hz3,hl4,hk4⟩,hkb3⟩⟩
   | exit id =>
    obtain ⟨L2,hj3,M4⟩:=hp
    obtain ⟨hr,hl3,hkb3,hz3,hl4,hk4⟩:=fin (some (.exit id)) L2 W3 M4
    exact ⟨_,_,hr,.inr ⟨rfl,⟨.exit id,L2,hJx _ _ _ _ _ hj3 (put _ hl3 hbzc),(M3L.backE M4 hebx).kpN (put _ hl3 hbzc) hz0 (fun p hp=>.inl (hfx _ _ _ _ hj3 p hp)),hz3,hl4,hk4⟩,hkb3⟩⟩
   | _=>exact hp.elim
  ·-- behind the iterator
   have addD:∀ {W:World} {L:List (Nat×BA)},W.heap[w.heap.size]? = some (.deferred (some []))→(∀ p∈L,p.1 < w.heap.size)→Mem w0 ex W L→Mem w0 ex W ((w.heap.size,dfA)::L):=fun {W L} hk hL M =>
    M.add hz0 ⟨_,hk,rfl⟩ (fun q hq e=>by have:=hL q hq;omega)
   rintro e W2 ⟨⟨v,rfl⟩,(⟨xs,hS,L,hj,M1,hz,hl,hk⟩ | ⟨pre,hSp,c,L,hj,M1,hz,hl,hk⟩)⟩
   ·have hend:=run_endLoop (P:=P) hl (by rw [hrc];simp)
    rw [hrc] at hend
    refine ⟨none,_,hend,?_⟩
    have hkp:=put (W:=W2) (.loop { rc .ready none with state:=.done }) hl rfl
    refine hdone w.heap.size xs L _ _ (Nat.le_refl _) hS (hJ _ _ _ _ hj (put _ hl Z)) (by simpa using hz) (T.marks w.heap.size) (addD ((otherD _).trans hk) (hf _ _ _ hj) (M1.kpN (put _ hl Z) hz0 (fun p hp=>.inl (hf _ _ _ hj p hp))))
   ·have hend:=run_endLoop (P:=P) hl (by rw [hrc];simp)
    rw [hrc] at hend
    refine ⟨some c,_,hend,wpIn_wide.2 ?_⟩
    refine hstop w.heap.size c pre L _ _ (Nat.le_refl _) hSp (hJx _ _ _ _ _ hj (put _ hl Z)) (by simpa using hz) (T.marks w.heap.size) (addD ((otherD _).trans hk) (hfx _ _ _ _ hj) (M1.kpN (put _ hl Z) hz0 (fun p hp=>.inl (hfx _ _ _ _ hj p hp))))
end
end
section
open Go.RowKit Go.Shelf
section
variable {P:Program} {ops:Array Oper} {op:Oper} {a:Act} {Q:Exit→Act→World→Prop} {K:Act→World→Prop} {w0 w:World} {ex:Nat→Prop} {L:List (Nat×BA)} {l:Nat}
end
section
variable {P:Program} {a:Act} {w0 w:World} {ex:Nat→Prop} {n B m:Nat} {E:List (Nat×Value)} {L:List (Nat×BA)}
end
theorem Mem.ge {w0 w:World} {L:List (Nat×BA)} {g:Nat} {p:BA} (M:Mem w0 noEx w L) (h:(g,p)∈L):w0.heap.size≤g:=by
 rcases (M.blk _ h).1 with h | h
 · exact h
 · exact h.elim
theorem g_startT {P:Program} {ops:Array Oper} {a:Act} {Q:Exit→Act→World→Prop} {w0 w:World} {ex:Nat→Prop} {L:List (Nat×BA)} (M:Mem w0 ex w L) (m:Nat) {id:Nat} (hm:P.follows .mixedOrders=true) (hn:ops.size=m) (hz:Array.replicate m false=Zpb m 0)
  (h:∀ w',Mem w0 ex w' L→wpG P ops Q MT m (Zpb m 0) a w'):(Code.region id ops true).wp P Q a w:=g_start MT m hm hn hz trivial (h _ M.drew)
end
section
open Go.RowKit
open Go.Maps (Keyed)
def uandI (x y:Int):Int:=IntKind.u64.wrap ((BitVec.ofInt 64 x &&& BitVec.ofInt 64 y).toNat)
def uorI (x y:Int):Int:=IntKind.u64.wrap ((BitVec.ofInt 64 x ||| BitVec.ofInt 64 y).toNat)
def ushlI (x n:Int):Int:=IntKind.u64.wrap (x * 2 ^ min n.toNat 64)
def ushrI (x n:Int):Int:=x.fdiv (2 ^ min n.toNat 64)
section
variable {P:Program} {op:Oper} {a:Act} {w:World} {t t':TypeId} {x y:Operand} {p q:Int}
theorem rn_andU (ho:op.op=.binOp .and t x y t') (hx:a.eval x=.int .u64 p) (hy:a.eval y=.int .u64 q):Runs P op a (.int .u64 (uandI p q)) w:=rn_bin ho hx hy rfl
theorem rn_orU (ho:op.op=.binOp .or t x y t') (hx:a.eval x=.int .u64 p) (hy:a.eval y=.int .u64 q):Runs P op a (.int .u64 (uorI p q)) w:=rn_bin ho hx hy rfl
theorem rn_shrU {k:IntKind} (ho:op.op=.binOp .shr t x y t') (hx:a.eval x=.int .u64 p) (hy:a.eval y=.int k q) (hq:0≤q):Runs P op a (.int .u64 (ushrI p q)) w :=
 rn_bin ho hx hy (by
  show (Op.shift .shr .u64 p k q).run P w=_
  unfold Op.shift
  rw [if_neg (by omega)]
  rfl)
theorem rn_shlU {k:IntKind} (ho:op.op=.binOp .shl t x y t') (hx:a.eval x=.int .u64 p) (hy:a.eval y=.int k q) (hq:0≤q):Runs P op a (.int .u64 (ushlI p q)) w :=
 rn_bin ho hx hy (by
  show (Op.shift .shl .u64 p k q).run P w=_
  unfold Op.shift
  rw [if_neg (by omega)]
  rfl)
theorem rn_indexG {s e : TypeId} {size m : Nat} {g : Addr} {i : Int} (k : Nat) (ho : op.op = .indexAddr s x y) (hx : a.eval x = .pointer (some g)) {kk : IntKind} (hy : a.eval y = .int kk i) (hi : i = (k : Int))
   (hu:P.underlying s=some (.array m e)) (he:(P.info? e).map (·.size)=some size) (hk:k < m):Runs P op a (.pointer (some (g.add (k * size)))) w:=by
 subst hi
 unfold Runs execOp
 simp only [ho,hx,hy]
 cases hi:P.info? e with
 | none=>rw [hi] at he;simp at he
 | some inf =>
   rw [hi] at he
   simp at he
   have hm':(k:Int) < (m:Int):=by omega
   simp [Instr.indexAt,asIntOf,Sem.run_bind,run_underlying,hu,sizeOf,typeInfo,hi,he,Addr.add,hk,Instr.sureAddr,Result.andThen]
end
section
variable {P:Program} {ops:Array Oper} {op:Oper} {a:Act} {Q:Exit→Act→World→Prop} {df:List Deferred} {w0 w:World} {ex:Nat→Prop} {L L':List (Nat×BA)} {k e ty:TypeId} {nn t:Nat} {E:List (Nat×Value)} {K:Act→World→Prop} {okv:Value→Value→Prop}
end
end
end Go.Proofs.Ytoheddpnnjldgaa


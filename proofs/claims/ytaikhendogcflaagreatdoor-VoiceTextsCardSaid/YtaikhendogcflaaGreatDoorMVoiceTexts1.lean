/-
  Walks of functions,and plain laws (texts put together). No condition.
-/
import Derived.Test.YtaikhendogcflaaGreatDoorRows
import Derived.WalkKit
import Derived.WalkSpells
import Derived.WalkLawsBesides
import Derived.Handy
import Derived.Lib.Hide
import Derived.Deep.Draws
import Derived.Deep.MidRow
import Derived.Deep.AppendLies
import Derived.Deep.RegionHeld3
import Derived.Deep.DrawnRows
import Derived.ProofKit
import Derived.OpenShut
import Derived.WideKeyArgs
import Derived.Carry
import Derived.Deep.Slices
import Derived.IntWalk
import Derived.LoopN
import Derived.Maps.OwnOps
import Derived.DeepKeys4
import Derived.Maps.RangeWalk
import Derived.RangeFuncNested
import Derived.RangeFuncBound
import Derived.RangeFuncCalls
import Derived.RangeFuncLeaves
import Derived.Shelf.Abstract
import Derived.Shelf.RegionOpen
import Derived.OwnWalkIn
import Derived.TacticsInMore
import Derived.LoopNIn
import Derived.LoopIn
import Derived.Scope
set_option maxRecDepth 100000
set_option maxHeartbeats 1000000
set_option linter.unusedSimpArgs false
set_option linter.unusedVariables false
namespace Go.Proofs.YtaikhendogcflaaGreatDoor
open Go.Proofs.Tryz
open Go.RowKit
def Rd (w:World) (B size:Nat) (A:Option Addr) (n:Nat) (xs:List Value):Prop :=
 xs.length=n * size∧(0 < n→∃ b o,A=some ⟨b,o,none⟩∧b < B∧∀ j u,xs[j]? = some u→w.cell? ⟨b,o+j,none⟩=some u)
section
variable {w w':World} {B B' size n:Nat} {A:Option Addr} {xs:List Value}
theorem Rd.empty:Rd w B size A 0 []:=⟨by simp,fun h=>absurd h (by omega)⟩
theorem Rd.keep (h:Rd w B size A n xs) (hk:∀ b o,b < B→w'.cell? ⟨b,o,none⟩=w.cell? ⟨b,o,none⟩):Rd w' B size A n xs :=
 ⟨h.1,fun hn=>by
  obtain ⟨b,o,e,hb,hc⟩:=h.2 hn
  exact ⟨b,o,e,hb,fun j u hu=>(hk _ _ hb).trans (hc j u hu)⟩⟩
theorem Rd.more (h:Rd w B size A n xs) (hB:B≤B'):Rd w B' size A n xs :=
 ⟨h.1,fun hn=>by
  obtain ⟨b,o,e,hb,hc⟩:=h.2 hn
  exact ⟨b,o,e,by omega,hc⟩⟩
theorem Rd.below (h:Rd w B size A n xs) (hb:Below B w w'):Rd w' B size A n xs:=h.keep fun _ _ hp=>hb.cell hp
theorem Rd.cells (h:Rd w B size A n xs) (hn:0 < n):∃ b o,A=some ⟨b,o,none⟩∧b < B∧∀ j u,xs[j]? = some u→w.cell? ⟨b,o+j,none⟩=some u:=h.2 hn
end
def rc (l:List (Int×Int)):List Value:=l.flatMap fun p=>[.int .i64 p.1,.int .i64 p.2]
def ic (l:List Int):List Value:=l.map fun n=>.int .i64 n
theorem rc_cons (p:Int×Int) (l:List (Int×Int)):rc (p::l)=.int .i64 p.1 :: .int .i64 p.2::rc l:=rfl
theorem rc_append (l r:List (Int×Int)):rc (l++r)=rc l++rc r:=by simp [rc]
theorem rc_length (l:List (Int×Int)):(rc l).length=l.length * 2:=by
 induction l with
 | nil=>rfl
 | cons p l ih=>rw [rc_cons];simp only [List.length_cons,ih];omega
theorem rc_get (l:List (Int×Int)) (k:Nat) (p:Int×Int) (h:l[k]? = some p):(rc l)[k * 2]? = some (.int .i64 p.1)∧(rc l)[k * 2+1]? = some (.int .i64 p.2):=by
 induction l generalizing k with
 | nil=>simp at h
 | cons q l ih =>
  rw [rc_cons]
  cases k with
  | zero =>
   simp only [List.getElem?_cons_zero,Option.some.injEq] at h
   subst h
   exact ⟨rfl,rfl⟩
  | succ k =>
   simp only [List.getElem?_cons_succ] at h
   obtain ⟨h0,h1⟩:=ih k h
   have e:(k+1) * 2=k * 2+1+1:=by omega
   rw [e]
   simp only [List.getElem?_cons_succ]
   exact ⟨h0,h1⟩
theorem ic_length (l:List Int):(ic l).length=l.length:=by simp [ic]
theorem ic_get (l:List Int) (k:Nat) (n:Int) (h:l[k]? = some n):(ic l)[k]? = some (.int .i64 n):=by simp [ic,h]
theorem Rd.at2 {w:World} {B:Nat} {A:Option Addr} {n:Nat} {l:List (Int×Int)} (h:Rd w B 2 A n (rc l)) {k:Nat} (hk:k < n) :
  ∃ b o x0 x1,A=some ⟨b,o,none⟩∧b < B∧l.drop k=(x0,x1)::l.drop (k+1)∧w.cell? ⟨b,o+k * 2,none⟩=some (.int .i64 x0)∧w.cell? ⟨b,o+k * 2+1,none⟩=some (.int .i64 x1):=by
 have hl:l.length=n:=by have:=h.1;rw [rc_length] at this;omega
 obtain ⟨b,o,e,hb,hc⟩:=h.2 (by omega)
 have hg:l[k]? = some l[k]:=List.getElem?_eq_getElem (by omega)
 obtain ⟨h0,h1⟩:=rc_get l k _ hg
 exact ⟨b,o,l[k].1,l[k].2,e,hb,List.drop_eq_getElem_cons (by omega),hc _ _ h0,by rw [Nat.add_assoc];exact hc _ _ h1⟩
theorem Rd.at1 {w:World} {B:Nat} {A:Option Addr} {n:Nat} {l:List Int} (h:Rd w B 1 A n (ic l)) {k:Nat} (hk:k < n) :
  ∃ b o x,A=some ⟨b,o,none⟩∧b < B∧l.drop k=x::l.drop (k+1)∧w.cell? ⟨b,o+k,none⟩=some (.int .i64 x):=by
 have hl:l.length=n:=by have:=h.1;rw [ic_length] at this;omega
 obtain ⟨b,o,e,hb,hc⟩:=h.2 (by omega)
 have hg:l[k]? = some l[k]:=List.getElem?_eq_getElem (by omega)
 exact ⟨b,o,l[k],e,hb,List.drop_eq_getElem_cons (by omega),hc _ _ (ic_get l k _ hg)⟩
theorem Rd.len2 {w:World} {B:Nat} {A:Option Addr} {n:Nat} {l:List (Int×Int)} (h:Rd w B 2 A n (rc l)):l.length=n:=by have:=h.1;rw [rc_length] at this;omega
theorem Rd.len1 {w:World} {B:Nat} {A:Option Addr} {n:Nat} {l:List Int} (h:Rd w B 1 A n (ic l)):l.length=n:=by have:=h.1;rw [ic_length] at this;omega
theorem Rd.new (w:World) (t:TypeId) (cs:Array Value) (xs:List Value) (n size:Nat) (hx:cs.toList=xs) (hs:xs.length=n * size) :
  Rd (w.alloc (.cells cs t)) (w.alloc (.cells cs t)).heap.size size (some ⟨w.heap.size,0,none⟩) n xs:=by
 refine ⟨hs,fun _=>⟨_,_,rfl,by simp,fun j u hu=>?_⟩⟩
 rw [Nat.zero_add]
 subst hx
 have e:(w.alloc (.cells cs t)).heap[w.heap.size]? = some (.cells cs t):=heap_alloc_new w _
 simp only [World.cell?,e]
 simpa using hu
structure Bk (w:World) (g:Nat) (cs:Array Value):Prop where
 lt:g < w.heap.size
 cell:∀ o,w.cell? ⟨g,o,none⟩=cs[o]?
 frozen:∀ o,w.frozen? ⟨g,o,none⟩=false
variable {w w':World} {g:Nat} {cs:Array Value}
theorem Bk.new (w:World) (t:TypeId) (cs:Array Value):Bk (w.alloc (.cells cs t)) w.heap.size cs:=by
 have e:(w.alloc (.cells cs t)).heap[w.heap.size]? = some (.cells cs t):=heap_alloc_new w _
 refine ⟨by simp,fun o=>by simp only [World.cell?,e];rfl,fun o=>by simp only [World.frozen?,e];simp⟩
theorem Bk.kept {B:Nat} (h:Bk w g cs) (hb:Below B w w') (hg:g < B):Bk w' g cs :=
 ⟨Nat.lt_of_lt_of_le h.lt hb.size,fun o=>(hb.cell (p:=⟨g,o,none⟩) hg).trans (h.cell o),fun o=>(hb.frozen (p:=⟨g,o,none⟩) hg).trans (h.frozen o)⟩
theorem Bk.below (h:Bk w g cs) (hb:Below w.heap.size w w'):Bk w' g cs:=h.kept hb h.lt
theorem Bk.alloc (h:Bk w g cs) (o:Obj):Bk (w.alloc o) g cs:=h.below ((Below.refl _ _).alloc (Nat.le_refl _) o)
theorem Bk.drew (h:Bk w g cs):Bk w.drew g cs:=⟨h.lt,h.cell,h.frozen⟩
theorem Bk.far (h:Bk w g cs) {p:Addr} (hp:g≠p.block) (u:Value):Bk (w.setCell p u) g cs :=
 ⟨by simpa using h.lt,fun o=>(World.cell?_of_block (w:=w) (Below.heap_setCell w p u g hp)).trans (h.cell o),fun o=>(World.frozen?_of_block (w:=w) (Below.heap_setCell w p u g hp)).trans (h.frozen o)⟩
theorem Bk.put (h:Bk w g cs) (o:Nat) (u:Value) (ho:o < cs.size):Bk (w.setCell ⟨g,o,none⟩ u) g (cs.setIfInBounds o u):=by
 refine ⟨by simpa using h.lt,fun o'=>?_,fun o'=>(World.frozen?_setCell _ _ _ _).trans (h.frozen o')⟩
 have hc:=h.cell o
 have hs:w.cell? ⟨g,o,none⟩=some cs[o]:=by rw [hc,Array.getElem?_eq_getElem ho]
 by_cases e:o=o'
 ·subst e
  rw [World.cell?_setCell_same _ _ _ (by rw [hs])]
  simp [ho]
 ·rw [World.cell?_setCell_other _ _ _ _ (fun h=>by injection h;contradiction),h.cell o',Array.getElem?_setIfInBounds_ne e]
theorem Bk.put2 {a b x y:Value} (h:Bk w g #[a,b]):Bk ((w.setCell ⟨g,0,none⟩ x).setCell ⟨g,1,none⟩ y) g #[x,y]:=(h.put 0 x (by simp)).put 1 y (by simp)
theorem Bk.range (h:Bk w g cs):w.rangeAt g 0 cs.toList:=fun j v hv=>by rw [h.cell,Nat.zero_add];simpa using hv
theorem Bk.there (h:Bk w g cs):w.there g 0 cs.size:=fun j hj=>⟨by rw [h.cell,Nat.zero_add,Array.getElem?_eq_getElem hj];rfl,h.frozen _⟩
theorem size_setCells (b:Nat):∀ (vs:List Value) (o:Nat) (w:World),(w.setCells b o vs).heap.size=w.heap.size
 | [],_,_=>rfl
 | v::r,o,w=>by rw [World.setCells,size_setCells b r];simp
structure Oth (w w':World) (g:Nat):Prop where
 os:w'.os=w.os
 tape:w'.tape=w.tape
 output:w'.output=w.output
 size:w'.heap.size=w.heap.size
 block:∀ k,k≠g→w'.heap[k]? = w.heap[k]?
theorem Oth.refl (w:World) (g:Nat):Oth w w g:=⟨rfl,rfl,rfl,rfl,fun _ _=>rfl⟩
theorem Oth.trans {a b c:World} {g:Nat} (h:Oth a b g) (k:Oth b c g):Oth a c g :=
 ⟨k.os.trans h.os,k.tape.trans h.tape,k.output.trans h.output,k.size.trans h.size,fun x hx=>(k.block x hx).trans (h.block x hx)⟩
theorem Oth.setCell (w:World) (p:Addr) (u:Value):Oth w (w.setCell p u) p.block:=⟨rfl,rfl,rfl,by simp,fun k hk=>Below.heap_setCell w p u k hk⟩
theorem Oth.setCells (b:Nat):∀ (vs:List Value) (o:Nat) (w:World),Oth w (w.setCells b o vs) b
 | [],_,w=>Oth.refl w b
 | v::r,o,w=>(Oth.setCell w ⟨b,o,none⟩ v).trans (Oth.setCells b r (o+1) _)
theorem bl_oth {B:Nat} {a:World} (h:Below B a w) (o:Oth w w' g) (hg:B≤g):Below B a w' :=
 ⟨o.os.trans h.os,o.tape.trans h.tape,o.output.trans h.output,by rw [o.size];exact h.size,fun k hk=>(o.block k (by omega)).trans (h.block k hk)⟩
theorem Bk.setCells (h:Bk w g cs) (ds:Array Value) (hs:ds.size=cs.size):Bk (w.setCells g 0 ds.toList) g ds:=by
 refine ⟨by rw [size_setCells];exact h.lt,fun o=>?_,fun o=>(World.frozen?_setCells _ _ _ _ _).trans (h.frozen o)⟩
 have ht:w.there g 0 ds.toList.length:=by have:=h.there;simpa [hs] using this
 by_cases ho:o < ds.size
 ·have h2:=World.rangeAt_setCells_same w g 0 ds.toList ht o ds[o] (by simp [ho])
  rw [Nat.zero_add] at h2
  rw [h2,Array.getElem?_eq_getElem ho]
 ·rw [World.cell?_setCells_out g _ _ _ _ (fun _ _=>.inr (by simp;omega)),h.cell,Array.getElem?_eq_none (by omega),Array.getElem?_eq_none (by omega)]
theorem wpList_store_blk {P : Program} {ops : Array Oper} {rest : List Oper} {op : Oper} {a : Act} {w : World} {Q : Exit → Act → World → Prop} (hgd : op.guard = none) (ty : TypeId) (x y : Operand) (ho : op.op = .store ty x y)
   (g:Nat) (ds cs:Array Value) (hx:a.eval x=.pointer (some ⟨g,0,none⟩)) (hy:a.eval y=.agg ds) (hB:Bk w g cs) (hs:ds.size=cs.size)
   (hi:(P.info? ty).map (·.size)=some ds.size) (h1:ds.all (·.oneCell')=true)
   (h:∀ w',Bk w' g ds→Oth w w' g→wpList P ops Q rest (a.put op.dst undef) w'):wpList P ops Q (op::rest) a w :=
 wpList_store_mid hgd ty x y ho g 0 ds hx hy (by rw [hs];exact hB.there) hi h1 (h _ (hB.setCells ds hs) (Oth.setCells g _ _ _))
theorem wpList_load_blk {P : Program} {ops : Array Oper} {rest : List Oper} {op : Oper} {a : Act} {w : World} {Q : Exit → Act → World → Prop} (hgd : op.guard = none) (ty : TypeId) (x : Operand) (ho : op.op = .load ty x)
   (g:Nat) (hx:a.eval x=.pointer (some ⟨g,0,none⟩)) (cs:Array Value) (hB:Bk w g cs) (d:TypeDesc) (hu:P.underlying ty=some d) (hd:d.isRow=true) (hi:(P.info? ty).map (·.size)=some cs.size)
   (h:wpList P ops Q rest (a.put op.dst (.agg cs)) w):wpList P ops Q (op::rest) a w :=
 wpList_load_mid hgd ty x ho g 0 hx cs.toList d hB.range hu hd (by simpa using hi) (by simpa using h)
theorem ret_blk {P : Program} {fn : Func} {R : Ending → World → Prop} {a : Act} {w : World} (t : Tmp) (ty : TypeId) (hr : fn.results = #[.cell t ty]) (hd : a.defers = [])
   (g:Nat) (hx:a.tmps.getD t undef=.pointer (some ⟨g,0,none⟩)) (cs:Array Value) (hB:Bk w g cs) (d:TypeDesc) (hu:P.underlying ty=some d) (hw:d.isRow=true) (hi:(P.info? ty).map (·.size)=some cs.size)
   (h:R (.returned (.agg cs)) w):bodyPost P fn R .ret a w:=by
 refine ⟨hd,.agg cs,?_,h⟩
 have hl:=run_loadVar_mid w g 0 ty cs.toList d hB.range hu hw (by simpa using hi)
 simp only [Array.toArray_toList] at hl
 have hx':a.tmps[t]?.getD undef=.pointer (some ⟨g,0,none⟩):=by simpa using hx
 simp [results,hr,hx',asAddr,hl,Sem.run_bind]
theorem Bk.far2 {b o o':Nat} {x y:Value} (h:Bk w g cs) (hb:g≠b):Bk ((w.setCell ⟨b,o,none⟩ x).setCell ⟨b,o',none⟩ y) g cs:=(h.far hb _).far hb _
theorem bl_set2 {B:Nat} {a:World} {b o o':Nat} {x y:Value} (h:Below B a w) (hb:B≤b):Below B a ((w.setCell ⟨b,o,none⟩ x).setCell ⟨b,o',none⟩ y):=(h.setCell hb _).setCell hb _
theorem Bk.grown {row:Option Nat} (h:Bk w g cs) (hg:w.grownBy w' row) (hne:some g≠row):Bk w' g cs :=
 ⟨Nat.lt_of_lt_of_le h.lt hg.size,fun o=>(World.cell?_of_block (w:=w) (hg.block g h.lt hne)).trans (h.cell o),fun o=>(World.frozen?_of_block (w:=w) (hg.block g h.lt hne)).trans (h.frozen o)⟩
theorem Bk.new1 (w:World) (o:Obj) (t:TypeId) (cs:Array Value):Bk ((w.alloc o).alloc (.cells cs t)) (w.heap.size+1) cs:=by
 have:=Bk.new (w.alloc o) t cs
 rwa [World.size_alloc] at this
theorem Bk.newAt (w:World) (t:TypeId) (cs:Array Value) (g:Nat) (hg:g=w.heap.size):Bk (w.alloc (.cells cs t)) g cs:=by rw [hg];exact Bk.new w t cs
theorem ret_blk2 {P : Program} {fn : Func} {R : Ending → World → Prop} {a : Act} {w : World} (t t' : Tmp) (ty ty' : TypeId) (hr : fn.results = #[.cell t ty, .cell t' ty']) (hd : a.defers = [])
   (g g':Nat) (hx:a.tmps.getD t undef=.pointer (some ⟨g,0,none⟩)) (hx':a.tmps.getD t' undef=.pointer (some ⟨g',0,none⟩)) (cs cs':Array Value) (hB:Bk w g cs) (hB':Bk w g' cs') (d d':TypeDesc)
   (hu:P.underlying ty=some d) (hw:d.isRow=true) (hi:(P.info? ty).map (·.size)=some cs.size) (hu':P.underlying ty'=some d') (hw':d'.isRow=true) (hi':(P.info? ty').map (·.size)=some cs'.size)
   (h:R (.returned (.tuple #[.agg cs,.agg cs'])) w):bodyPost P fn R .ret a w:=by
 refine ⟨hd,.tuple #[.agg cs,.agg cs'],?_,h⟩
 have hl:=run_loadVar_mid w g 0 ty cs.toList d hB.range hu hw (by simpa using hi)
 have hl':=run_loadVar_mid w g' 0 ty' cs'.toList d' hB'.range hu' hw' (by simpa using hi')
 simp only [Array.toArray_toList] at hl hl'
 have e:a.tmps[t]?.getD undef=.pointer (some ⟨g,0,none⟩):=by simpa using hx
 have e':a.tmps[t']?.getD undef=.pointer (some ⟨g',0,none⟩):=by simpa using hx'
 simp [results,hr,e,e',asAddr,hl,hl',Sem.run_bind]
theorem ret_blk1 {P : Program} {fn : Func} {R : Ending → World → Prop} {a : Act} {w : World} (t t' : Tmp) (ty : TypeId) (hr : fn.results = #[.cell t ty, .tmp t']) (hd : a.defers = [])
   (g:Nat) (v:Value) (hx:a.tmps.getD t undef=.pointer (some ⟨g,0,none⟩)) (hx':a.tmps.getD t' undef=v) (cs:Array Value) (hB:Bk w g cs) (d:TypeDesc)
   (hu:P.underlying ty=some d) (hw:d.isRow=true) (hi:(P.info? ty).map (·.size)=some cs.size)
   (h:R (.returned (.tuple #[.agg cs,v])) w):bodyPost P fn R .ret a w:=by
 refine ⟨hd,.tuple #[.agg cs,v],?_,h⟩
 have hl:=run_loadVar_mid w g 0 ty cs.toList d hB.range hu hw (by simpa using hi)
 simp only [Array.toArray_toList] at hl
 have e:a.tmps[t]?.getD undef=.pointer (some ⟨g,0,none⟩):=by simpa using hx
 have e':a.tmps[t']?.getD undef=v:=by simpa using hx'
 simp [results,hr,e,e',asAddr,hl,Sem.run_bind]
theorem own_form {base e size n:Nat} {v:Value} {xs:List Value} (h:w.ownsRow base e size v n xs) (hn:0 < n) :
  ∃ g cap,v=.slice (some ⟨g,0,none⟩) n cap∧n≤cap∧cap≤maxLen∧base≤g∧g < w.heap.size∧w.rangeAt g 0 xs:=by
 have hc:=h
 rcases h.2 with ⟨_,h0⟩ | ⟨g,cap,cur,rfl,hb,hg,hc1,hc2,_⟩
 ·omega
 ·refine ⟨g,cap,rfl,hc1,hc2,hb,(Array.getElem?_eq_some_iff.1 hg).1,fun j u hu=>?_⟩
  have:=hc.cells (g:=g) rfl j u hu
  rwa [Addr.add_mid] at this
theorem wpList_app1 {P : Program} {ops : Array Oper} {rest : List Oper} {o : Oper} {a : Act} {w : World} {Q : Exit → Act → World → Prop} (hgd : o.guard = none) (s x : Operand) (t : TypeId)
   (ho:o.op=.call { callee:=.builtin .append,args:=#[s,x],argTypes:=#[t,t] })
   (base e:Nat) (i:TypeInfo) (z:Value) (bytes:Nat) (ht:P.underlying t=some (.slice e)) (hi:P.info? e=some i) (hz:i.zero=some z)
   (cs:Array Value) (hsize:i.size=cs.size) (hby:i.bytes=bytes) (hzs:z.cells.size=cs.size) (hsz:0 < cs.size)
   (v:Value) (n:Nat) (xs:List Value) (hs:a.eval s=v) (hown:w.ownsRow base e cs.size v n xs)
   (b c:Nat) (hx:a.eval x=.slice (some ⟨b,0,none⟩) 1 c) (hB:Bk w b cs) (h1:cs.all (·.oneCell')=true)
   (hn:n≤1000000) (hbytes:bytes≤1000) (hbase:base≤w.heap.size)
   (h:∀ g cap w',w'.ownsRow base e cs.size (.slice (some ⟨g,0,none⟩) (n+1) cap) (n+1) (xs++cs.toList)→w.grownBy w' v.ownBlock→(v.ownBlock=some g∨g=w.heap.size)→g < w'.heap.size →
     wpList P ops Q rest (a.put o.dst (.slice (some ⟨g,0,none⟩) (n+1) cap)) w'):wpList P ops Q (o::rest) a w:=by
 refine wpList_append_lies w hgd s x t ho base e i z cs.size bytes ht hi hz hsize hby hzs hsz v n xs hs hown ⟨b,0,none⟩ 1 c cs.toList hx (by simp) (fun j u hu=>?_) (fun u hu=>(Array.all_eq_true_iff_forall_mem.1 h1) u (by simpa using hu))
   (by omega) (by unfold maxLen;omega) ?_ hbase _ rfl h
 · rw [Addr.add_mid,hB.cell,Nat.zero_add]
   simpa using hu
 · have:(n+1) * bytes≤1000001 * 1000:=Nat.mul_le_mul (by omega) hbytes
   omega
theorem ret_int {k:IntKind} {a b:Int} (h:a=b):Ending.returned (.int k a)=.returned (.int k b):=by rw [h]
theorem ret_bool {a b:Bool} (h:a=b):Ending.returned (.bool a)=.returned (.bool b):=by rw [h]
section
variable {P:Program} {ops:Array Oper} {Q:Exit→Act→World→Prop} {S:Array Bool→World→Prop}
def DC (ops:Array Oper) (L:Array Bool):Prop :=
 L.size=ops.size∧∀ (j:Nat) (o:Oper),ops[j]? = some o→L.getD j true=true→∀ e∈o.after,Region.binds .any e=true→L.getD e.on false=true
theorem DC.start:DC ops (Array.replicate ops.size false):=by
 refine ⟨by simp,fun j o hj hl=>?_⟩
 have hlt:j < ops.size:=(Array.getElem?_eq_some_iff.1 hj).1
 simp [hlt] at hl
theorem DC.step {L:Array Bool} {i:Nat} (h:DC ops L) (hi:i∈Region.ready .any ops L):DC ops (L.setIfInBounds i true):=by
 obtain ⟨h0,oi,hoi,hall⟩:=mem_ready.1 hi
 refine ⟨by simpa using h.1,fun j o hj hl e he hb=>?_⟩
 by_cases hji:i=j
 ·subst hji
  rw [hoi] at hj
  injection hj with hj
  subst hj
  exact getD_set_true (hall e he hb)
 ·rw [getD_set_ne true hji] at hl
  exact getD_set_true (h.2 j o hj hl e he hb)
def waitsFor (ops:Array Oper) (m i:Nat):Bool:=match ops[m]? with | some om=>om.after.any fun e=>Region.binds .any e && e.on == i | none=>false
theorem DC.wait {L:Array Bool} {i m:Nat} (h:DC ops L) (hw:waitsFor ops m i=true) (hi:L.getD i true=false):L.getD m true=false:=by
 cases hm:L.getD m true with
 | false=>rfl
 | true =>
  unfold waitsFor at hw
  cases ho:ops[m]? with
  | none=>rw [ho] at hw;cases hw
  | some om =>
   rw [ho] at hw
   obtain ⟨e,he,hb⟩:=Array.any_eq_true'.1 hw
   simp only [Bool.and_eq_true,beq_iff_eq] at hb
   have h1:=h.2 m om ho hm e he hb.1
   rw [hb.2] at h1
   rcases Nat.lt_or_ge i L.size with h' | h'
   ·simp [h'] at hi h1;rw [hi] at h1;cases h1
   ·simp [Array.getElem?_eq_none h'] at h1
def wpAnyS (P:Program) (ops:Array Oper) (Q:Exit→Act→World→Prop) (S:Array Bool→World→Prop):Nat→Array Bool→Act→World→Prop
 | 0,listed,a,w=>Region.ready .any ops listed=[]∧Q .normal a w
 | fuel+1,listed,a,w =>
  (Region.ready .any ops listed=[]→Q .normal a w) ∧
  ∀ i∈Region.ready .any ops listed,wpOp P ops Q i (fun a' w'=>S (listed.setIfInBounds i true) w'∧wpAnyS P ops Q S fuel (listed.setIfInBounds i true) a' w') a w
theorem wpAny_of_S:∀ (fuel:Nat) (listed:Array Bool) (a:Act) (w:World),wpAnyS P ops Q S fuel listed a w→wpAny P .any ops Q fuel listed a w
 | 0,_,_,_,h=>h
 | fuel+1,_,_,_,h=>⟨h.1,fun i hi=>wpOp_mono (fun a' w' h'=>wpAny_of_S fuel _ a' w' h'.2) (h.2 i hi)⟩
theorem wpAnyS_first {i:Nat} {oi:Oper} {v:Value} (hi:ops[i]? = some oi)
  (hsel:∀ (j:Nat) (o:Oper) cs b,ops[j]? = some o→o.op≠.select cs b)
  (hQ:∀ c a w,Q (.panic c) (a.put oi.dst v) w→Q (.panic c) a w) (hSi:∀ L w,S (L.setIfInBounds i true) w↔S L w) :
  ∀ (fuel:Nat) (listed:Array Bool) (a:Act) (w:World),
   (∀ j oj,ops[j]? = some oj→j≠i→listed.getD j true=false→(∀ e∈oj.after,Region.binds .any e=true→e.on≠i)→oi.apart ops oj=true) →
   i∈Region.ready .any ops listed→YieldsIf P ops (fun w'=>∃ L,DC ops L∧L.getD i true=false∧S L w') oi v a→DC ops listed→S listed w →
   wpAnyS P ops Q S fuel (listed.setIfInBounds i true) (a.put oi.dst v) w→wpAnyS P ops Q S (fuel+1) listed a w:=by
 intro fuel
 induction fuel with
 | zero =>
  intro listed a w _ hr hy hD hS H
  refine ⟨fun h=>(by rw [h] at hr;cases hr),fun j hj=>?_⟩
  by_cases hji:j=i
  ·subst hji;exact hy.wpOp hi ⟨listed,hD,(mem_ready.1 hr).1,hS⟩ ⟨(hSi _ _).2 hS,H⟩
  ·have:=ready_mono hj hji
   rw [H.1] at this
   cases this
 | succ fuel ih =>
  intro listed a w hfree hr hy hD hS H
  refine ⟨fun h=>(by rw [h] at hr;cases hr),fun j hj=>?_⟩
  by_cases hji:j=i
  ·subst hji;exact hy.wpOp hi ⟨listed,hD,(mem_ready.1 hr).1,hS⟩ ⟨(hSi _ _).2 hS,H⟩
  ·have h1:=H.2 j (ready_mono hj hji)
   obtain ⟨hjun,oj,hoj,hall⟩:=mem_ready.1 hj
   have hnot:∀ e∈oj.after,Region.binds .any e=true→e.on≠i:=fun e he hb heq=>by
    have h1:=hall e he hb
    have h0:=(mem_ready.1 hr).1
    rw [heq] at h1
    rcases Nat.lt_or_ge i listed.size with h' | h'
    ·simp [h'] at h0 h1;rw [h0] at h1;cases h1
    ·simp [Array.getElem?_eq_none h'] at h1
   have h2:=wpOp_putIf hoj (hfree j oj hoj hji hjun hnot) (fun cs b=>hsel i oi cs b hi) (fun cs b=>hsel j oj cs b hoj) hQ hy h1
   have hfree':∀ k ok,ops[k]? = some ok→k≠i→(listed.setIfInBounds j true).getD k true=false →
     (∀ e∈ok.after,Region.binds .any e=true→e.on≠i)→oi.apart ops ok=true:=fun k ok hk hki hun hno=>by
    refine hfree k ok hk hki ?_ hno
    by_cases hjk:j=k
    ·subst hjk;exact hjun
    ·rw [getD_set_ne true hjk] at hun;exact hun
   refine wpOp_mono (fun a' w' h3=>?_) h2
   have hS':S (listed.setIfInBounds j true) w':=by
    have:=h3.2.1
    rw [Array.setIfInBounds_comm _ _ (Ne.symm hji)] at this
    exact (hSi _ _).1 this
   refine ⟨hS',ih (listed.setIfInBounds j true) a' w' hfree' (ready_mono hr (Ne.symm hji)) h3.1 (hD.step hj) hS' ?_⟩
   rw [Array.setIfInBounds_comm _ _ hji]
   exact h3.2.2
def wpG (P:Program) (ops:Array Oper) (Q:Exit→Act→World→Prop) (S:Array Bool→World→Prop) (fuel:Nat) (listed:Array Bool) (a:Act) (w:World):Prop :=
 DC ops listed→S listed w→wpAnyS P ops Q S fuel listed a w
theorem wpG_take {i:Nat} {oi:Oper} {v:Value} {fuel:Nat} {listed:Array Bool} {a:Act} {w:World} (hi:ops[i]? = some oi)
  (hs:(Region.noSelect ops && Region.free .any ops listed i && (Region.ready .any ops listed).contains i)=true)
  (hSi:∀ L w,S (L.setIfInBounds i true) w↔S L w)
  (hQ:∀ c a w,Q (.panic c) (a.put oi.dst v) w→Q (.panic c) a w) (hy:YieldsIf P ops (fun w'=>∃ L,DC ops L∧L.getD i true=false∧S L w') oi v a)
  (h:wpG P ops Q S fuel (listed.setIfInBounds i true) (a.put oi.dst v) w):wpG P ops Q S (fuel+1) listed a w:=by
 intro hD hS
 simp only [Bool.and_eq_true] at hs
 obtain ⟨⟨h1,h2⟩,h3⟩:=hs
 have hr:i∈Region.ready .any ops listed:=by simpa using h3
 exact wpAnyS_first hi (Region.noSelect_spec h1) hQ hSi fuel listed a w (Region.free_spec hi h2) hr hy hD hS (h (hD.step hr) ((hSi _ _).2 hS))
theorem wpG_one {i:Nat} {o:Oper} {fuel:Nat} {listed:Array Bool} {a:Act} {w:World} (hr:Region.ready .any ops listed=[i]) (ho:ops[i]? = some o)
  (hw:Region.wanted o (yielded ops a.tmps)=true)
  (h:S listed w→∀ K':Act→World→Prop,Shut (∀ a w,S (listed.setIfInBounds i true) w→wpG P ops Q S fuel (listed.setIfInBounds i true) a w→K' a w)→Oper.wp P o a w K' Q):wpG P ops Q S (fuel+1) listed a w:=by
 intro hD hS
 refine ⟨fun h0=>(by rw [hr] at h0;cases h0),fun j hj=>?_⟩
 have hD':=hD.step hj
 rw [hr] at hj
 obtain rfl:j=i:=by simpa using hj
 refine wpOp_step ho (fun K' hK=>?_)
 rw [if_pos hw]
 exact h hS K' (fun a w hS' hW=>hK a w ⟨hS',hW hD' hS'⟩)
theorem wpG_step {i:Nat} {o:Oper} {fuel:Nat} {listed:Array Bool} {a:Act} {w:World} (hr:Region.ready .any ops listed=[i]) (ho:ops[i]? = some o)
  (hw:Region.wanted o (yielded ops a.tmps)=true)
  (h:S listed w→∀ K':Act→World→Prop,Shut (∀ a w,S (listed.setIfInBounds i true) w→(∀ W,wpG P ops Q S fuel (listed.setIfInBounds i true) a W)→K' a w)→Oper.wp P o a w K' Q):wpG P ops Q S (fuel+1) listed a w :=
 wpG_one hr ho hw fun hS K' hK=>h hS K' fun a w hS' hW=>hK a w hS' (hW w)
theorem wpG_done {listed:Array Bool} {a:Act} {w:World} {fuel:Nat} (hr:Region.ready .any ops listed=[]) (h:S listed w→Q .normal a w):wpG P ops Q S fuel listed a w:=by
 intro _ hS
 cases fuel with
 | zero=>exact ⟨hr,h hS⟩
 | succ fuel=>exact ⟨fun _=>h hS,by rw [hr];simp⟩
theorem wpG_end {listed:Array Bool} {a:Act} {w:World} {fuel:Nat} (hr:Region.ready .any ops listed=[]) (h:∀ W,S listed W→Q .normal a W):wpG P ops Q S fuel listed a w:=wpG_done hr (h w)
theorem wp_region_G (S:Array Bool→World→Prop) (n:Nat) {id:Nat} {a:Act} {w:World} (hm:P.follows .mixedOrders=true) (hn:ops.size=n) (hS:S (Array.replicate n false) w.drew)
  (h:∀ W,wpG P ops Q S n (Array.replicate n false) a W):(Code.region id ops true).wp P Q a w:=by
 subst hn
 exact wp_region_any hm (wpAny_of_S _ _ _ _ (h _ DC.start hS))
theorem no_of {b:Bool} (h:b=true) (h':b=false):False:=by rw [h] at h';cases h'
end
structure Ex (w W:World) (p:Nat→Prop):Prop where
 size:w.heap.size≤W.heap.size
 block:∀ b,b < w.heap.size→p b→W.heap[b]? = w.heap[b]?
section
variable {w W W':World} {p:Nat→Prop} {g:Nat} {cs:Array Value}
theorem Ex.refl (w:World) (p:Nat→Prop):Ex w w p:=⟨Nat.le_refl _,fun _ _ _=>rfl⟩
theorem Ex.drew (h:Ex w W p):Ex w W.drew p:=⟨h.size,h.block⟩
theorem Ex.below (h:Ex w W p) (hb:Below W.heap.size W W'):Ex w W' p :=
 ⟨Nat.le_trans h.size hb.size,fun b hl hp=>(hb.block b (Nat.lt_of_lt_of_le hl h.size)).trans (h.block b hl hp)⟩
theorem Ex.oth (h:Ex w W p) (ho:Oth W W' g) (hg : ¬ p g):Ex w W' p :=
 ⟨by rw [ho.size];exact h.size,fun b hl hp=>(ho.block b (fun e=>hg (e ▸ hp))).trans (h.block b hl hp)⟩
theorem Ex.setCell (h:Ex w W p) {a:Addr} (hg : ¬ p a.block) (u:Value):Ex w (W.setCell a u) p:=h.oth (Oth.setCell W a u) hg
theorem Ex.set2 {o o':Nat} {x y:Value} (h:Ex w W p) (hg : ¬ p g):Ex w ((W.setCell ⟨g,o,none⟩ x).setCell ⟨g,o',none⟩ y) p:=(h.setCell (a:=⟨g,o,none⟩) hg x).setCell (a:=⟨g,o',none⟩) hg y
theorem Ex.cell (h:Ex w W p) (hl:g < w.heap.size) (hp:p g) (o:Nat):W.cell? ⟨g,o,none⟩=w.cell? ⟨g,o,none⟩:=World.cell?_of_block (w:=w) (h.block g hl hp)
theorem Ex.range {o:Nat} {xs:List Value} (h:Ex w W p) (hr:w.rangeAt g o xs) (hl:g < w.heap.size) (hp:p g):W.rangeAt g o xs:=fun j v hv=>(h.cell hl hp _).trans (hr j v hv)
theorem bl_trans {a:World} {B:Nat} (h:Below B a w) (hx:Below w.heap.size w W) (hB:B≤w.heap.size):Below B a W:=h.trans (hx.mono hB)
end
theorem range_drop {w:World} {g o k:Nat} {xs:List Value} (h:w.rangeAt g o xs):w.rangeAt g (o+k) (xs.drop k):=fun j v hv=>by
 rw [List.getElem?_drop] at hv
 rw [Nat.add_assoc]
 exact h _ _ hv
theorem rd_cut {W:World} {g cap n:Nat} {p:Int×Int} {r:List (Int×Int)} (hr:W.rangeAt g 0 (rc (p::r))) (hg:g < W.heap.size) (hn:n=r.length+1) (hc:n≤cap) :
  Rd W W.heap.size 2 (if cap=1 then some ⟨g,0,none⟩ else some ⟨g,2,none⟩) (n - 1) (rc r):=by
 refine ⟨by rw [rc_length];omega,fun h=>?_⟩
 rw [if_neg (by omega)]
 have:=range_drop (k:=2) hr
 exact ⟨g,2,rfl,hg,fun j u hu=>by
  have h2:=this j u (by rw [rc_cons];exact hu)
  simpa using h2⟩
section
open Go.ChangeShapes Go.WideShapes Go.ChangeAt Go.RowKit
theorem Tryz.own:ownKnob prog.godebug=none:=by kernel_rfl
theorem Tryz.laid:laidOutB prog=true:=by kernel_rfl
section
variable {H:Type} {enc:TypeId×Value→H} {P:Program} {W W':World}
theorem all_stay (hl:laidOutB P=true) (hb:Below W.heap.size W W') (sp:Nat→Bool):∀ {ts:List TypeId} {vs:List Value} {ds:List (DataW H)} {ps:List MemPlace},
  (∀ t∈ts,P.readableRec t=true∧t < P.types.size)→DataW.TrodAll enc P W 0 (fun _=>true) true ts vs ds ps→(∀ x∈ps,x.block < W.heap.size)→(∀ x∈ps,sp x.block=true)→DataW.TrodAll enc P W' 0 sp true ts vs ds ps
 | [],vs,ds,ps,_,h,_,_=>by
  obtain ⟨rfl,rfl,rfl⟩:=trodAll_nil h
  exact trodAll_mk0
 | t::ts,vs,ds,ps,hr,h,hlt,hsp=>by
  obtain ⟨v,vs',d,ds',p,q,rfl,rfl,rfl,h1,h2⟩:=trodAll_cons h
  exact trodAll_cons_mk (WideElems.Trod_stays hl (hr t (by simp)).1 (hr t (by simp)).2 h1 (fun x hx=>hb.same (hlt x (List.mem_append_left _ hx))) (fun x hx=>hsp x (List.mem_append_left _ hx)))
   (all_stay hl hb sp (fun t' ht'=>hr t' (List.mem_cons_of_mem _ ht')) h2 (fun x hx=>hlt x (List.mem_append_right _ hx)) (fun x hx=>hsp x (List.mem_append_right _ hx)))
theorem law_post {f : Func} {s : ChangeSpec} {args : Array Value} {ds : List (DataW H)} {before : List MemPlace} {tb : TypeId} (hl : laidOutB P = true) (hr : ∀ t ∈ f.params.toList, P.readableRec t = true ∧ t < P.types.size)
   (hres:f.resultTypes = #[tb]) (htb:P.underlying tb=some .bool) (hvars:s.vars=[]) (hW:DataW.Whole enc P f.params.toList s.vars false W args.toList ds [] before)
   (hfr:(s.fn H (ds++[])).results=[.lit (.bool true)]) (hfa:(s.fn H (ds++[])).args=ds) (hfv:(s.fn H (ds++[])).vars=[]) (hb:Below W.heap.size W W') :
   s.post enc P f false true false false W args (.bool true) W':=by
 have hlt:∀ x∈before,x.block < W.heap.size:=fun x hx=>hW.lt x hx
 have hin:∀ x∈before,(fun b=>decide (b < W.heap.size)) x.block=true:=fun x hx=>by simpa using hlt x hx
 have hW2:=hW
 obtain ⟨p,q,hA,hV,hpq,hz,-⟩:=hW
 rw [hvars] at hV
 obtain ⟨-,rfl⟩:=trodVars_none hV
 rw [List.append_nil] at hpq
 subst hpq
 have hargs:∀ sp:Nat→Bool,(∀ x∈before,sp x.block=true)→DataW.TrodAll enc P W' 0 sp true f.params.toList args.toList (s.fn H (ds++[])).args before:=fun sp hsp=>by
   rw [hfa]
   exact all_stay hl hb sp hr hA hlt hsp
 have hr1:∀ (b:Nat) (sp:Nat→Bool) (hd:Bool),DataW.TrodAll enc P W' b sp hd f.resultTypes.toList ((Value.bool true).resultList f.resultTypes.size) (s.fn H (ds++[])).results []:=fun b sp hd=>by
   rw [hfr,hres]
   exact trodAll_cons_mk (shut_bool htb _) trodAll_mk0
 have hv1:∀ sp:Nat→Bool,DataW.TrodVars enc P W' sp s.vars (s.fn H (ds++[])).vars []:=fun sp=>by
   rw [hfv,hvars]
   rfl
 refine ⟨ds,[],before,[],before,[],hW2,hr1 _ _ _,hargs _ hin,hv1 _,World.keptBut_mono (fun x hx=>⟨hx,.inr (by simpa using hx)⟩) (hb.frame (·∈before)),fun _=>⟨?_,_,_,([]++before)++[],⟨[]++before,[],trodAll_append (hargs _ (fun _ _=>rfl)) (hr1 _ _ _),hv1 _,rfl,?_,?_⟩,?_⟩⟩
 · exact ok_one hres rfl (okWide_bool_mk htb _)
 · intro b off hx
   have hx':MemPlace.cell b off∈before:=by simpa using hx
   rw [hb.frozen (hlt _ hx')]
   exact hz b off hx'
 · intro h;cases h
 · intro x hx _
   simpa using hx
theorem read_ints {t e:TypeId} {v:Value} {d:DataW H} {ps:List MemPlace} {base:Nat} (ht:P.underlying t=some (.slice e)) (he:P.underlying e=some (.int .i64)) (hc:P.cellsOf e=1) (hv:Value.okWide P W .any base t v)
  (h:DataW.Trod enc P W 0 (fun _=>true) true t v d ps) (hlt:∀ x∈ps,x.block < W.heap.size):∃ A n c l,v=.slice A n c∧Rd W W.heap.size 1 A n (ic l)∧n≤9223372036854775807:=by
 obtain ⟨a0,len,cap,rfl⟩:=okWide_slice ht hv
 obtain ⟨fuel,hf⟩:=h
 rcases open_ints ht he hc hf with ⟨hcs,hx⟩ | ⟨a,len',cap',zs,hcs,_,hl,hm,hz,hx,hcell,hwz⟩
 ·simp [Value.cells] at hcs
  obtain ⟨rfl,rfl,rfl⟩:=hcs
  exact ⟨none,0,0,[],rfl,Rd.empty,by omega⟩
 ·simp [Value.cells] at hcs
  obtain ⟨rfl,rfl,rfl⟩:=hcs
  simp only [if_true] at hz
  simp only [Prod.mk.injEq] at hx
  obtain ⟨-,rfl⟩:=hx
  refine ⟨some a,len,cap,zs.take len,rfl,⟨by rw [ic_length,List.length_take];omega,fun hn=>?_⟩,by unfold maxLen at hm;omega⟩
  obtain ⟨b,off,spot⟩:=a
  have hspot:spot=none:=by simpa [Addr.add] using World.cell?_spot (hcell 0 (by omega))
  subst hspot
  refine ⟨b,off,rfl,hlt (.cell b off) (MemPlace.mem_row.2 ⟨0,by omega,by simp⟩),fun k u hu=>?_⟩
  have hk:k < len:=by
   have:=(List.getElem?_eq_some_iff.1 hu).1
   rw [ic_length,List.length_take] at this
   omega
  have h2:=hcell k (by omega)
  rw [Addr.add_mid] at h2
  rw [h2,← hu]
  simp [ic,hk,List.getD,List.getElem?_take]
  rw [List.getElem?_eq_getElem (by omega)]
  rfl
end
end
abbrev R2 (a b:Int):Value:=.agg #[.int .i64 a,.int .i64 b]
def withinB (n lo hi:Int):Bool:=decide (lo≤n∧n≤hi)
theorem withinB_lo {n lo hi:Int} (h : ¬ lo≤n):withinB n lo hi=false:=by unfold withinB;simp;intro;omega
theorem withinB_hi {n lo hi:Int} (h:lo≤n):withinB n lo hi=decide (n≤hi):=by unfold withinB;simp [h]
set_option maxHeartbeats 400000 in
theorem within_any (n lo hi:Int) (w:World) :
  Calls prog 170 #[.int .i64 n,.int .i64 lo,.int .i64 hi] w fun e w'=>e=.returned (.bool (withinB n lo hi))∧w=w':=by
 by_cases h1:lo≤n
 ·rw [withinB_hi h1]
  go_enter func170,Tryz.ntmps170
  go_wp2
  go_ret
  exact ⟨rfl,rfl⟩
 ·have h2:decide (lo≤n)=false:=by simpa using h1
  rw [withinB_lo h1]
  go_enter func170,Tryz.ntmps170
  go_wp2
  go_ret
  exact ⟨rfl,rfl⟩
def chkR (x0 x1 lo hi:Int):Int:=if withinB x0 lo hi=true∧withinB x1 lo hi=true then (if x1 < x0 then 5 else 0) else 1
set_option maxHeartbeats 400000 in
theorem checkRange_any (x0 x1 lo hi:Int) (w:World) :
  Calls prog 168 #[R2 x0 x1,.int .i64 lo,.int .i64 hi] w fun e w'=>e=.returned (.int .i64 (chkR x0 x1 lo hi))∧Below w.heap.size w w':=by
 go_enter func168,Tryz.ntmps168
 go_wp2_with (go_at_call 170;((with_reducible refine (within_any _ _ _ _).mono ?_);rintro e w' ⟨rfl,rfl⟩))
 all_goals
  go_ret
  refine ⟨?_,by (repeat' (first | (with_reducible exact Below.refl _ _) | (with_reducible refine Below.alloc ?_ ?_ _) | (with_reducible refine Below.setCell ?_ ?_ _) | (with_reducible refine Below.drew ?_) | ((with_reducible refine Below.trans ?_ (Below.mono (by assumption) ?_))) | go_size))⟩
  simp_all [chkR]
def chkAll (lo hi:Int):List (Int×Int)→Int
 | []=>0
 | p::r=>if (chkR p.1 p.2 lo hi != 0)=true then chkR p.1 p.2 lo hi else chkAll lo hi r
set_option maxHeartbeats 400000 in
theorem checkAll_any (lo hi:Int) (A:Option Addr) (n c:Nat) (l:List (Int×Int)) (w:World) (hr:Rd w w.heap.size 2 A n (rc l)) (hn:n≤9223372036854775807) :
  Calls prog 169 #[.int .i64 lo,.int .i64 hi,.slice A n c] w fun e w'=>e=.returned (.int .i64 (chkAll lo hi l))∧Below w.heap.size w w':=by
 have HL:=Lib.hid hr.len2
 have HR:=Lib.hid hr
 clear hr
 go_enter func169,Tryz.ntmps169
 go_wp2
 go_loopw [12] (fun i wr=>∃ k:Nat,k≤n∧i=.int .i64 k∧Hid (chkAll lo hi l=chkAll lo hi (l.drop k))∧Below w.heap.size w wr) (fun i _=>n - (intOf i).toNat)
 case atStart=>exact ⟨0,Nat.zero_le _,rfl,rfl,Below.refl _ _⟩
 case round =>
  obtain ⟨k,hk,rfl,he,hb⟩:=hrel
  by_cases hlt:k < n
  ·obtain ⟨b,o,x0,x1,rfl,hbb,hd,c0,c1⟩:=(HR.out.below hb).at2 hlt
   have HD:=Lib.hid hd
   clear hd
   have hz:=hb.size
   go_wp2_with (go_at_call 168;((with_reducible refine (checkRange_any _ _ _ _ _).mono ?_);rintro e w1 ⟨rfl,hb1⟩;have hz1:=hb1.size;(try simp only [World.size_alloc] at hz1)))
   ·go_ret
    exact ⟨ret_int (by rw [he.out,HD.out,chkAll,if_pos ‹_›]),by (repeat' (first | (with_reducible exact Below.refl _ _) | (with_reducible refine Below.alloc ?_ ?_ _) | (with_reducible refine Below.setCell ?_ ?_ _) | (with_reducible refine Below.drew ?_) | ((with_reducible refine Below.trans ?_ (Below.mono (by assumption) ?_))) | go_size))⟩
   ·go_roundw
    case rel=>exact ⟨k+1,by omega,by go_num,by rw [he.out,HD.out,chkAll,if_neg (by simp_all)];rfl,by (repeat' (first | (with_reducible exact Below.refl _ _) | (with_reducible refine Below.alloc ?_ ?_ _) | (with_reducible refine Below.setCell ?_ ?_ _) | (with_reducible refine Below.drew ?_) | ((with_reducible refine Below.trans ?_ (Below.mono (by assumption) ?_))) | go_size))⟩
    case measure=>simp [intOf];omega
  ·go_wp2
   go_ret
   exact ⟨ret_int (by rw [he.out,List.drop_of_length_le (by have:=HL.out;omega)];rfl),hb⟩
structure Jb where
 p0:Int
 p1:Int
 t0:Int
 t1:Int
 r0:Int
 r1:Int
 u0:Int
 u1:Int
 d0:Int
 d1:Int
 a0:Int
 a1:Int
 b0:Int
 b1:Int
 le:Int
 sh:List (Int×Int)
 wi:Int
 me:Int
abbrev jobV (j:Jb) (A:Option Addr) (c:Nat):Value :=
 .agg #[.int .i64 j.p0,.int .i64 j.p1,.int .i64 j.t0,.int .i64 j.t1,.int .i64 j.r0,.int .i64 j.r1,.int .i64 j.u0,.int .i64 j.u1,.int .i64 j.d0,.int .i64 j.d1,
  .int .i64 j.a0,.int .i64 j.a1,.int .i64 j.b0,.int .i64 j.b1,.int .i64 j.le,.slice A j.sh.length c,.int .i64 j.wi,.int .i64 j.me]
def checkJ (j:Jb):Int :=
 if (chkR j.p0 j.p1 (-60) 60 != 0)=true then chkR j.p0 j.p1 (-60) 60 else
 if (chkAll 0 100 [(j.t0,j.t1),(j.r0,j.r1)] != 0)=true then chkAll 0 100 [(j.t0,j.t1),(j.r0,j.r1)] else
 if (chkAll 0 12 [(j.u0,j.u1),(j.d0,j.d1),(j.a0,j.a1),(j.b0,j.b1)] != 0)=true then chkAll 0 12 [(j.u0,j.u1),(j.d0,j.d1),(j.a0,j.a1),(j.b0,j.b1)] else
 if (!withinB j.le 0 100)=true then 1 else
 if (4:Int) < j.sh.length then 6 else
 if (chkAll (-60) 60 j.sh != 0)=true then chkAll (-60) 60 j.sh else
 if (!withinB j.wi 0 60)=true∨(!withinB j.me 0 6)=true then 1 else 0
theorem check_any (j:Jb) (A:Option Addr) (c:Nat) (w:World) (hr:Rd w w.heap.size 2 A j.sh.length (rc j.sh)) (hn:j.sh.length≤9223372036854775807) :
  Calls prog 101 #[jobV j A c] w fun e w'=>e=.returned (.int .i64 (checkJ j))∧Below w.heap.size w w':=by
 have HR:=Lib.hid hr
 clear hr
 have q0:=Bk.new w 82 #[.int .i64 j.p0,.int .i64 j.p1,.int .i64 j.t0,.int .i64 j.t1,.int .i64 j.r0,.int .i64 j.r1,.int .i64 j.u0,.int .i64 j.u1,.int .i64 j.d0,.int .i64 j.d1,.int .i64 j.a0,.int .i64 j.a1,.int .i64 j.b0,.int .i64 j.b1,.int .i64 j.le,.slice A j.sh.length c,.int .i64 j.wi,.int .i64 j.me]
 go_enter func101,Tryz.ntmps101
 go_wp2_with (first
  | (go_at_call 170;((with_reducible refine (within_any _ _ _ _).mono ?_);rintro e w' ⟨rfl,rfl⟩))
  | (go_at_call 168;((with_reducible refine (checkRange_any _ _ _ _ _).mono ?_);rintro e w1 ⟨rfl,hb1⟩;have hz1:=hb1.size;(try simp only [World.size_alloc] at hz1);have q1:Bk w1 w.heap.size #[.int .i64 j.p0,.int .i64 j.p1,.int .i64 j.t0,.int .i64 j.t1,.int .i64 j.r0,.int .i64 j.r1,.int .i64 j.u0,.int .i64 j.u1,.int .i64 j.d0,.int .i64 j.d1,.int .i64 j.a0,.int .i64 j.a1,.int .i64 j.b0,.int .i64 j.b1,.int .i64 j.le,.slice A j.sh.length c,.int .i64 j.wi,.int .i64 j.me]:=Bk.below (by (repeat' (first | assumption | (with_reducible refine Bk.alloc ?_ _) | (with_reducible refine Bk.drew ?_) | (with_reducible refine Bk.far ?_ ?_ _) | (simp;omega)))) hb1;have qc1:=q1.cell;have qf1:=q1.frozen))
  | (go_at_call 169;((with_reducible refine (checkAll_any _ _ _ _ _ [(j.t0,j.t1),(j.r0,j.r1)] _ ?_ ?_).mono ?_);(exact Rd.new _ _ _ _ _ _ rfl rfl);(omega);rintro e w2 ⟨rfl,hb2⟩;have hz2:=hb2.size;(try simp only [World.size_alloc] at hz2);have q2:Bk w2 w.heap.size #[.int .i64 j.p0,.int .i64 j.p1,.int .i64 j.t0,.int .i64 j.t1,.int .i64 j.r0,.int .i64 j.r1,.int .i64 j.u0,.int .i64 j.u1,.int .i64 j.d0,.int .i64 j.d1,.int .i64 j.a0,.int .i64 j.a1,.int .i64 j.b0,.int .i64 j.b1,.int .i64 j.le,.slice A j.sh.length c,.int .i64 j.wi,.int .i64 j.me]:=Bk.below (by (repeat' (first | assumption | (with_reducible refine Bk.alloc ?_ _) | (with_reducible refine Bk.drew ?_) | (with_reducible refine Bk.far ?_ ?_ _) | (simp;omega)))) hb2;have qc2:=q2.cell;have qf2:=q2.frozen))
  | (go_at_call 169;((with_reducible refine (checkAll_any _ _ _ _ _ [(j.u0,j.u1),(j.d0,j.d1),(j.a0,j.a1),(j.b0,j.b1)] _ ?_ ?_).mono ?_);(exact Rd.new _ _ _ _ _ _ rfl rfl);(omega);rintro e w3 ⟨rfl,hb3⟩;have hz3:=hb3.size;(try simp only [World.size_alloc] at hz3);have q3:Bk w3 w.heap.size #[.int .i64 j.p0,.int .i64 j.p1,.int .i64 j.t0,.int .i64 j.t1,.int .i64 j.r0,.int .i64 j.r1,.int .i64 j.u0,.int .i64 j.u1,.int .i64 j.d0,.int .i64 j.d1,.int .i64 j.a0,.int .i64 j.a1,.int .i64 j.b0,.int .i64 j.b1,.int .i64 j.le,.slice A j.sh.length c,.int .i64 j.wi,.int .i64 j.me]:=Bk.below (by (repeat' (first | assumption | (with_reducible refine Bk.alloc ?_ _) | (with_reducible refine Bk.drew ?_) | (with_reducible refine Bk.far ?_ ?_ _) | (simp;omega)))) hb3;have qc3:=q3.cell;have qf3:=q3.frozen))
  | (go_at_call 169;((with_reducible refine (checkAll_any _ _ _ _ _ j.sh _ ?_ ?_).mono ?_);(exact (HR.out.below (by (repeat' (first | (with_reducible exact Below.refl _ _) | (with_reducible refine Below.alloc ?_ ?_ _) | (with_reducible refine Below.setCell ?_ ?_ _) | (with_reducible refine Below.drew ?_) | ((with_reducible refine Below.trans ?_ (Below.mono (by assumption) ?_))) | go_size)))).more (by go_size));(exact hn);rintro e w4 ⟨rfl,hb4⟩;have hz4:=hb4.size;(try simp only [World.size_alloc] at hz4);have q4:Bk w4 w.heap.size #[.int .i64 j.p0,.int .i64 j.p1,.int .i64 j.t0,.int .i64 j.t1,.int .i64 j.r0,.int .i64 j.r1,.int .i64 j.u0,.int .i64 j.u1,.int .i64 j.d0,.int .i64 j.d1,.int .i64 j.a0,.int .i64 j.a1,.int .i64 j.b0,.int .i64 j.b1,.int .i64 j.le,.slice A j.sh.length c,.int .i64 j.wi,.int .i64 j.me]:=Bk.below (by (repeat' (first | assumption | (with_reducible refine Bk.alloc ?_ _) | (with_reducible refine Bk.drew ?_) | (with_reducible refine Bk.far ?_ ?_ _) | (simp;omega)))) hb4;have qc4:=q4.cell;have qf4:=q4.frozen)))
 all_goals
  go_ret
  refine ⟨ret_int ?_,by (repeat' (first | (with_reducible exact Below.refl _ _) | (with_reducible refine Below.alloc ?_ ?_ _) | (with_reducible refine Below.setCell ?_ ?_ _) | (with_reducible refine Below.drew ?_) | ((with_reducible refine Below.trans ?_ (Below.mono (by assumption) ?_))) | go_size))⟩
  unfold checkJ
  (repeat' split)
  all_goals first | rfl | contradiction | omega | (simp_all;done)
section
open Go.ChangeShapes Go.WideShapes Go.ChangeAt Go.RowKit
theorem cInt:prog.cellsOf 3=1:=by kernel_rfl
theorem cRange:prog.cellsOf 26=2:=by kernel_rfl
theorem cFile:prog.cellsOf 28=9:=by kernel_rfl
section
variable {H:Type} {enc:TypeId×Value→H} {P:Program} {W:World} {base:Nat} {sp:Nat→Bool} {hd:Bool}
theorem fieldOf {t:TypeId} {fs:Array Field} {fuel:Nat} {cs:List Value} {x:DataW H×List MemPlace} (ht:P.underlying t=some (.struct fs)) (h:DataW.trod enc P W base sp hd fuel t cs=some x) (i:Nat) (f:Field) (hf:fs[i]? = some f) :
  ∃ n y,DataW.trod enc P W base sp hd n f.type ((cs.drop f.offset).take (P.cellsOf f.type))=some y:=by
 obtain ⟨xs,n,_,_,_,hlen,hx⟩:=DataW.trod_struct ht h
 have hi:i < fs.size:=(Array.getElem?_eq_some_iff.1 hf).1
 refine ⟨n,xs[i]'(by omega),?_⟩
 rw [hx i f hf,List.getElem?_eq_getElem (by omega)]
theorem cell_int {t:TypeId} {k:IntKind} {fuel:Nat} {cs:List Value} {x:DataW H×List MemPlace} (ht:P.underlying t=some (.int k)) (h:DataW.trod enc P W base sp hd fuel t cs=some x):∃ n,cs=[.int k n]:=by
 obtain ⟨n,h1,_⟩:=DataW.trod_int ht h
 exact ⟨n,h1⟩
theorem cells_range {fuel:Nat} {cs:List Value} {x:DataW H×List MemPlace} (h:DataW.trod enc prog W base sp hd fuel 26 cs=some x):∃ a b,cs=[.int .i64 a,.int .i64 b]:=by
 have hl:cs.length=2:=by
  obtain ⟨_,_,_,_,hl,_⟩:=DataW.trod_struct underlying26 h
  rw [hl,cRange]
 match cs,hl with
 | [c0,c1],_ =>
  obtain ⟨_,_,h0⟩:=fieldOf underlying26 h 0 _ rfl
  obtain ⟨_,_,h1⟩:=fieldOf underlying26 h 1 _ rfl
  obtain ⟨a,ha⟩:=cell_int underlying3 h0
  obtain ⟨b,hb⟩:=cell_int underlying3 h1
  simp [cInt] at ha hb
  exact ⟨a,b,by rw [ha,hb]⟩
theorem cells_file {fuel:Nat} {cs:List Value} {x:DataW H×List MemPlace} (h:DataW.trod enc prog W base sp hd fuel 28 cs=some x):∃ a b c d e f g i k,cs=[.int .i64 a,.int .i64 b,.int .i64 c,.int .i64 d,.int .i64 e,.int .i64 f,.int .i64 g,.int .i64 i,.int .i64 k]:=by
 have hl:cs.length=9:=by
  obtain ⟨_,_,_,_,hl,_⟩:=DataW.trod_struct underlying28 h
  rw [hl,cFile]
 match cs,hl with
 | [c0,c1,c2,c3,c4,c5,c6,c7,c8],_ =>
  obtain ⟨_,_,h0⟩:=fieldOf underlying28 h 0 _ rfl
  obtain ⟨_,_,h1⟩:=fieldOf underlying28 h 1 _ rfl
  obtain ⟨_,_,h2⟩:=fieldOf underlying28 h 2 _ rfl
  obtain ⟨_,_,h3⟩:=fieldOf underlying28 h 3 _ rfl
  obtain ⟨_,_,h4⟩:=fieldOf underlying28 h 4 _ rfl
  obtain ⟨a,b,e0⟩:=cells_range h0
  obtain ⟨c,d,e1⟩:=cells_range h1
  obtain ⟨e,f,e2⟩:=cells_range h2
  obtain ⟨g,i,e3⟩:=cells_range h3
  obtain ⟨k,e4⟩:=cell_int underlying3 h4
  simp [cRange,cInt] at e0 e1 e2 e3 e4
  exact ⟨a,b,c,d,e,f,g,i,k,by rw [e0.1,e0.2,e1.1,e1.2,e2.1,e2.2,e3.1,e3.2,e4]⟩
theorem read_int {v:Value} {d:DataW H} {ps:List MemPlace} {b0:Nat} (hv:Value.okWide prog W .any b0 3 v) (h:DataW.Trod enc prog W 0 (fun _=>true) true 3 v d ps):∃ a,v=.int .i64 a∧-9223372036854775808≤a∧a≤9223372036854775807:=by
 obtain ⟨n,rfl,_,_,hw⟩:=open_int underlying3 hv h
 refine ⟨n,rfl,?_⟩
 simp [Lit.wf,IntKind.min,IntKind.max,IntKind.bits,IntKind.signed] at hw
 omega
end
end
inductive BA where
 | cells (l:List Value)
 | row (e size n:Nat) (xs:List Value) (cap:Nat)
 | any (Q:Obj→Prop)
def BA.holds (w:World) (g:Nat):BA→Prop
 | .cells l=>Bk w g l.toArray
 | .row e size n xs cap=>w.ownsRow g e size (.slice (some ⟨g,0,none⟩) n cap) n xs∧0 < n
 | .any Q=>∃ o,w.heap[g]? = some o∧Q o
theorem BA.lt {w:World} {g:Nat} {p:BA} (h:p.holds w g):g < w.heap.size:=by
 cases p with
 | cells l=>exact Bk.lt h
 | row e size n xs cap=>exact (h.1.lt g rfl).2
 | any Q=>obtain ⟨o,ho,_⟩:=h;exact (Array.getElem?_eq_some_iff.1 ho).1
theorem BA.same {w w':World} {g:Nat} {p:BA} (h:p.holds w g) (hs:w.heap.size≤w'.heap.size) (hb:w'.heap[g]? = w.heap[g]?):p.holds w' g:=by
 cases p with
 | cells l =>
  have h:Bk w g l.toArray:=h
  exact ⟨Nat.lt_of_lt_of_le h.lt hs,fun o=>(World.cell?_of_block (w:=w) (a:=⟨g,o,none⟩) hb).trans (h.cell o),fun o=>(World.frozen?_of_block (w:=w) (a:=⟨g,o,none⟩) hb).trans (h.frozen o)⟩
 | row e size n xs cap =>
  obtain ⟨⟨h1,h2⟩,h3⟩:=h
  refine ⟨⟨h1,?_⟩,h3⟩
  rcases h2 with ⟨h2,h4⟩ | ⟨g',c',cur,h2,hb',hg,hr⟩
  ·exact .inl ⟨h2,h4⟩
  ·injection h2 with h2 _ hcap
   injection h2 with h2
   injection h2 with h2 _ _
   subst h2
   exact .inr ⟨g,c',cur,by rw [hcap],hb',hb.trans hg,hr⟩
 | any Q=>obtain ⟨o,ho,hq⟩:=h;exact ⟨o,hb.trans ho,hq⟩
structure Mem (w0:World) (ex:Nat→Prop) (w:World) (L:List (Nat×BA)):Prop where
 os:w.os=w0.os
 tape:w.tape=w0.tape
 output:w.output=w0.output
 size:w0.heap.size≤w.heap.size
 block:∀ b,b < w0.heap.size→¬ ex b→w.heap[b]? = w0.heap[b]?
 blk:∀ p∈L,(w0.heap.size≤p.1∨ex p.1)∧p.2.holds w p.1
 nd:(L.map (·.1)).Nodup
abbrev noEx:Nat→Prop:=fun _=>False
inductive Upd:List (Nat×BA)→Nat→BA→BA→List (Nat×BA)→Prop
 | head {g p p' L}:Upd ((g,p)::L) g p p' ((g,p')::L)
 | tail {q g p p' L L'}:Upd L g p p' L'→Upd (q::L) g p p' (q::L')
theorem Upd.keys {L L':List (Nat×BA)} {g:Nat} {p p':BA} (h:Upd L g p p' L'):L'.map (·.1)=L.map (·.1):=by
 induction h with
 | head=>rfl
 | tail _ ih=>simp [ih]
theorem Upd.mem {L L':List (Nat×BA)} {g:Nat} {p p':BA} (h:Upd L g p p' L'):(g,p)∈L:=by
 induction h with
 | head=>simp
 | tail _ ih=>exact List.mem_cons_of_mem _ ih
theorem Upd.all {L L':List (Nat×BA)} {g:Nat} {p p':BA} (h:Upd L g p p' L') (hn:(L.map (·.1)).Nodup):∀ q∈L',q=(g,p')∨(q∈L∧q.1≠g):=by
 induction h with
 | head =>
   intro q hq
   rcases List.mem_cons.1 hq with rfl | hq
   · exact .inl rfl
   · refine .inr ⟨List.mem_cons_of_mem _ hq,fun e=>?_⟩
     have:=(List.nodup_cons.1 hn).1
     exact this (List.mem_map.2 ⟨q,hq,e⟩)
 | @tail q0 g p p' L L' h ih =>
   intro q hq
   have hn':=List.nodup_cons.1 hn
   rcases List.mem_cons.1 hq with rfl | hq
   · refine .inr ⟨List.mem_cons_self,fun e=>hn'.1 (List.mem_map.2 ⟨_,h.mem,e.symm⟩)⟩
   · rcases ih hn'.2 q hq with h1 | h1
     · exact .inl h1
     · exact .inr ⟨List.mem_cons_of_mem _ h1.1,h1.2⟩
section
variable {w0 w w':World} {ex:Nat→Prop} {L L':List (Nat×BA)} {g:Nat}
theorem Mem.init (w:World) (ex:Nat→Prop):Mem w ex w []:=⟨rfl,rfl,rfl,Nat.le_refl _,fun _ _ _=>rfl,fun p hp=>(by cases hp),by simp⟩
theorem Mem.below (M:Mem w0 noEx w L):Below w0.heap.size w0 w:=⟨M.os,M.tape,M.output,M.size,fun b hb=>M.block b hb (fun h=>h)⟩
theorem Mem.old {b:Nat} {cs:Array Value} (M:Mem w0 ex w L) (h:Bk w0 b cs) (hb : ¬ ex b):Bk w b cs :=
 ⟨Nat.lt_of_lt_of_le h.lt M.size,fun o=>(World.cell?_of_block (w:=w0) (a:=⟨b,o,none⟩) (M.block b h.lt hb)).trans (h.cell o),fun o=>(World.frozen?_of_block (w:=w0) (a:=⟨b,o,none⟩) (M.block b h.lt hb)).trans (h.frozen o)⟩
theorem Mem.rd {B size n:Nat} {A:Option Addr} {xs:List Value} (M:Mem w0 noEx w L) (h:Rd w0 B size A n xs) (hB:B≤w0.heap.size):Rd w w.heap.size size A n xs:=(h.below (M.below.mono hB)).more (Nat.le_trans hB M.size)
theorem Mem.get {l:List Value} (M:Mem w0 ex w L) (h:(g,BA.cells l)∈L):Bk w g l.toArray:=(M.blk _ h).2
theorem Mem.rdOwn {l xs:List Value} {n size:Nat} (M:Mem w0 ex w L) (h:(g,BA.cells l)∈L) (hx:l=xs) (hs:xs.length=n * size):Rd w w.heap.size size (some ⟨g,0,none⟩) n xs:=by
 have hb:=M.get h
 subst hx
 refine ⟨hs,fun _=>⟨g,0,rfl,hb.lt,fun j u hu=>?_⟩⟩
 rw [hb.cell,Nat.zero_add]
 simpa using hu
theorem Mem.rdRow {e size n cap:Nat} {xs:List Value} (M:Mem w0 ex w L) (h:(g,BA.row e size n xs cap)∈L):Rd w w.heap.size size (some ⟨g,0,none⟩) n xs:=by
 obtain ⟨hb,hn⟩:=(M.blk _ h).2
 obtain ⟨g',cap',e1,_,_,_,hl,hr⟩:=own_form hb hn
 injection e1 with e1 _ _
 injection e1 with e1
 injection e1 with e1 _ _
 subst e1
 refine ⟨hb.1,fun _=>⟨g,0,rfl,hl,fun j u hu=>?_⟩⟩
 exact hr j u hu
theorem Mem.drew (M:Mem w0 ex w L):Mem w0 ex w.drew L:=⟨M.os,M.tape,M.output,M.size,M.block,fun p hp=>⟨(M.blk p hp).1,BA.same (M.blk p hp).2 (Nat.le_refl _) rfl⟩,M.nd⟩
theorem Mem.call (M:Mem w0 ex w L) (h:Below w.heap.size w w'):Mem w0 ex w' L :=
 ⟨h.os.trans M.os,h.tape.trans M.tape,h.output.trans M.output,Nat.le_trans M.size h.size,fun b hb hx=>(h.block b (Nat.lt_of_lt_of_le hb M.size)).trans (M.block b hb hx),
  fun p hp=>⟨(M.blk p hp).1,BA.same (M.blk p hp).2 h.size (h.block _ (BA.lt (M.blk p hp).2))⟩,M.nd⟩
theorem Mem.alloc (M:Mem w0 ex w L) (o:Obj):Mem w0 ex (w.alloc o) L:=M.call ((Below.refl _ _).alloc (Nat.le_refl _) o)
theorem Mem.add {p:BA} (M:Mem w0 ex w L) (hg:w0.heap.size≤g) (hp:p.holds w g) (hn:∀ q∈L,q.1≠g):Mem w0 ex w ((g,p)::L) :=
 ⟨M.os,M.tape,M.output,M.size,M.block,fun q hq=>by
  rcases List.mem_cons.1 hq with rfl | hq
  ·exact ⟨.inl hg,hp⟩
  ·exact M.blk q hq,List.nodup_cons.2 ⟨fun h=>by obtain ⟨q,hq,e⟩:=List.mem_map.1 h;exact hn q hq e,M.nd⟩⟩
theorem Mem.new (M:Mem w0 ex w L) (l:List Value) (t:TypeId):Mem w0 ex (w.alloc (.cells l.toArray t)) ((w.heap.size,.cells l)::L) :=
 (M.alloc _).add M.size (Bk.new w t _) (fun q hq e=>by have:=(BA.lt (M.blk q hq).2);omega)
theorem Mem.newAny (M:Mem w0 ex w L) (o:Obj) (Q:Obj→Prop) (hQ:Q o):Mem w0 ex (w.alloc o) ((w.heap.size,.any Q)::L) :=
 (M.alloc _).add M.size ⟨o,(MapKept.heap_alloc w _).1,hQ⟩ (fun q hq e=>by have:=(BA.lt (M.blk q hq).2);omega)
theorem Mem.write {p p':BA} (M:Mem w0 ex w L) (hu:Upd L g p p' L') (ho:Oth w w' g) (hp:p'.holds w' g):Mem w0 ex w' L':=by
 have hg:=(M.blk _ hu.mem).1
 refine ⟨ho.os.trans M.os,ho.tape.trans M.tape,ho.output.trans M.output,by rw [ho.size];exact M.size,fun b hb hx=>?_,fun q hq=>?_,by rw [hu.keys];exact M.nd⟩
 ·refine (ho.block b fun e=>?_).trans (M.block b hb hx)
  subst e
  rcases hg with h | h
  ·have h:w0.heap.size≤b:=h
   omega
  ·exact hx h
 ·rcases hu.all M.nd q hq with rfl | ⟨h1,h2⟩
  ·exact ⟨hg,hp⟩
  ·exact ⟨(M.blk q h1).1,BA.same (M.blk q h1).2 (by rw [ho.size];exact Nat.le_refl _) (ho.block _ h2)⟩
theorem Mem.callW {p p':BA} (M:Mem w0 ex w L) (hu:Upd L g p p' L') (h:w.grownBy w' (some g)) (hp:p'.holds w' g):Mem w0 ex w' L':=by
 have hg:=(M.blk _ hu.mem).1
 refine ⟨h.os.trans M.os,h.tape.trans M.tape,h.output.trans M.output,Nat.le_trans M.size h.size,fun b hb hx=>?_,fun q hq=>?_,by rw [hu.keys];exact M.nd⟩
 ·refine (h.block b (Nat.lt_of_lt_of_le hb M.size) fun e=>?_).trans (M.block b hb hx)
  injection e with e
  subst e
  rcases hg with h | h
  ·have h:w0.heap.size≤b:=h
   omega
  ·exact hx h
 ·rcases hu.all M.nd q hq with rfl | ⟨h1,h2⟩
  ·exact ⟨hg,hp⟩
  ·exact ⟨(M.blk q h1).1,BA.same (M.blk q h1).2 h.size (h.block _ (BA.lt (M.blk q h1).2) (fun e=>h2 (by injection e)))⟩
theorem Mem.grown (M:Mem w0 (fun b=>b=g) w L):w0.grownBy w (some g):=⟨M.os,M.tape,M.output,M.size,fun b hb hx=>M.block b hb (fun e=>hx (by rw [e]))⟩
theorem Mem.forget {q:Nat×BA} (M:Mem w0 ex w (q::L)):Mem w0 ex w L:=⟨M.os,M.tape,M.output,M.size,M.block,fun p hp=>M.blk p (List.mem_cons_of_mem _ hp),(List.nodup_cons.1 M.nd).2⟩
theorem Mem.sub (M:Mem w0 ex w L) (h:L'.Sublist L):Mem w0 ex w L':=⟨M.os,M.tape,M.output,M.size,M.block,fun p hp=>M.blk p (h.subset hp),M.nd.sublist (h.map _)⟩
theorem Mem.join (M:Mem w0 ex w L) (h:Mem w noEx w' L'):Mem w0 ex w' (L'++L):=by
 have M2:=M.call h.below
 refine ⟨M2.os,M2.tape,M2.output,M2.size,M2.block,fun p hp=>?_,?_⟩
 ·rcases List.mem_append.1 hp with hp | hp
  ·refine ⟨.inl ?_,(h.blk p hp).2⟩
   rcases (h.blk p hp).1 with h1 | h1
   ·exact Nat.le_trans M.size h1
   ·exact h1.elim
  ·exact M2.blk p hp
 ·rw [List.map_append]
  refine List.nodup_append.2 ⟨h.nd,M.nd,fun a ha b hb e=>?_⟩
  obtain ⟨p,hp,rfl⟩:=List.mem_map.1 ha
  obtain ⟨q,hq,rfl⟩:=List.mem_map.1 hb
  have h2:=BA.lt (M.blk q hq).2
  rcases (h.blk p hp).1 with h1 | h1
  ·rw [e] at h1;omega
  ·exact h1
theorem Mem.initEx {p:BA} (hp:p.holds w g):Mem w (fun b=>b=g) w [(g,p)] :=
 ⟨rfl,rfl,rfl,Nat.le_refl _,fun _ _ _=>rfl,fun q hq=>(by obtain rfl:=List.mem_singleton.1 hq;exact ⟨.inr rfl,hp⟩),by simp⟩
theorem Mem.far {n0:Nat} {row:Option Nat} (M:Mem w0 ex w L) (hg:w.grownBy w' row) (hr:∀ r,row=some r→n0≤r) (h0:w0.heap.size≤n0) (hL:∀ p∈L,p.1 < n0):Mem w0 ex w' L :=
 ⟨hg.os.trans M.os,hg.tape.trans M.tape,hg.output.trans M.output,Nat.le_trans M.size hg.size,
  fun b hb hx=>(hg.block b (Nat.lt_of_lt_of_le hb M.size) (fun e=>by have:=hr b e.symm;omega)).trans (M.block b hb hx),
  fun p hp=>⟨(M.blk p hp).1,BA.same (M.blk p hp).2 hg.size (hg.block _ (BA.lt (M.blk p hp).2) (fun e=>by have:=hr _ e.symm;have:=hL p hp;omega))⟩,M.nd⟩
theorem Mem.at {q:Nat×BA} (M:Mem w0 ex w L) (h:q∈L):q.2.holds w q.1:=(M.blk q h).2
theorem Bk.storeAt {cs:Array Value} (h:Bk w g cs) (o:Nat) (ds cs':List Value) (hs:o+ds.length≤cs.size) (hc:cs'=cs.toList.take o++ds++cs.toList.drop (o+ds.length)):Bk (w.setCells g o ds) g cs'.toArray:=by
 have ht:w.there g o ds.length:=fun j hj=>⟨by rw [h.cell,Array.getElem?_eq_getElem (by omega)];rfl,h.frozen _⟩
 refine ⟨by rw [size_setCells];exact h.lt,fun x=>?_,fun x=>(World.frozen?_setCells _ _ _ _ _).trans (h.frozen x)⟩
 subst hc
 simp only [List.getElem?_toArray]
 by_cases h1:x < o
 ·rw [World.cell?_setCells_out g _ _ _ _ (fun _ _=>.inl h1),h.cell,List.append_assoc,List.getElem?_append_left (by simp;omega),List.getElem?_take_of_lt h1]
  simp
 ·by_cases h2:x < o+ds.length
  ·have h3:=World.rangeAt_setCells_same w g o ds ht (x - o) ds[x - o] (List.getElem?_eq_getElem (by omega))
   have e:o+(x - o)=x:=by omega
   rw [e] at h3
   rw [h3,List.append_assoc,List.getElem?_append_right (by simp;omega)]
   have e2:x - (cs.toList.take o).length=x - o:=by simp;omega
   rw [e2,List.getElem?_append_left (by omega),List.getElem?_eq_getElem (by omega)]
  ·rw [World.cell?_setCells_out g _ _ _ _ (fun _ _=>.inr (by show o+ds.length≤x;omega)),h.cell,List.getElem?_append_right (by simp;omega)]
   have e2:x - (cs.toList.take o++ds).length=x - (o+ds.length):=by simp;omega
   rw [e2,List.getElem?_drop]
   have e3:o+ds.length+(x - (o+ds.length))=x:=by omega
   rw [e3]
   simp
end
class RowTy (P:Program) (t:TypeId) (n:outParam Nat):Prop where
 row:∃ d,P.underlying t=some d∧d.isRow=true
 size:(P.info? t).map (·.size)=some n
class OneTy (P:Program) (t:TypeId):Prop where
 one:∃ d,P.underlying t=some d∧d.isRow=false
 size:(P.info? t).map (·.size)=some 1
class ZeroTy (P:Program) (t:TypeId) (l:outParam (List Value)):Prop where
 zero:∀ w,∃ z,(zeroValue t).run P w=.ok z w∧z.cells=l.toArray
section
variable {P:Program} {ops:Array Oper} {rest:List Oper} {op:Oper} {a:Act} {Q:Exit→Act→World→Prop} {w0 w:World} {ex:Nat→Prop} {L:List (Nat×BA)} {K:Act→World→Prop}
theorem run_load_row {ty:TypeId} {n g o:Nat} [h:RowTy P ty n] {cs ds:List Value} (hB:Bk w g cs.toArray) (hd:(cs.drop o).take n=ds) (hn:Nat.ble (o+n) cs.length=true):(loadVar ty ⟨g,o,none⟩).run P w=.ok (.agg ds.toArray) w:=by
 obtain ⟨d,hu,hr⟩:=h.row
 replace hn:ds.length=n:=by have:=Nat.le_of_ble_eq_true hn;subst hd;simp;omega
 refine run_loadVar_mid w g o ty ds d (fun j v hv=>?_) hu hr (by rw [hn];exact h.size)
 rw [hB.cell]
 subst hd
 have hj:j < n:=by
  have:=(List.getElem?_eq_some_iff.1 hv).1
  rw [hn] at this
  exact this
 rw [List.getElem?_take_of_lt hj,List.getElem?_drop] at hv
 simpa using hv
theorem run_load_one {ty:TypeId} {g o:Nat} [h:OneTy P ty] {cs:List Value} {v:Value} (hB:Bk w g cs.toArray) (hv:cs[o]? = some v):(loadVar ty ⟨g,o,none⟩).run P w=.ok v w:=by
 obtain ⟨d,hu,hr⟩:=h.one
 have hc:w.cell? ⟨g,o,none⟩=some v:=by rw [hB.cell];simpa using hv
 have ha:(isAgg ty).run P w=.ok false w:=by
  unfold isAgg
  simp only [Sem.run_bind,run_underlying hu,Result.andThen_ok]
  cases d <;> first | rfl | (simp [TypeDesc.isRow] at hr)
 unfold loadVar
 simp only [Sem.run_bind,ha,Result.andThen_ok]
 simp [load,Sem.run,hc]
theorem run_store_any {ty:TypeId} {g o:Nat} {v:Value} {cs ds:List Value} (hi:(P.info? ty).map (·.size)=some ds.length) (hB:Bk w g cs.toArray) (hv:v.cells=ds.toArray) (h1:ds.all (·.oneCell')=true) (hs:o+ds.length≤cs.length) :
   (storeVar ty ⟨g,o,none⟩ v).run P w=.ok () (w.setCells g o ds):=by
 have ht:w.there g o ds.length:=fun j hj=>⟨by rw [hB.cell,Array.getElem?_eq_getElem (by simp;omega)];rfl,hB.frozen _⟩
 have h2:=run_storeVar_mid (P:=P) w g o ty ds.toArray (by simpa using ht) (by simpa using hi) (by simpa using h1)
 unfold storeVar at h2 ⊢
 rw [hv]
 have e:(Value.agg ds.toArray).cells=ds.toArray:=rfl
 rw [e] at h2
 exact h2
theorem run_alloc_any {ty:TypeId} {l:List Value} [h:ZeroTy P ty l] (w:World):(Instr.alloc ty true (.tuple #[])).run P w=.ok (.pointer (some ⟨w.heap.size,0,none⟩)) (w.alloc (.cells l.toArray ty)):=by
 obtain ⟨z,hz,hc⟩:=h.zero w
 unfold Instr.alloc
 simp only [Sem.run_bind,hz,Result.andThen_ok,newVar,newRow,run_newObj_alloc,Sem.run_pure,hc]
theorem wpList_wanted (hw:Region.wanted op (yielded ops a.tmps)=true) (h:∀ K:Act→World→Prop,(∀ a w,wpList P ops Q rest a w→K a w)→op.wp P a w K Q):wpList P ops Q (op::rest) a w :=
 wpList_step fun K hK=>by rw [if_pos hw];exact h K hK
theorem m_ldr {ty:TypeId} {n:Nat} [RowTy P ty n] {x:Operand} {g o:Nat} {cs ds:List Value} (M:Mem w0 ex w L) (hw:Region.wanted op (yielded ops a.tmps)=true) (ho:op.op=.load ty x) (hx:a.eval x=.pointer (some ⟨g,o,none⟩)) (hm:(g,BA.cells cs)∈L)
  (hd:(cs.drop o).take n=ds) (hn:Nat.ble (o+n) cs.length=true) (h:wpList P ops Q rest (a.put op.dst (.agg ds.toArray)) w):wpList P ops Q (op::rest) a w :=
 wpList_wanted hw fun _ hK=>by
  unfold Oper.wp execOp
  simp only [ho,hx,Instr.loadAt,Instr.sureAddr,Sem.run_bind,Sem.run_pure,Result.andThen_ok,run_load_row (M.get hm) hd hn]
  exact hK _ _ h
theorem m_ld1 {ty:TypeId} [OneTy P ty] {x:Operand} {g o:Nat} {cs:List Value} {v:Value} (M:Mem w0 ex w L) (hw:Region.wanted op (yielded ops a.tmps)=true) (ho:op.op=.load ty x) (hx:a.eval x=.pointer (some ⟨g,o,none⟩)) (hm:(g,BA.cells cs)∈L)
  (hv:cs[o]? = some v) (h:wpList P ops Q rest (a.put op.dst v) w):wpList P ops Q (op::rest) a w :=
 wpList_wanted hw fun _ hK=>by
  unfold Oper.wp execOp
  simp only [ho,hx,Instr.loadAt,Instr.sureAddr,Sem.run_bind,Sem.run_pure,Result.andThen_ok,run_load_one (M.get hm) hv]
  exact hK _ _ h
theorem lo_row {ty:TypeId} {n:Nat} [RowTy P ty n] {x:Operand} {g o:Nat} {cs ds:List Value} (hB:Bk w g cs.toArray) (hw:Region.wanted op (yielded ops a.tmps)=true) (ho:op.op=.load ty x) (hx:a.eval x=.pointer (some ⟨g,o,none⟩))
  (hd:(cs.drop o).take n=ds) (hn:Nat.ble (o+n) cs.length=true) (h:wpList P ops Q rest (a.put op.dst (.agg ds.toArray)) w):wpList P ops Q (op::rest) a w :=
 wpList_wanted hw fun _ hK=>by
  unfold Oper.wp execOp
  simp only [ho,hx,Instr.loadAt,Instr.sureAddr,Sem.run_bind,Sem.run_pure,Result.andThen_ok,run_load_row hB hd hn]
  exact hK _ _ h
theorem lo_one {ty:TypeId} [OneTy P ty] {x:Operand} {g o:Nat} {cs:List Value} {v:Value} (hB:Bk w g cs.toArray) (hw:Region.wanted op (yielded ops a.tmps)=true) (ho:op.op=.load ty x) (hx:a.eval x=.pointer (some ⟨g,o,none⟩))
  (hv:cs[o]? = some v) (h:wpList P ops Q rest (a.put op.dst v) w):wpList P ops Q (op::rest) a w :=
 wpList_wanted hw fun _ hK=>by
  unfold Oper.wp execOp
  simp only [ho,hx,Instr.loadAt,Instr.sureAddr,Sem.run_bind,Sem.run_pure,Result.andThen_ok,run_load_one hB hv]
  exact hK _ _ h
theorem rn_row {ty:TypeId} {n:Nat} [RowTy P ty n] {x:Operand} {g o:Nat} {cs ds:List Value} (hB:Bk w g cs.toArray) (ho:op.op=.load ty x) (hx:a.eval x=.pointer (some ⟨g,o,none⟩))
  (hd:(cs.drop o).take n=ds) (hn:Nat.ble (o+n) cs.length=true):(execOp a.eval op).run P w=.ok (.value (.agg ds.toArray)) w:=by
 unfold execOp
 simp only [ho,hx,Instr.loadAt,Instr.sureAddr,Sem.run_bind,Sem.run_pure,Result.andThen_ok,run_load_row hB hd hn]
theorem Zro {ty:TypeId} [OneTy P ty] {x:Operand} {g o:Nat} {cs:List Value} {v:Value} (hB:Bk w g cs.toArray) (ho:op.op=.load ty x) (hx:a.eval x=.pointer (some ⟨g,o,none⟩))
  (hv:cs[o]? = some v):(execOp a.eval op).run P w=.ok (.value v) w:=by
 unfold execOp
 simp only [ho,hx,Instr.loadAt,Instr.sureAddr,Sem.run_bind,Sem.run_pure,Result.andThen_ok,run_load_one hB hv]
theorem m_stw {ty : TypeId} {x y : Operand} {g o : Nat} {v : Value} {cs ds cs' : List Value} {L' : List (Nat × BA)} (M : Mem w0 ex w L) (ho : op.op = .store ty x y) (hx : a.eval x = .pointer (some ⟨g, o, none⟩)) (hy : a.eval y = v) (hv : v.cells = ds.toArray)
   (hu:Upd L g (.cells cs) (.cells cs') L') (hc:cs.take o++ds++cs.drop (o+ds.length)=cs') (hs:o+ds.length≤cs.length) (h1:ds.all (·.oneCell')=true) (hi:(P.info? ty).map (·.size)=some ds.length)
   (h:∀ w',Mem w0 ex w' L'→K (a.put op.dst undef) w'):op.wp P a w K Q:=by
 have hB:=M.get hu.mem
 unfold Oper.wp execOp
 simp only [ho,hx,hy,Instr.storeAt,Instr.sureAddr,Sem.run_bind,Sem.run_pure,Result.andThen_ok,run_store_any hi hB hv h1 hs]
 exact h _ (M.write hu (Oth.setCells g _ _ _) (hB.storeAt o ds cs' (by simpa using hs) (by simpa using hc.symm)))
theorem m_st {ty : TypeId} {x y : Operand} {g o : Nat} {v : Value} {cs ds cs' : List Value} {L' : List (Nat × BA)} (M : Mem w0 ex w L) (hw : Region.wanted op (yielded ops a.tmps) = true) (ho : op.op = .store ty x y) (hx : a.eval x = .pointer (some ⟨g, o, none⟩)) (hy : a.eval y = v) (hv : v.cells = ds.toArray)
   (hu:Upd L g (.cells cs) (.cells cs') L') (hc:cs.take o++ds++cs.drop (o+ds.length)=cs') (hs:o+ds.length≤cs.length) (h1:ds.all (·.oneCell')=true) (hi:(P.info? ty).map (·.size)=some ds.length)
   (h:∀ w',Mem w0 ex w' L'→wpList P ops Q rest (a.put op.dst undef) w'):wpList P ops Q (op::rest) a w :=
 wpList_wanted hw fun _ hK=>m_stw M ho hx hy hv hu hc hs h1 hi fun w' M'=>hK _ _ (h w' M')
theorem m_alw {ty:TypeId} {l:List Value} [ZeroTy P ty l] (M:Mem w0 ex w L) (ho:op.op=.alloc ty)
  (h:∀ g w',Mem w0 ex w' ((g,.cells l)::L)→K (a.put op.dst (.pointer (some ⟨g,0,none⟩))) w'):op.wp P a w K Q:=by
 unfold Oper.wp execOp
 simp only [ho,Sem.run_bind,Sem.run_pure,Result.andThen_ok,run_alloc_any (P:=P) (ty:=ty)]
 exact h _ _ (M.new l ty)
theorem m_al {ty:TypeId} {l:List Value} [ZeroTy P ty l] (M:Mem w0 ex w L) (hw:Region.wanted op (yielded ops a.tmps)=true) (ho:op.op=.alloc ty)
  (h:∀ g w',Mem w0 ex w' ((g,.cells l)::L)→wpList P ops Q rest (a.put op.dst (.pointer (some ⟨g,0,none⟩))) w'):wpList P ops Q (op::rest) a w :=
 wpList_wanted hw fun _ hK=>m_alw M ho fun g w' M'=>hK _ _ (h g w' M')
theorem m_bx {ty:TypeId} {x:Operand} {v:Value} {l:List Value} (M:Mem w0 ex w L) (hw:Region.wanted op (yielded ops a.tmps)=true) (ho:op.op=.box ty x) (hx:a.eval x=v) (hv:v.cells=l.toArray)
  (h:∀ g w',Mem w0 ex w' ((g,.cells l)::L)→wpList P ops Q rest (a.put op.dst (.pointer (some ⟨g,0,none⟩))) w'):wpList P ops Q (op::rest) a w :=
 wpList_wanted hw fun _ hK=>by
  unfold Oper.wp execOp
  simp only [ho,hx,Instr.box,Sem.run_bind,Sem.run_pure,Result.andThen_ok,newVar,newRow,run_newObj_alloc,hv]
  exact hK _ _ (h _ _ (M.new l ty))
theorem start {c:Code} (ex:Nat→Prop) (h:∀ w',Mem w ex w' []→c.wp P Q a w'):c.wp P Q a w:=h w (Mem.init w ex)
theorem m_start {c:Code} (M:Mem w0 ex w L) (h:∀ w',Mem w0 ex w' L→c.wp P Q a w'):c.wp P Q a w:=h w M
theorem absorb {l:List Value} {t:TypeId} (M:Mem w0 ex w L) (h:Mem w0 ex (w.alloc (.cells l.toArray t)) ((w.heap.size,.cells l)::L)→wpList P ops Q rest a (w.alloc (.cells l.toArray t))):wpList P ops Q rest a (w.alloc (.cells l.toArray t)):=h (M.new l t)
theorem ret_M {fn:Func} {R:Ending→World→Prop} {t:Tmp} {ty:TypeId} {n g:Nat} [hT:RowTy P ty n] {cs:List Value} (M:Mem w0 ex w L) (hr:fn.results = #[.cell t ty]) (hd:a.defers=[])
  (hx:a.tmps.getD t undef=.pointer (some ⟨g,0,none⟩)) (hm:(g,BA.cells cs)∈L) (hn:cs.length=n) (h:R (.returned (.agg cs.toArray)) w):bodyPost P fn R .ret a w:=by
 obtain ⟨d,hu,hw⟩:=hT.row
 exact ret_blk t ty hr hd g hx cs.toArray (M.get hm) d hu hw (by rw [List.size_toArray,hn];exact hT.size) h
theorem ret_M1 {fn:Func} {R:Ending→World→Prop} {t t':Tmp} {ty:TypeId} {n g:Nat} [hT:RowTy P ty n] {v:Value} {cs:List Value} (M:Mem w0 ex w L) (hr:fn.results = #[.cell t ty,.tmp t']) (hd:a.defers=[])
  (hx:a.tmps.getD t undef=.pointer (some ⟨g,0,none⟩)) (hx':a.tmps.getD t' undef=v) (hm:(g,BA.cells cs)∈L) (hn:cs.length=n) (h:R (.returned (.tuple #[.agg cs.toArray,v])) w):bodyPost P fn R .ret a w:=by
 obtain ⟨d,hu,hw⟩:=hT.row
 exact ret_blk1 t t' ty hr hd g v hx hx' cs.toArray (M.get hm) d hu hw (by rw [List.size_toArray,hn];exact hT.size) h
end
instance:OneTy prog 3:=⟨⟨_,underlying3,rfl⟩,by kernel_rfl⟩
instance:OneTy prog 4:=⟨⟨_,underlying4,rfl⟩,by kernel_rfl⟩
instance:ZeroTy prog 4 [.bool false]:=⟨fun _=>⟨.bool false,by kernel_rfl,rfl⟩⟩
instance:OneTy prog 9:=⟨⟨_,underlying9,rfl⟩,by kernel_rfl⟩
instance:RowTy prog 23 4:=⟨⟨_,underlying23,rfl⟩,by kernel_rfl⟩
instance:ZeroTy prog 23 [.int .i64 0,.int .i64 0,.int .i64 0,.int .i64 0]:=⟨fun _=>⟨.agg #[.int .i64 0,.int .i64 0,.int .i64 0,.int .i64 0],by kernel_rfl,rfl⟩⟩
instance:OneTy prog 24:=⟨⟨_,underlying24,rfl⟩,by kernel_rfl⟩
instance:RowTy prog 26 2:=⟨⟨_,underlying26,rfl⟩,by kernel_rfl⟩
instance:ZeroTy prog 26 [.int .i64 0,.int .i64 0]:=⟨fun _=>⟨.agg #[.int .i64 0,.int .i64 0],by kernel_rfl,rfl⟩⟩
instance:RowTy prog 28 9:=⟨⟨_,underlying28,rfl⟩,by kernel_rfl⟩
instance:ZeroTy prog 28 [.int .i64 0,.int .i64 0,.int .i64 0,.int .i64 0,.int .i64 0,.int .i64 0,.int .i64 0,.int .i64 0,.int .i64 0]:=⟨fun _=>⟨.agg #[.int .i64 0,.int .i64 0,.int .i64 0,.int .i64 0,.int .i64 0,.int .i64 0,.int .i64 0,.int .i64 0,.int .i64 0],by kernel_rfl,rfl⟩⟩
instance:RowTy prog 30 21:=⟨⟨_,underlying30,rfl⟩,by kernel_rfl⟩
instance:ZeroTy prog 30 [.int .i64 0,.int .i64 0,.int .i64 0,.int .i64 0,.int .i64 0,.slice none 0 0,.slice none 0 0,.int .i64 0,.int .i64 0,.int .i64 0,.int .i64 0,.int .i64 0,.int .i64 0,.int .i64 0,.int .i64 0,.int .i64 0,.int .i64 0,.int .i64 0,.int .i64 0,.int .i64 0,.int .i64 0]:=⟨fun _=>⟨.agg #[.int .i64 0,.int .i64 0,.int .i64 0,.int .i64 0,.int .i64 0,.slice none 0 0,.slice none 0 0,.int .i64 0,.int .i64 0,.int .i64 0,.int .i64 0,.int .i64 0,.int .i64 0,.int .i64 0,.int .i64 0,.int .i64 0,.int .i64 0,.int .i64 0,.int .i64 0,.int .i64 0,.int .i64 0],by kernel_rfl,rfl⟩⟩
instance:OneTy prog 31:=⟨⟨_,underlying31,rfl⟩,by kernel_rfl⟩
instance:ZeroTy prog 31 [.slice none 0 0]:=⟨fun _=>⟨.slice none 0 0,by kernel_rfl,rfl⟩⟩
instance:OneTy prog 57:=⟨⟨_,underlying57,rfl⟩,by kernel_rfl⟩
instance:OneTy prog 66:=⟨⟨_,underlying66,rfl⟩,by kernel_rfl⟩
instance:RowTy prog 68 5:=⟨⟨_,underlying68,rfl⟩,by kernel_rfl⟩
instance:ZeroTy prog 68 [.int .i64 0,.int .i64 0,.int .i64 0,.int .i64 0,.slice none 0 0]:=⟨fun _=>⟨.agg #[.int .i64 0,.int .i64 0,.int .i64 0,.int .i64 0,.slice none 0 0],by kernel_rfl,rfl⟩⟩
instance:RowTy prog 77 4:=⟨⟨_,underlying77,rfl⟩,by kernel_rfl⟩
instance:ZeroTy prog 77 [.int .i64 0,.int .i64 0,.int .i64 0,.int .i64 0]:=⟨fun _=>⟨.agg #[.int .i64 0,.int .i64 0,.int .i64 0,.int .i64 0],by kernel_rfl,rfl⟩⟩
instance:RowTy prog 80 6:=⟨⟨_,underlying80,rfl⟩,by kernel_rfl⟩
instance:RowTy prog 82 18:=⟨⟨_,underlying82,rfl⟩,by kernel_rfl⟩
instance:ZeroTy prog 82 [.int .i64 0,.int .i64 0,.int .i64 0,.int .i64 0,.int .i64 0,.int .i64 0,.int .i64 0,.int .i64 0,.int .i64 0,.int .i64 0,.int .i64 0,.int .i64 0,.int .i64 0,.int .i64 0,.int .i64 0,.slice none 0 0,.int .i64 0,.int .i64 0]:=⟨fun _=>⟨.agg #[.int .i64 0,.int .i64 0,.int .i64 0,.int .i64 0,.int .i64 0,.int .i64 0,.int .i64 0,.int .i64 0,.int .i64 0,.int .i64 0,.int .i64 0,.int .i64 0,.int .i64 0,.int .i64 0,.int .i64 0,.slice none 0 0,.int .i64 0,.int .i64 0],by kernel_rfl,rfl⟩⟩
instance:OneTy prog 84:=⟨⟨_,underlying84,rfl⟩,by kernel_rfl⟩
instance:OneTy prog 98:=⟨⟨_,underlying98,rfl⟩,by kernel_rfl⟩
instance:RowTy prog 100 3:=⟨⟨_,underlying100,rfl⟩,by kernel_rfl⟩
instance:OneTy prog 147:=⟨⟨_,underlying147,rfl⟩,by kernel_rfl⟩
instance:RowTy prog 152 6:=⟨⟨_,underlying152,rfl⟩,by kernel_rfl⟩
instance:ZeroTy prog 152 [.int .i64 0,.int .i64 0,.int .i64 0,.int .i64 0,.slice none 0 0,.slice none 0 0]:=⟨fun _=>⟨.agg #[.int .i64 0,.int .i64 0,.int .i64 0,.int .i64 0,.slice none 0 0,.slice none 0 0],by kernel_rfl,rfl⟩⟩
instance:OneTy prog 159:=⟨⟨_,underlying159,rfl⟩,by kernel_rfl⟩
instance:ZeroTy prog 159 [.slice none 0 0]:=⟨fun _=>⟨.slice none 0 0,by kernel_rfl,rfl⟩⟩
instance:OneTy prog 161:=⟨⟨_,underlying161,rfl⟩,by kernel_rfl⟩
instance:ZeroTy prog 161 [.nilFunc]:=⟨fun _=>⟨.nilFunc,by kernel_rfl,rfl⟩⟩
instance:RowTy prog 174 2:=⟨⟨_,underlying174,rfl⟩,by kernel_rfl⟩
instance:ZeroTy prog 174 [.slice none 0 0,.slice none 0 0]:=⟨fun _=>⟨.agg #[.slice none 0 0,.slice none 0 0],by kernel_rfl,rfl⟩⟩
instance:OneTy prog 175:=⟨⟨_,underlying175,rfl⟩,by kernel_rfl⟩
instance:ZeroTy prog 175 [.nilFunc]:=⟨fun _=>⟨.nilFunc,by kernel_rfl,rfl⟩⟩
instance:OneTy prog 210:=⟨⟨_,underlying210,rfl⟩,by kernel_rfl⟩
instance:ZeroTy prog 237 [.slice none 0 0,.bool false]:=⟨fun _=>⟨.agg #[.slice none 0 0,.bool false],by kernel_rfl,rfl⟩⟩
instance:OneTy prog 240:=⟨⟨_,underlying240,rfl⟩,by kernel_rfl⟩
instance:OneTy prog 241:=⟨⟨_,underlying241,rfl⟩,by kernel_rfl⟩
instance:RowTy prog 243 21:=⟨⟨_,underlying243,rfl⟩,by kernel_rfl⟩
instance:ZeroTy prog 243 [.int .i64 0,.int .i64 0,.int .i64 0,.int .i64 0,.int .i64 0,.int .i64 0,.int .i64 0,.int .i64 0,.int .i64 0,.int .i64 0,.int .i64 0,.int .i64 0,.int .i64 0,.int .i64 0,.int .i64 0,.slice none 0 0,.int .i64 0,.int .i64 0,.int .i64 0,.int .i64 0,.nilFunc]:=⟨fun _=>⟨.agg #[.int .i64 0,.int .i64 0,.int .i64 0,.int .i64 0,.int .i64 0,.int .i64 0,.int .i64 0,.int .i64 0,.int .i64 0,.int .i64 0,.int .i64 0,.int .i64 0,.int .i64 0,.int .i64 0,.int .i64 0,.slice none 0 0,.int .i64 0,.int .i64 0,.int .i64 0,.int .i64 0,.nilFunc],by kernel_rfl,rfl⟩⟩
instance:RowTy prog 247 5:=⟨⟨_,underlying247,rfl⟩,by kernel_rfl⟩
instance:ZeroTy prog 247 [.int .i64 0,.int .i64 0,.int .i64 0,.int .i64 0,.int .i64 0]:=⟨fun _=>⟨.agg #[.int .i64 0,.int .i64 0,.int .i64 0,.int .i64 0,.int .i64 0],by kernel_rfl,rfl⟩⟩
instance:OneTy prog 249:=⟨⟨_,underlying249,rfl⟩,by kernel_rfl⟩
instance:ZeroTy prog 249 [.map none]:=⟨fun _=>⟨.map none,by kernel_rfl,rfl⟩⟩
instance:RowTy prog 253 2:=⟨⟨_,underlying253,rfl⟩,by kernel_rfl⟩
instance:ZeroTy prog 253 [.int .i64 0,.int .i64 0]:=⟨fun _=>⟨.agg #[.int .i64 0,.int .i64 0],by kernel_rfl,rfl⟩⟩
instance:OneTy prog 297:=⟨⟨_,underlying297,rfl⟩,by kernel_rfl⟩
instance:ZeroTy prog 297 [.nilFunc]:=⟨fun _=>⟨.nilFunc,by kernel_rfl,rfl⟩⟩
instance:OneTy prog 301:=⟨⟨_,underlying301,rfl⟩,by kernel_rfl⟩
instance:ZeroTy prog 301 [.map none]:=⟨fun _=>⟨.map none,by kernel_rfl,rfl⟩⟩
instance:RowTy prog 346 15:=⟨⟨_,underlying346,rfl⟩,by kernel_rfl⟩
instance:ZeroTy prog 346 [.int .i64 0,.int .i64 0,.int .i64 0,.int .i64 0,.int .i64 0,.int .i64 0,.int .i64 0,.int .i64 0,.int .i64 0,.int .i64 0,.int .i64 0,.int .i64 0,.int .i64 0,.int .i64 0,.int .i64 0]:=⟨fun _=>⟨.agg #[.int .i64 0,.int .i64 0,.int .i64 0,.int .i64 0,.int .i64 0,.int .i64 0,.int .i64 0,.int .i64 0,.int .i64 0,.int .i64 0,.int .i64 0,.int .i64 0,.int .i64 0,.int .i64 0,.int .i64 0],by kernel_rfl,rfl⟩⟩
structure TmD (df:List Deferred) (a:Act) (n:Nat) (E:List (Nat×Value)):Prop where
 defers:a.defers=df
 size:a.tmps.size=n
 get:∀ p∈E,a.eval (.tmp p.1)=p.2
abbrev Tm (a:Act) (n:Nat) (E:List (Nat×Value)):Prop:=TmD [] a n E
theorem subL {α:Type} {I L T:List α} (h:I.Sublist L):I.Sublist (L++T):=h.trans (List.sublist_append_left _ _)
def nthE {α:Type}:List α→Nat→Option α
 | [],_=>none
 | x::_,0=>some x
 | _::l,i+1=>nthE l i
theorem Zne {α:Type}:∀ {l:List α} {i:Nat} {x:α},nthE l i=some x→x∈l
 | [],_,_,h=>by simp [nthE] at h
 | y::l,0,x,h=>by simp [nthE] at h;simp [h]
 | y::l,i+1,x,h=>List.mem_cons_of_mem _ (Zne (l:=l) (i:=i) (by simpa [nthE] using h))
theorem nthE_get {α:Type}:∀ {l:List α} {i:Nat} {x:α},nthE l i=some x→l[i]? = some x
 | [],_,_,h=>by simp [nthE] at h
 | y::l,0,x,h=>by simpa [nthE] using h
 | y::l,i+1,x,h=>by
  have:=nthE_get (l:=l) (i:=i) (x:=x) (by simpa [nthE] using h)
  simpa using this
def freshE:List (Nat×Value)→Nat→Bool
 | [],_=>true
 | p::l,t=>match Nat.beq p.1 t with | true=>false | false=>freshE l t
theorem freshE_ne:∀ {l:List (Nat×Value)} {t:Nat},freshE l t=true→∀ p∈l,p.1≠t
 | [],_,_,p,hp=>by cases hp
 | q::l,t,h,p,hp=>by
  unfold freshE at h
  cases hq:Nat.beq q.1 t with
  | true=>rw [hq] at h;simp at h
  | false =>
   rw [hq] at h
   rcases List.mem_cons.1 hp with rfl | hp
   ·intro e;rw [e] at hq;simp at hq
   ·exact freshE_ne (by simpa using h) p hp
def pickE {α:Type} (E:List α):List Nat→Option (List α)
 | []=>some []
 | i::r=>match nthE E i with
  | none=>none
  | some x=>match pickE E r with
   | none=>none
   | some l=>some (x::l)
theorem pickE_mem {α:Type} {E:List α}:∀ {is:List Nat} {l:List α},pickE E is=some l→∀ x∈l,x∈E
 | [],l,h,x,hx=>by simp [pickE] at h;subst h;cases hx
 | i::r,l,h,x,hx=>by
  unfold pickE at h
  cases h1:nthE E i with
  | none=>rw [h1] at h;cases h
  | some y =>
   rw [h1] at h
   cases h2:pickE E r with
   | none=>rw [h2] at h;cases h
   | some l' =>
    rw [h2] at h
    simp only [Option.some.injEq] at h
    subst h
    rcases List.mem_cons.1 hx with rfl | hx
    ·exact Zne h1
    ·exact pickE_mem h2 x hx
def maskE {α:Type}:List α→List Bool→List α
 | x::l,true::m=>x::maskE l m
 | _::l,false::m=>maskE l m
 | l,_=>l
theorem maskE_sub {α:Type}:∀ (l:List α) (m:List Bool),(maskE l m).Sublist l
 | [],[]=>by simp [maskE]
 | [],_::_=>by simp [maskE]
 | _::_,[]=>by simp [maskE]
 | x::l,true::m=>(maskE_sub l m).cons_cons x
 | x::l,false::m=>(maskE_sub l m).cons x
section
variable {df:List Deferred} {a:Act} {n t:Nat} {E E':List (Nat×Value)} {v:Value}
theorem TmD.ev (T:TmD df a n E) (i:Nat) {t:Nat} {v:Value} (h:nthE E i=some (t,v)):a.eval (.tmp t)=v:=T.get _ (Zne h)
theorem TmD.pick (T:TmD df a n E) (is:List Nat) (h:pickE E is=some E'):TmD df a n E':=⟨T.defers,T.size,fun p hp=>T.get p (pickE_mem h p hp)⟩
theorem TmD.as (T:TmD df a n E) (h:E=E'):TmD df a n E':=h ▸ T
theorem TmD.put (T:TmD df a n E) (hn:Nat.blt t n=true) (hf:freshE E t=true) (v:Value):TmD df (a.put (some t) v) n ((t,v)::E):=by
 have hn:t < n:=Nat.le_of_ble_eq_true hn
 refine ⟨T.defers,by simpa [Act.put] using T.size,fun p hp=>?_⟩
 rcases List.mem_cons.1 hp with rfl | hp
 ·have:=T.size
  simp [Act.put,Act.eval,Array.getD,this,hn]
 ·have h1:=freshE_ne hf p hp
  have h2:=T.get p hp
  rw [Act.eval_put (fun d hd e=>h1 (by injection hd with hd;injection e with e;rw [hd,e]))]
  exact h2
theorem TmD.put0 (T:TmD df a n E) (v:Value):TmD df (a.put none v) n E:=T
def maskR {α:Type}:List Bool→List α→Option (List α)
 | [],l=>some l
 | b::m,l=>match l with
  | []=>some []
  | x::r=>match maskR m r with
   | none=>none
   | some q=>match b with
    | true=>some (x::q)
    | false=>some q
def maskO {α:Type} (l:List α) (m:List Bool):Option (List α):=maskR m l
theorem maskO_eq {α:Type}:∀ (l:List α) (m:List Bool),maskO l m=some (maskE l m)
 | [],[]=>rfl
 | _::_,[]=>rfl
 | [],_::_=>rfl
 | x::l,b::m=>by
  have ih:maskR m l=some (maskE l m):=maskO_eq l m
  unfold maskO maskR
  simp only [ih]
  cases b <;> rfl
theorem Mem.mask {w0 w:World} {ex:Nat→Prop} {L L':List (Nat×BA)} (M:Mem w0 ex w L) (m:List Bool) (h:maskO L m=some L'):Mem w0 ex w L':=by
 rw [maskO_eq] at h
 injection h with h
 exact h ▸ M.sub (maskE_sub L m)
def nodupB:List Nat→Bool
 | []=>true
 | i::r=>!(r.any fun j=>Nat.beq i j) && nodupB r
theorem pickE_nd {L:List (Nat×BA)} (hn:(L.map (·.1)).Nodup):∀ {is:List Nat} {L':List (Nat×BA)},pickE L is=some L'→nodupB is=true→(L'.map (·.1)).Nodup∧∀ x∈L',∃ i∈is,nthE L i=some x
 | [],L',h,_=>by simp [pickE] at h;subst h;simp
 | i::r,L',h,hd=>by
   unfold pickE at h
   cases h1:nthE L i with
   | none=>rw [h1] at h;cases h
   | some y =>
     rw [h1] at h
     cases h2:pickE L r with
     | none=>rw [h2] at h;cases h
     | some l' =>
       rw [h2] at h
       simp only [Option.some.injEq] at h
       subst h
       simp only [nodupB,Bool.and_eq_true] at hd
       obtain ⟨h3,h4⟩:=pickE_nd hn h2 hd.2
       refine ⟨List.nodup_cons.2 ⟨fun hm=>?_,h3⟩,fun x hx=>?_⟩
       · obtain ⟨z,hz,e⟩:=List.mem_map.1 hm
         obtain ⟨j,hj,hjz⟩:=h4 z hz
         have a1:=nthE_get h1
         have a2:=nthE_get hjz
         have b1:(L.map (·.1))[i]? = some y.1:=by rw [List.getElem?_map,a1];rfl
         have b2:(L.map (·.1))[j]? = some y.1:=by rw [List.getElem?_map,a2];show some z.1=some y.1;rw [e]
         have:i=j:=by
           have hi:=(List.getElem?_eq_some_iff.1 b1).1
           exact (List.getElem?_inj hi hn).1 (b1.trans b2.symm)
         subst this
         have h5:=hd.1
         simp at h5
         exact absurd rfl (h5 i hj)
       · rcases List.mem_cons.1 hx with rfl | hx
         · exact ⟨i,List.mem_cons_self,h1⟩
         · obtain ⟨j,hj,h6⟩:=h4 x hx
           exact ⟨j,List.mem_cons_of_mem _ hj,h6⟩
theorem Mem.perm {w0 w:World} {ex:Nat→Prop} {L L':List (Nat×BA)} (M:Mem w0 ex w L) (is:List Nat) (h:pickE L is=some L') (hd:nodupB is=true):Mem w0 ex w L' :=
 ⟨M.os,M.tape,M.output,M.size,M.block,fun p hp=>M.blk p (pickE_mem h p hp),(pickE_nd M.nd h hd).1⟩
def permO {α:Type} (K:List α):Nat→List α→Option (List α)
 | 0,l=>some (K++l)
 | k+1,l=>match l with
  | []=>none
  | _::r=>permO K k r
theorem permO_eq {α:Type} {K:List α}:∀ {k:Nat} {l L':List α},permO K k l=some L'→L'=K++l.drop k
 | 0,l,L',h=>by simp [permO] at h;simp [h]
 | k+1,[],L',h=>by simp [permO] at h
 | k+1,_::r,L',h=>by
  have:=permO_eq (k:=k) (l:=r) (by simpa [permO] using h)
  simpa using this
def allLt (k:Nat):List Nat→Bool
 | []=>true
 | i::r=>Nat.blt i k && allLt k r
theorem allLt_mem {k:Nat}:∀ {is:List Nat},allLt k is=true→∀ i∈is,i < k
 | [],_,i,h=>by cases h
 | j::r,h,i,hi=>by
  simp only [allLt,Bool.and_eq_true] at h
  rcases List.mem_cons.1 hi with rfl | hi
  ·exact Nat.le_of_ble_eq_true h.1
  ·exact allLt_mem h.2 i hi
theorem Mem.permT {w0 w:World} {ex:Nat→Prop} {L L' K:List (Nat×BA)} (M:Mem w0 ex w L) (is:List Nat) (k:Nat) (h:pickE L is=some K) (hd:nodupB is=true) (hk:allLt k is=true) (h':permO K k L=some L'):Mem w0 ex w L':=by
 have e:=permO_eq h'
 subst e
 obtain ⟨n1,n2⟩:=pickE_nd M.nd h hd
 refine ⟨M.os,M.tape,M.output,M.size,M.block,fun p hp=>M.blk p ?_,?_⟩
 · rcases List.mem_append.1 hp with hp | hp
   · exact pickE_mem h p hp
   · exact List.mem_of_mem_drop hp
 · rw [List.map_append]
   refine List.nodup_append.2 ⟨n1,(M.nd.sublist ((List.drop_sublist k L).map _)),fun a ha b hb e=>?_⟩
   obtain ⟨x,hx,rfl⟩:=List.mem_map.1 ha
   obtain ⟨y,hy,rfl⟩:=List.mem_map.1 hb
   obtain ⟨i,hi,hix⟩:=n2 x hx
   have hik:=allLt_mem hk i hi
   obtain ⟨j,hj⟩:=List.getElem?_of_mem hy
   rw [List.getElem?_drop] at hj
   have b1:(L.map (·.1))[i]? = some x.1:=by rw [List.getElem?_map,nthE_get hix];rfl
   have b2:(L.map (·.1))[k+j]? = some x.1:=by rw [List.getElem?_map,hj];show some y.1=some x.1;rw [e]
   have:=(List.getElem?_inj (List.getElem?_eq_some_iff.1 b1).1 M.nd).1 (b1.trans b2.symm)
   omega
theorem Mem.nth {w0 w:World} {ex:Nat→Prop} {L:List (Nat×BA)} {g:Nat} {l:List Value} (M:Mem w0 ex w L) (i:Nat) (h:nthE L i=some (g,.cells l)):Bk w g l.toArray:=M.get (Zne h)
end
theorem evc {a:Act} {v:Value}:a.eval (.const v)=v:=rfl
theorem evf {a:Act} {f:FuncId}:a.eval (.func f)=.func (.func f) #[] #[]:=rfl
inductive EvL (a:Act):List Operand→List Value→Prop
 | nil:EvL a [] []
 | cons {x v xs vs}:a.eval x=v→EvL a xs vs→EvL a (x::xs) (v::vs)
theorem EvL.map {a:Act} {xs:List Operand} {vs:List Value} (h:EvL a xs vs):xs.map a.eval=vs:=by
 induction h with
 | nil=>rfl
 | cons h _ ih=>simp [h,ih]
inductive EvP (a:Act):List (Nat×Operand)→List (Nat×Value)→Prop
 | nil:EvP a [] []
 | cons {i x v xs vs}:a.eval x=v→EvP a xs vs→EvP a ((i,x)::xs) ((i,v)::vs)
theorem EvP.map {a:Act} {xs:List (Nat×Operand)} {vs:List (Nat×Value)} (h:EvP a xs vs):xs.map (fun p=>(p.1,a.eval p.2))=vs:=by
 induction h with
 | nil=>rfl
 | cons h _ ih=>simp [h,ih]
section
variable {df:List Deferred} {P:Program} {ops:Array Oper} {rest:List Oper} {op:Oper} {a:Act} {Q:Exit→Act→World→Prop} {w0 w:World} {ex:Nat→Prop} {L:List (Nat×BA)} {K:Act→World→Prop} {n t:Nat} {E:List (Nat×Value)} {v:Value}
abbrev Runs (P:Program) (op:Oper) (a:Act) (v:Value) (w:World):Prop:=(execOp a.eval op).run P w=.ok (.value v) w
theorem Zrm {x:Operand} (ho:op.op=.move x) (hx:a.eval x=v):Runs P op a v w:=by unfold Runs execOp;simp only [ho,hx,Sem.run_pure]
theorem Zra {x:Operand} (ho:op.op=.assign x) (hx:a.eval x=v):Runs P op a v w:=by unfold Runs execOp;simp only [ho,hx,Sem.run_pure]
theorem Zr1 {c x y:Operand} {b:Bool} (ho:op.op=.pick c x y) (hc:a.eval c=.bool b) (hb:b=true) (hx:a.eval x=v):Runs P op a v w:=by
 subst hb;unfold Runs execOp;simp [ho,hc,hx,asBool]
theorem Zr0 {c x y:Operand} {b:Bool} (ho:op.op=.pick c x y) (hc:a.eval c=.bool b) (hb:b=false) (hx:a.eval y=v):Runs P op a v w:=by
 subst hb;unfold Runs execOp;simp [ho,hc,hx,asBool]
theorem rn_bin {o:BinOp} {t t':TypeId} {x y:Operand} {u u':Value} (ho:op.op=.binOp o t x y t') (hx:a.eval x=u) (hy:a.eval y=u') (hr:(do eqGuard o t x y u u';binOp o t u u':Sem Value).run P w=.ok v w):Runs P op a v w:=by
 unfold Runs execOp
 simp only [ho,hx,hy]
 rw [Sem.run_bind,hr]
 rfl
theorem rn_add {t t':TypeId} {x y:Operand} {p q:Int} (ho:op.op=.binOp .add t x y t') (hx:a.eval x=.int .i64 p) (hy:a.eval y=.int .i64 q) (hb : -9223372036854775808≤p+q∧p+q≤9223372036854775807):Runs P op a (.int .i64 (p+q)) w :=
 rn_bin ho hx hy (by show Result.ok (Value.int .i64 (IntKind.i64.wrap (p+q))) w=_;rw [IntWalk.i64_in _ hb])
theorem rn_sub {t t':TypeId} {x y:Operand} {p q:Int} (ho:op.op=.binOp .sub t x y t') (hx:a.eval x=.int .i64 p) (hy:a.eval y=.int .i64 q) (hb : -9223372036854775808≤p - q∧p - q≤9223372036854775807):Runs P op a (.int .i64 (p - q)) w :=
 rn_bin ho hx hy (by show Result.ok (Value.int .i64 (IntKind.i64.wrap (p - q))) w=_;rw [IntWalk.i64_in _ hb])
theorem rn_mul {t t':TypeId} {x y:Operand} {p q:Int} (ho:op.op=.binOp .mul t x y t') (hx:a.eval x=.int .i64 p) (hy:a.eval y=.int .i64 q) (hb : -9223372036854775808≤p * q∧p * q≤9223372036854775807):Runs P op a (.int .i64 (p * q)) w :=
 rn_bin ho hx hy (by show Result.ok (Value.int .i64 (IntKind.i64.wrap (p * q))) w=_;rw [IntWalk.i64_in _ hb])
theorem rn_lss {k:IntKind} {t t':TypeId} {x y:Operand} {p q:Int} (ho:op.op=.binOp .lss t x y t') (hx:a.eval x=.int k p) (hy:a.eval y=.int k q):Runs P op a (.bool (decide (p < q))) w :=
 rn_bin ho hx hy (by cases k <;> rfl)
theorem rn_leq {k:IntKind} {t t':TypeId} {x y:Operand} {p q:Int} (ho:op.op=.binOp .leq t x y t') (hx:a.eval x=.int k p) (hy:a.eval y=.int k q):Runs P op a (.bool (decide (p≤q))) w :=
 rn_bin ho hx hy (by cases k <;> rfl)
theorem rn_gtr {k:IntKind} {t t':TypeId} {x y:Operand} {p q:Int} (ho:op.op=.binOp .gtr t x y t') (hx:a.eval x=.int k p) (hy:a.eval y=.int k q):Runs P op a (.bool (decide (q < p))) w :=
 rn_bin ho hx hy (by cases k <;> rfl)
theorem rn_geq {k:IntKind} {t t':TypeId} {x y:Operand} {p q:Int} (ho:op.op=.binOp .geq t x y t') (hx:a.eval x=.int k p) (hy:a.eval y=.int k q):Runs P op a (.bool (decide (q≤p))) w :=
 rn_bin ho hx hy (by cases k <;> rfl)
theorem rn_eql {k:IntKind} {t t':TypeId} {x y:Operand} {p q:Int} (ho:op.op=.binOp .eql t x y t') (hx:a.eval x=.int k p) (hy:a.eval y=.int k q):Runs P op a (.bool (decide (p=q))) w :=
 rn_bin ho hx hy (by cases k <;> rfl)
theorem neq_dec (p q:Int):(p != q) = !decide (p=q):=by by_cases h:p=q <;> simp [h]
theorem rn_neq {k:IntKind} {t t':TypeId} {x y:Operand} {p q:Int} (ho:op.op=.binOp .neq t x y t') (hx:a.eval x=.int k p) (hy:a.eval y=.int k q):Runs P op a (.bool (!decide (p=q))) w :=
 rn_bin ho hx hy (by rw [← neq_dec];cases k <;> rfl)
theorem rn_not {t:TypeId} {x:Operand} {p:Bool} (ho:op.op=.unOp .not t x) (hx:a.eval x=.bool p):Runs P op a (.bool (!p)) w:=by
 unfold Runs execOp;simp only [ho,hx];rfl
theorem rn_neg {t:TypeId} {x:Operand} {p:Int} (ho:op.op=.unOp .neg t x) (hx:a.eval x=.int .i64 p) (hb : -9223372036854775808≤-p∧-p≤9223372036854775807):Runs P op a (.int .i64 (-p)) w:=by
 unfold Runs execOp
 simp only [ho,hx]
 show Result.ok (Next.value (Value.int .i64 (IntKind.i64.wrap (0 - p)))) w=_
 rw [IntWalk.i64_in _ (by omega),Int.zero_sub]
theorem Zrf {s:TypeId} {x:Operand} {f g o off:Nat} (ho:op.op=.fieldAddr s x f) (hx:a.eval x=.pointer (some ⟨g,o,none⟩))
  (hr:∀ (g o:Nat) (w:World),(Instr.fieldAt s (.pointer (some ⟨g,o,none⟩)) f).run P w=.ok (.pointer (some ⟨g,o+off,none⟩)) w):Runs P op a (.pointer (some ⟨g,o+off,none⟩)) w:=by
 unfold Runs execOp
 simp only [ho,hx]
 rw [Sem.run_bind,hr]
 rfl
theorem Zri {s : TypeId} {x y : Operand} {g o size m c : Nat} {i : Int} {A : Option Addr} (k : Nat) (ho : op.op = .indexAddr s x y) (hx : a.eval x = .slice A m c) (hy : a.eval y = .int .i64 i)
   (hu:∃ e,P.underlying s=some (.slice e)∧(P.info? e).map (·.size)=some size) (hk:i=(k:Int)) (hm:k < m) (hA:A=some ⟨g,o,none⟩):Runs P op a (.pointer (some ⟨g,o+k * size,none⟩)) w:=by
 subst hA
 obtain ⟨e,hu,he⟩:=hu
 subst hk
 unfold Runs execOp
 simp only [ho,hx,hy]
 cases hi:P.info? e with
 | none=>rw [hi] at he;simp at he
 | some inf =>
   rw [hi] at he
   simp at he
   have hm':(k:Int) < (m:Int):=by omega
   simp [Instr.indexAt,asIntOf,Sem.run_bind,run_underlying,hu,sizeOf,typeInfo,hi,he,Addr.add,hm]
theorem Zre {x:Operand} {i:Nat} {vs:List Value} (ho:op.op=.extract x i) (hx:a.eval x=.tuple vs.toArray) (hv:nthE vs i=some v):Runs P op a v w:=by
 unfold Runs execOp
 simp only [ho,hx]
 have:vs.toArray[i]? = some v:=by rw [List.getElem?_toArray];exact nthE_get hv
 simp [Instr.extract,this]
theorem rn_build {ty:TypeId} {parts:List (Nat×Operand)} {vs:List (Nat×Value)} (ho:op.op=.build ty parts.toArray) (hv:EvP a parts vs) (hr:∀ w:World,(Instr.build ty vs.toArray).run P w=.ok v w):Runs P op a v w:=by
 unfold Runs execOp
 simp only [ho]
 have e:(parts.toArray.map fun x=>(x.1,a.eval x.2))=vs.toArray:=by simp [← hv.map]
 have e2:(parts.toArray.map fun (i,x)=>(i,a.eval x))=vs.toArray:=e
 rw [Sem.run_bind,e2,hr]
 rfl
theorem Zrl {x:Operand} {A:Option Addr} {m c:Nat} {ty e:TypeId} (ho:op.op=.call { callee:=.builtin .len,args:=#[x],argTypes:=#[ty] }) (hu:P.underlying ty=some (.slice e)) (hx:a.eval x=.slice A m c):Runs P op a (.int .i64 (m:Int)) w:=by
 unfold Runs execOp
 simp [ho,resolve,invoke,builtin,hx,Builtin.len_,Sem.run_bind,run_underlying,hu,goInt]
theorem rn_lenT {x:Operand} {s:ByteArray} {ty:TypeId} (ho:op.op=.call { callee:=.builtin .len,args:=#[x],argTypes:=#[ty] }) (hu:P.underlying ty=some .string) (hx:a.eval x=.string s):Runs P op a (.int .i64 (s.size:Int)) w:=by
 unfold Runs execOp
 simp [ho,resolve,invoke,builtin,hx,Builtin.len_,Sem.run_bind,run_underlying,hu,goInt]
theorem maxI (p q:Int):(if p < q then q else p)=max p q:=by rw [Int.max_def];split <;> split <;> omega
theorem minI (p q:Int):(if q < p then q else p)=min p q:=by rw [Int.min_def];split <;> split <;> omega
theorem rn_max2 {ts:Array TypeId} {x y:Operand} {p q:Int} (ho:op.op=.call { callee:=.builtin .max,args:=#[x,y],argTypes:=ts }) (hx:a.eval x=.int .i64 p) (hy:a.eval y=.int .i64 q):Runs P op a (.int .i64 (max p q)) w:=by
 unfold Runs execOp
 simp [ho,resolve,invoke,builtin,hx,hy,Builtin.max_,Builtin.max2,Sem.run_bind,maxI]
theorem rn_min2 {ts:Array TypeId} {x y:Operand} {p q:Int} (ho:op.op=.call { callee:=.builtin .min,args:=#[x,y],argTypes:=ts }) (hx:a.eval x=.int .i64 p) (hy:a.eval y=.int .i64 q):Runs P op a (.int .i64 (min p q)) w:=by
 unfold Runs execOp
 simp [ho,resolve,invoke,builtin,hx,hy,Builtin.min_,Builtin.min2,Sem.run_bind,minI]
theorem rn_max3 {ts:Array TypeId} {x y z:Operand} {p q r:Int} (ho:op.op=.call { callee:=.builtin .max,args:=#[x,y,z],argTypes:=ts }) (hx:a.eval x=.int .i64 p) (hy:a.eval y=.int .i64 q) (hz:a.eval z=.int .i64 r):Runs P op a (.int .i64 (max (max p q) r)) w:=by
 unfold Runs execOp
 simp [ho,resolve,invoke,builtin,hx,hy,hz,Builtin.max_,Builtin.max2,Sem.run_bind,maxI]
def sliceO {α:Type}:Nat→Nat→List α→Option (List α)
 | _,0,_=>some []
 | _,_+1,[]=>none
 | 0,n+1,x::r=>match sliceO 0 n r with
  | none=>none
  | some q=>some (x::q)
 | o+1,n+1,_::r=>sliceO o (n+1) r
theorem sliceO_eq {α:Type}:∀ {o n:Nat} {l ds:List α},sliceO o n l=some ds→n≠0→(l.drop o).take n=ds∧o+n≤l.length
 | o,0,l,ds,h,hn=>absurd rfl hn
 | o,n+1,[],ds,h,_=>by cases o <;> simp [sliceO] at h
 | 0,1,x::r,ds,h,_=>by simp [sliceO] at h;subst h;simp
 | 0,n+2,x::r,ds,h,_=>by
  unfold sliceO at h
  cases h2:sliceO 0 (n+1) r with
  | none=>rw [h2] at h;cases h
  | some q =>
   rw [h2] at h
   simp only [Option.some.injEq] at h
   obtain ⟨h3,h4⟩:=sliceO_eq h2 (by simp)
   subst h
   subst h3
   simp only [List.drop_zero,List.length_cons] at h4 ⊢
   exact ⟨by simp,by omega⟩
 | o+1,n+1,x::r,ds,h,_=>by
  unfold sliceO at h
  obtain ⟨h3,h4⟩:=sliceO_eq h (by simp)
  simp only [List.length_cons,List.drop_succ_cons]
  exact ⟨h3,by omega⟩
theorem Zrr {ty:TypeId} {m:Nat} [hT:RowTy P ty (m+1)] {x:Operand} {g o:Nat} {cs ds:List Value} (hB:Bk w g cs.toArray) (ho:op.op=.load ty x) (hx:a.eval x=.pointer (some ⟨g,o,none⟩)) (hd:sliceO o (m+1) cs=some ds):Runs P op a (.agg ds.toArray) w:=by
 obtain ⟨h1,h2⟩:=sliceO_eq hd (by simp)
 exact rn_row hB ho hx h1 (by rw [Nat.ble_eq];exact h2)
theorem rn_cell {ty:TypeId} [OneTy P ty] {x:Operand} {p:Addr} (hc:w.cell? p=some v) (ho:op.op=.load ty x) (hx:a.eval x=.pointer (some p)):Runs P op a v w:=by
 obtain ⟨d,hu,hr⟩:=OneTy.one (P:=P) (t:=ty)
 have ha:(isAgg ty).run P w=.ok false w:=by
  unfold isAgg
  simp only [Sem.run_bind,run_underlying hu,Result.andThen_ok]
  cases d <;> first | rfl | (simp [TypeDesc.isRow] at hr)
 unfold Runs execOp
 simp only [ho,hx,Instr.loadAt,Instr.sureAddr,Sem.run_bind,Sem.run_pure,Result.andThen_ok]
 unfold loadVar
 simp only [Sem.run_bind,ha,Result.andThen_ok]
 simp [load,Sem.run,hc]
theorem rn_rowat {ty:TypeId} {m:Nat} [hT:RowTy P ty m] {x:Operand} {g o:Nat} {ds:List Value} (hc:w.rangeAt g o ds) (ho:op.op=.load ty x) (hx:a.eval x=.pointer (some ⟨g,o,none⟩)) (hm:ds.length=m):Runs P op a (.agg ds.toArray) w:=by
 obtain ⟨d,hu,hr⟩:=hT.row
 have:=run_loadVar_mid w g o ty ds d hc hu hr (by rw [hm];exact hT.size)
 unfold Runs execOp
 simp only [ho,hx,Instr.loadAt,Instr.sureAddr,Sem.run_bind,Sem.run_pure,Result.andThen_ok,this]
theorem rn_ofI {k:IntKind} {p q:Int} (h:Runs P op a (.int k p) w) (e:p=q):Runs P op a (.int k q) w:=e ▸ h
theorem Zrq {b:Bool} (h:Runs P op a (.bool b) w) {c:Bool} (e:b=c):Runs P op a (.bool c) w:=e ▸ h
theorem Zwy {j:Nat} {c:Bool} {b:Bool} (hg:op.guard=some (j,c)) (hj:(ops[j]?).bind (·.dst)=some t) (he:a.eval (.tmp t)=.bool b) (hb:b=c):Region.wanted op (yielded ops a.tmps)=true:=by
 subst hb
 have:a.tmps[t]? = some (.bool b):=by
   have he:a.tmps.getD t undef=.bool b:=he
   cases h:a.tmps[t]? with
   | none=>simp [h,undef] at he
   | some x=>simp [h] at he;rw [he]
 simp [Region.wanted,hg,yielded,hj,this]
theorem Zwu {j:Nat} {c:Bool} (hg:op.guard=some (j,c)) (hj:(ops[j]?).bind (·.dst)=some t) (he:a.eval (.tmp t)=undef):Region.wanted op (yielded ops a.tmps)=false:=by
 have he:a.tmps.getD t undef=undef:=he
 have:yielded ops a.tmps j=none:=by
   unfold yielded
   rw [hj]
   simp only [Option.bind_some]
   cases h:a.tmps[t]? with
   | none=>rfl
   | some x=>simp [h] at he;rw [he];rfl
 simp only [Region.wanted,hg,this]
 rfl
theorem Zwn {j:Nat} {c:Bool} {b:Bool} (hg:op.guard=some (j,c)) (hj:(ops[j]?).bind (·.dst)=some t) (he:a.eval (.tmp t)=.bool b) (hb:b = !c):Region.wanted op (yielded ops a.tmps)=false:=by
 subst hb
 have:a.tmps[t]? = some (.bool !c):=by
   have he:a.tmps.getD t undef=.bool !c:=he
   cases h:a.tmps[t]? with
   | none=>simp [h,undef] at he
   | some x=>simp [h] at he;rw [he]
 simp only [Region.wanted,hg,yielded,hj,Option.bind_some,this]
 cases c <;> rfl
theorem l_q (T:TmD df a n E) (hw:Region.wanted op (yielded ops a.tmps)=true) (hd:op.dst=some t) (hf:freshE E t=true) (hn:Nat.blt t n=true) (hr:Runs P op a v w)
  (h:∀ a',TmD df a' n ((t,v)::E)→wpList P ops Q rest a' w):wpList P ops Q (op::rest) a w :=
 wpList_wanted hw fun _ hK=>by
  unfold Oper.wp
  unfold Runs at hr
  rw [hr,Oper.upon_value,hd]
  exact hK _ _ (h _ (T.put hn hf v))
theorem lq (T:TmD df a n E) (hr:Runs P op a v w) (h:∀ a',TmD df a' n ((t,v)::E)→wpList P ops Q rest a' w)
  (hw:Region.wanted op (yielded ops a.tmps)=true:=by rfl) (hd:op.dst=some t:=by rfl) (hf:freshE E t=true:=by rfl) (hn:Nat.blt t n=true:=by rfl):wpList P ops Q (op::rest) a w:=l_q T hw hd hf hn hr h
theorem lw (T:TmD df a n E) (hw:Region.wanted op (yielded ops a.tmps)=true) (hr:Runs P op a v w) (h:∀ a',TmD df a' n ((t,v)::E)→wpList P ops Q rest a' w)
  (hd:op.dst=some t:=by rfl) (hf:freshE E t=true:=by rfl) (hn:Nat.blt t n=true:=by rfl):wpList P ops Q (op::rest) a w:=l_q T hw hd hf hn hr h
theorem l_pass (T:TmD df a n E) (hw:Region.wanted op (yielded ops a.tmps)=false) (hd:op.dst=some t) (hf:freshE E t=true) (hn:Nat.blt t n=true) (h:∀ a',TmD df a' n ((t,undef)::E)→wpList P ops Q rest a' w):wpList P ops Q (op::rest) a w :=
 wpList_step fun K hK=>by
  rw [if_neg (by rw [hw];simp),hd]
  exact hK _ _ (h _ (T.put hn hf _))
theorem lp (T:TmD df a n E) (hw:Region.wanted op (yielded ops a.tmps)=false) (h:∀ a',TmD df a' n ((t,undef)::E)→wpList P ops Q rest a' w)
  (hd:op.dst=some t:=by rfl) (hf:freshE E t=true:=by rfl) (hn:Nat.blt t n=true:=by rfl):wpList P ops Q (op::rest) a w:=l_pass T hw hd hf hn h
theorem l_w (hw:Region.wanted op (yielded ops a.tmps)=true) (h:∀ K:Act→World→Prop,Shut (∀ a w,wpList P ops Q rest a w→K a w)→op.wp P a w K Q):wpList P ops Q (op::rest) a w :=
 wpList_wanted hw fun K hK=>h K hK
theorem Zoa {ty:TypeId} {l:List Value} [ZeroTy P ty l] (M:Mem w0 ex w L) (T:TmD df a n E) (ho:op.op=.alloc ty) (hd:op.dst=some t) (hf:freshE E t=true) (hn:Nat.blt t n=true)
  (h:∀ g w' a',Mem w0 ex w' ((g,.cells l)::L)→TmD df a' n ((t,.pointer (some ⟨g,0,none⟩))::E)→K a' w'):op.wp P a w K Q :=
 m_alw M ho fun g w' M'=>h g w' _ M' (by rw [hd];exact T.put hn hf _)
theorem Zob {ty:TypeId} {x:Operand} {l:List Value} (M:Mem w0 ex w L) (T:TmD df a n E) (ho:op.op=.box ty x) (hd:op.dst=some t) (hf:freshE E t=true) (hn:Nat.blt t n=true) (hx:a.eval x=v) (hv:v.cells=l.toArray)
  (h:∀ g w' a',Mem w0 ex w' ((g,.cells l)::L)→TmD df a' n ((t,.pointer (some ⟨g,0,none⟩))::E)→K a' w'):op.wp P a w K Q:=by
 unfold Oper.wp execOp
 simp only [ho,hx,Instr.box,Sem.run_bind,Sem.run_pure,Result.andThen_ok,newVar,newRow,run_newObj_alloc,hv]
 exact h _ _ _ (M.new l ty) (by rw [hd];exact T.put hn hf _)
theorem ow_bs {ty len e:TypeId} {parts:List (Nat×Operand)} {vs:List (Nat×Value)} (l:List Value) (M:Mem w0 ex w L) (T:TmD df a n E) (ho:op.op=.buildSlice ty len parts.toArray) (hd:op.dst=some t) (hf:freshE E t=true) (hn:Nat.blt t n=true) (hv:EvP a parts vs)
  (hr:∀ w:World,(Instr.buildSlice ty len vs.toArray).run P w=.ok (.slice (some ⟨w.heap.size,0,none⟩) len len) (w.alloc (.cells l.toArray e)))
  (h:∀ g w' a',Mem w0 ex w' ((g,.cells l)::L)→TmD df a' n ((t,.slice (some ⟨g,0,none⟩) len len)::E)→K a' w'):op.wp P a w K Q:=by
 unfold Oper.wp execOp
 simp only [ho]
 have e:(parts.toArray.map fun x=>(x.1,a.eval x.2))=vs.toArray:=by simp [← hv.map]
 have e2:(parts.toArray.map fun (i,x)=>(i,a.eval x))=vs.toArray:=e
 rw [Sem.run_bind,e2,hr]
 exact h _ _ _ (M.new l _) (by rw [hd];exact T.put hn hf _)
def storeO {α:Type}:List α→Nat→List α→Option (List α)
 | l,_,[]=>some l
 | [],_,_::_=>none
 | _::r,0,d::ds=>match storeO r 0 ds with
  | none=>none
  | some q=>some (d::q)
 | x::r,o+1,d::ds=>match storeO r o (d::ds) with
  | none=>none
  | some q=>some (x::q)
theorem storeO_eq {α:Type}:∀ {l:List α} {o:Nat} {ds l':List α},storeO l o ds=some l'→ds≠[]→o+ds.length≤l.length∧l'=l.take o++ds++l.drop (o+ds.length)
 | l,o,[],l',h,hn=>absurd rfl hn
 | [],o,d::ds,l',h,_=>by simp [storeO] at h
 | x::r,0,[d],l',h,_=>by
  cases r with
  | nil=>simp [storeO] at h;subst h;simp
  | cons y r=>simp [storeO] at h;subst h;simp
 | x::r,0,d::d2::ds,l',h,_=>by
  unfold storeO at h
  cases h2:storeO r 0 (d2::ds) with
  | none=>rw [h2] at h;cases h
  | some q =>
   rw [h2] at h
   simp only [Option.some.injEq] at h
   obtain ⟨h3,h4⟩:=storeO_eq h2 (by simp)
   subst h
   subst h4
   simp only [List.length_cons] at h3 ⊢
   refine ⟨by omega,?_⟩
   simp only [List.take_zero,List.nil_append,Nat.zero_add,List.cons_append,List.drop_succ_cons,List.length_cons]
 | x::r,o+1,d::ds,l',h,_=>by
  unfold storeO at h
  cases h2:storeO r o (d::ds) with
  | none=>rw [h2] at h;cases h
  | some q =>
   rw [h2] at h
   simp only [Option.some.injEq] at h
   obtain ⟨h3,h4⟩:=storeO_eq h2 (by simp)
   subst h
   subst h4
   simp only [List.length_cons] at h3 ⊢
   refine ⟨by omega,?_⟩
   rw [show o+1+(ds.length+1)=(o+(ds.length+1))+1 by omega]
   simp only [List.take_succ_cons,List.cons_append,List.drop_succ_cons]
theorem Zos {ty : TypeId} {x y : Operand} {g o : Nat} {cs ds cs' : List Value} {L' : List (Nat × BA)} (M : Mem w0 ex w L) (T : TmD df a n E) (ho : op.op = .store ty x y) (hd : op.dst = none) (hx : a.eval x = .pointer (some ⟨g, o, none⟩)) (hy : a.eval y = v) (hv : v.cells = ds.toArray)
   (hu:Upd L g (.cells cs) (.cells cs') L') (hc:storeO cs o ds=some cs') (hne:ds≠[]) (h1:ds.all (·.oneCell')=true) (hi:(P.info? ty).map (·.size)=some ds.length)
   (h:∀ w' a',Mem w0 ex w' L'→TmD df a' n E→K a' w'):op.wp P a w K Q:=by
 obtain ⟨h2,h3⟩:=storeO_eq hc hne
 exact m_stw M ho hx hy hv hu h3.symm h2 h1 hi fun w' M'=>h w' _ M' (by rw [hd];exact T)
def RetK (next:Value→World→Prop):Ending→World→Prop
 | .returned v,w=>next v w
 | _,_=>False
theorem Zoc {x:Operand} {xs:List Operand} {ts:Array TypeId} {f:FuncId} {first cap vs:List Value} {fn:Func} (T:TmD df a n E) (ho:op.op=.call { callee:=.value x,args:=xs.toArray,argTypes:=ts }) (hd:op.dst=some t) (hf:freshE E t=true) (hn:Nat.blt t n=true)
  (hx : a.eval x = .func (.func f) first.toArray cap.toArray) (hv : EvL a xs vs) (hfn : P.funcs[f]? = some fn) (hnm : (fn.name == "runtime.NumGoroutine") = false) (hb : fn.body.isNone = false)
  (h:Calls P f (first++vs++cap).toArray w (RetK fun v w'=>∀ a',TmD df a' n ((t,v)::E)→K a' w')):op.wp P a w K Q:=by
 have e:(xs.toArray.map a.eval)=vs.toArray:=by simp [← hv.map]
 have hrun:(execOp a.eval op).run P w=.ok (.enter f (first++vs++cap).toArray) w:=by
  have hne : fn.name ≠ "runtime.NumGoroutine" := by simpa using hnm
  have hb2:fn.body≠none:=fun h=>by rw [h] at hb;cases hb
  unfold execOp
  simp [ho,resolve,invoke,Deferred.ofValue,hx,hv.map,callFunc,hfn,hb2,hne,Sem.run_bind]
 unfold Oper.wp
 rw [hrun,Oper.upon_enter]
 refine h.mono fun e w' hh=>?_
 cases e with
 | returned v=>exact (hd ▸ hh _ (T.put hn hf v):K (a.put op.dst v) w')
 | panicked c=>exact hh.elim
 | outgrown=>exact hh.elim
def Zpb:Nat→Nat→Array Bool:=fun n m=>((List.range n).map fun i=>m.testBit i).toArray
section
variable {S:Array Bool→World→Prop} {fuel:Nat} {l l':Array Bool} {i:Nat} {oi:Oper}
theorem wpAnyS_more {S':Array Bool→World→Prop} (hm:∀ L w,S' L w→S L w):∀ (fuel:Nat) (listed:Array Bool) (a:Act) (w:World),wpAnyS P ops Q S' fuel listed a w→wpAnyS P ops Q S fuel listed a w
 | 0,_,_,_,h=>h
 | fuel+1,_,_,_,h=>⟨h.1,fun i hi=>wpOp_mono (fun a' w' h'=>⟨hm _ _ h'.1,wpAnyS_more hm fuel _ a' w' h'.2⟩) (h.2 i hi)⟩
theorem g_start (S:Array Bool→World→Prop) (m:Nat) {id:Nat} (hm:P.follows .mixedOrders=true) (hn:ops.size=m) (hz:Array.replicate m false=Zpb m 0) (hS:S (Zpb m 0) w.drew)
  (h:wpG P ops Q S m (Zpb m 0) a w.drew):(Code.region id ops true).wp P Q a w:=by
 subst hn
 rw [← hz] at hS h
 exact wp_region_any hm (wpAny_of_S _ _ _ _ (h DC.start hS))
theorem g_add (p:Array Bool→World→Prop) (h0:p l w) (h:wpG P ops Q (fun L W=>p L W∧S L W) fuel l a w):wpG P ops Q S fuel l a w :=
 fun hD hS=>wpAnyS_more (fun _ _ h=>h.2) _ _ _ _ (h hD ⟨h0,hS⟩)
def MU (w0:World) (ex:Nat→Prop) (L:List (Nat×BA)):Array Bool→World→Prop:=fun _ W=>Mem w0 ex W L
def MG (s:Nat) (w0:World) (ex:Nat→Prop) (L:List (Nat×BA)):Array Bool→World→Prop:=fun B W=>B.getD s true=false→Mem w0 ex W L
theorem Zgs {Lc:List (Nat×BA)} (M:Mem w0 ex w L) (Mc:Mem w0 ex w Lc) (m:Nat) {id:Nat} (hm:P.follows .mixedOrders=true) (hn:ops.size=m) (hz:Array.replicate m false=Zpb m 0)
  (h:∀ w',Mem w0 ex w' L→wpG P ops Q (MU w0 ex Lc) m (Zpb m 0) a w'):(Code.region id ops true).wp P Q a w:=g_start _ m hm hn hz Mc.drew (h _ M.drew)
def MA (p q:Array Bool→World→Prop):Array Bool→World→Prop:=fun B W=>p B W∧q B W
theorem MA.lft {p q:Array Bool→World→Prop} {B:Array Bool} {W:World} (h:MA p q B W):p B W:=h.1
theorem MA.rgt {p q:Array Bool→World→Prop} {B:Array Bool} {W:World} (h:MA p q B W):q B W:=h.2
theorem MA.mk {p q:Array Bool→World→Prop} {B:Array Bool} {W:World} (h:p B W) (h':q B W):MA p q B W:=⟨h,h'⟩
theorem g_addG (s:Nat) (M:Mem w0 ex w L) (h:wpG P ops Q (MA (MG s w0 ex L) S) fuel l a w):wpG P ops Q S fuel l a w:=g_add (MG s w0 ex L) (fun _=>M) h
theorem si_U:∀ (B:Array Bool) W,MU w0 ex L (B.setIfInBounds i true) W↔MU w0 ex L B W:=fun _ _=>Iff.rfl
theorem si_G {s:Nat} (h:Nat.beq i s=false):∀ (B:Array Bool) W,MG s w0 ex L (B.setIfInBounds i true) W↔MG s w0 ex L B W:=fun B W=>by
 unfold MG
 rw [getD_set_ne true (fun e=>by subst e;simp at h)]
theorem si_and {p q:Array Bool→World→Prop} (hp:∀ B W,p (B.setIfInBounds i true) W↔p B W) (hq:∀ B W,q (B.setIfInBounds i true) W↔q B W) :
  ∀ (B:Array Bool) W,MA p q (B.setIfInBounds i true) W↔MA p q B W:=fun B W=>and_congr (hp B W) (hq B W)
theorem g_q (T:TmD df a n E) (hi:ops[i]? = some oi) (hs:(Region.noSelect ops && Region.free .any ops l i && (Region.ready .any ops l).contains i)=true) (hl:l.setIfInBounds i true=l')
  (hSi:∀ L w,S (L.setIfInBounds i true) w↔S L w) (hQ:∀ c a w,Q (.panic c) (a.put oi.dst v) w→Q (.panic c) a w)
  (hw:Region.wanted oi (yielded ops a.tmps)=true) (hd:oi.dst=some t) (hf:freshE E t=true) (hn:Nat.blt t n=true)
  (hr:∀ L w',DC ops L→L.getD i true=false→S L w'→Runs P oi a v w') (h:∀ a',TmD df a' n ((t,v)::E)→wpG P ops Q S fuel l' a' w):wpG P ops Q S (fuel+1) l a w :=
 wpG_take hi hs hSi hQ (.inl ⟨hw,fun w' hy=>by obtain ⟨L,h1,h2,h3⟩:=hy;exact hr L w' h1 h2 h3⟩) (by rw [hl,hd];exact h _ (T.put hn hf v))
theorem g_pass (T:TmD df a n E) (hi:ops[i]? = some oi) (hs:(Region.noSelect ops && Region.free .any ops l i && (Region.ready .any ops l).contains i)=true) (hl:l.setIfInBounds i true=l')
  (hSi:∀ L w,S (L.setIfInBounds i true) w↔S L w) (hQ:∀ c a w,Q (.panic c) (a.put oi.dst undef) w→Q (.panic c) a w)
  (hw:Region.wanted oi (yielded ops a.tmps)=false) (hd:oi.dst=some t) (hf:freshE E t=true) (hn:Nat.blt t n=true) (h:∀ a',TmD df a' n ((t,undef)::E)→wpG P ops Q S fuel l' a' w):wpG P ops Q S (fuel+1) l a w :=
 wpG_take hi hs hSi hQ (.inr ⟨hw,rfl⟩) (by rw [hl,hd];exact h _ (T.put hn hf _))
theorem g_w (hr:Region.ready .any ops l=[i]) (ho:ops[i]? = some oi) (hl:l.setIfInBounds i true=l') (hw:Region.wanted oi (yielded ops a.tmps)=true)
  (h:∀ K':Act→World→Prop,Shut (∀ a w,S l' w→wpG P ops Q S fuel l' a w→K' a w)→oi.wp P a w K' Q):wpG P ops Q S (fuel+1) l a w :=
 wpG_one hr ho hw fun _ K' hK=>by subst hl;exact h K' hK
def wpGi (P:Program) (ops:Array Oper) (Q:Exit→Act→World→Prop) (S:Array Bool→World→Prop) (fuel:Nat) (l:Array Bool) (i:Nat) (a:Act) (w:World):Prop :=
 DC ops (l.setIfInBounds i true)→wpOp P ops Q i (fun a' w'=>S (l.setIfInBounds i true) w'∧wpAnyS P ops Q S fuel (l.setIfInBounds i true) a' w') a w
theorem g_m2 {j:Nat} (hr:Region.ready .any ops l=[i,j]) (h:wpGi P ops Q S fuel l i a w) (h':wpGi P ops Q S fuel l j a w):wpG P ops Q S (fuel+1) l a w:=fun hD _ =>
 ⟨fun h0=>(by rw [hr] at h0;cases h0),fun k hk=>by
  have hk':=hk
  rw [hr] at hk'
  simp only [List.mem_cons,List.not_mem_nil,or_false] at hk'
  rcases hk' with rfl | rfl
  ·exact h (hD.step hk)
  ·exact h' (hD.step hk)⟩
theorem g_m3 {j k:Nat} (hr:Region.ready .any ops l=[i,j,k]) (h:wpGi P ops Q S fuel l i a w) (h':wpGi P ops Q S fuel l j a w) (h'':wpGi P ops Q S fuel l k a w):wpG P ops Q S (fuel+1) l a w:=fun hD _ =>
 ⟨fun h0=>(by rw [hr] at h0;cases h0),fun m hk=>by
  have hk':=hk
  rw [hr] at hk'
  simp only [List.mem_cons,List.not_mem_nil,or_false] at hk'
  rcases hk' with rfl | rfl | rfl
  ·exact h (hD.step hk)
  ·exact h' (hD.step hk)
  ·exact h'' (hD.step hk)⟩
theorem g_i (ho:ops[i]? = some oi) (hl:l.setIfInBounds i true=l') (hw:Region.wanted oi (yielded ops a.tmps)=true)
  (h:∀ K':Act→World→Prop,Shut (∀ a w,S l' w→wpG P ops Q S fuel l' a w→K' a w)→oi.wp P a w K' Q):wpGi P ops Q S fuel l i a w:=fun hD=>by
 subst hl
 refine wpOp_step ho (fun K' hK=>?_)
 rw [if_pos hw]
 exact h K' (fun a w hS' hW=>hK a w ⟨hS',hW hD hS'⟩)
theorem gq (T:TmD df a n E) (i b':Nat) {m b:Nat} (hi:ops[i]? = some oi) (hr:∀ L w',DC ops L→L.getD i true=false→S L w'→Runs P oi a v w') (h:∀ a',TmD df a' n ((t,v)::E)→wpG P ops Q S fuel (Zpb m b') a' w)
  (hs:(Region.noSelect ops && Region.free .any ops (Zpb m b) i && (Region.ready .any ops (Zpb m b)).contains i)=true:=by kernel_rfl) (hl:(Zpb m b).setIfInBounds i true=Zpb m b':=by kernel_rfl)
  (hSi:∀ L w,S (L.setIfInBounds i true) w↔S L w:=by repeat' (first | exact si_U | exact si_G rfl | refine si_and ?_ ?_)) (hQ:∀ c a w,Q (.panic c) (a.put oi.dst v) w→Q (.panic c) a w:=by exact fun _ _ _ h=>h)
  (hw:Region.wanted oi (yielded ops a.tmps)=true:=by rfl) (hd:oi.dst=some t:=by rfl) (hf:freshE E t=true:=by rfl) (hn:Nat.blt t n=true:=by rfl):wpG P ops Q S (fuel+1) (Zpb m b) a w :=
 g_q T hi hs hl hSi hQ hw hd hf hn hr h
theorem gw (i b':Nat) {m b:Nat} (h:∀ K':Act→World→Prop,Shut (∀ a w,S (Zpb m b') w→wpG P ops Q S fuel (Zpb m b') a w→K' a w)→oi.wp P a w K' Q)
  (hr:Region.ready .any ops (Zpb m b)=[i]:=by kernel_rfl) (ho:ops[i]? = some oi:=by rfl) (hl:(Zpb m b).setIfInBounds i true=Zpb m b':=by kernel_rfl) (hw:Region.wanted oi (yielded ops a.tmps)=true:=by rfl):wpG P ops Q S (fuel+1) (Zpb m b) a w:=g_w hr ho hl hw h
theorem gi (b':Nat) {m b:Nat} (h:∀ K':Act→World→Prop,Shut (∀ a w,S (Zpb m b') w→wpG P ops Q S fuel (Zpb m b') a w→K' a w)→oi.wp P a w K' Q)
  (ho:ops[i]? = some oi:=by rfl) (hl:(Zpb m b).setIfInBounds i true=Zpb m b':=by kernel_rfl) (hw:Region.wanted oi (yielded ops a.tmps)=true:=by rfl):wpGi P ops Q S fuel (Zpb m b) i a w:=g_i ho hl hw h
theorem Zgd (hr:Region.ready .any ops l=[]) (h:Q .normal a w):wpG P ops Q S fuel l a w:=wpG_done hr fun _=>h
end
theorem g_have {P:Program} {ops:Array Oper} {Q:Exit→Act→World→Prop} {S:Array Bool→World→Prop} {fuel:Nat} {l:Array Bool} {a:Act} {w:World} (I:Act→World→Prop) (l':Array Bool) (fuel':Nat)
  (h2:∀ a w,I a w→wpG P ops Q S fuel' l' a w) (h1:(∀ a w,I a w→wpG P ops Q S fuel' l' a w)→wpG P ops Q S fuel l a w):wpG P ops Q S fuel l a w:=h1 h2
theorem wp_if {c:Operand} {x y:Code} {p:Prop} [Decidable p] (hc:a.eval c=.bool (decide p)) (ht:p→x.wp P Q a w) (hf : ¬ p→y.wp P Q a w):(Code.cond c x y).wp P Q a w :=
 wp_cond_split hc (fun h=>ht (of_decide_eq_true h)) (fun h=>hf (of_decide_eq_false h))
theorem wp_ifn {c:Operand} {x y:Code} {p:Prop} [Decidable p] (hc:a.eval c=.bool (!decide p)) (ht : ¬ p→x.wp P Q a w) (hf:p→y.wp P Q a w):(Code.cond c x y).wp P Q a w :=
 wp_cond_split hc (fun h=>ht (by simpa using h)) (fun h=>hf (by simpa using h))
theorem nm_then {K:Act→World→Prop} (h:K a w):Exit.then K Q .normal a w:=h
theorem Zrt {K:Act→World→Prop} (h:Q .ret a w):Exit.then K Q .ret a w:=h
theorem Zrb {id:Nat} (h:Q .ret a w):Exit.inBlock id Q .ret a w:=h
theorem Znb {id:Nat} (h:Q .normal a w):Exit.inBlock id Q .normal a w:=h
theorem Zso {p:Prop} (h:Shut p):p:=h
def numE:Nat→List Value→List (Nat×Value)
 | _,[]=>[]
 | k,v::r=>(k,v)::numE (k+1) r
theorem numE_get:∀ (l:List Value) (k:Nat) (p:Nat×Value),p∈numE k l→∃ i,p.1=k+i∧l[i]? = some p.2
 | [],_,p,h=>by cases h
 | v::r,k,p,h=>by
  rcases List.mem_cons.1 h with rfl | h
  ·exact ⟨0,rfl,rfl⟩
  ·obtain ⟨i,h1,h2⟩:=numE_get r (k+1) p h
   exact ⟨i+1,by omega,by simpa using h2⟩
theorem Zpx {f:FuncId} {fn:Func} {c:Code} {args:Array Value} {R:Ending→World→Prop} (ex:Nat→Prop) (hf:P.funcs[f]? = some fn) (hb:fn.body=some c) (n:Nat) (hn:fn.ntmps=n) (vs:List Value) (ha:args=vs.toArray) (hle:Nat.ble vs.length n=true)
  {L:List (Nat×BA)} (M:Mem w ex w L)
  (h:∀ a w',Tm a n (numE 0 vs)→Mem w ex w' L→c.wp P (bodyPost P fn R) a w'):Calls P f args w R:=by
 subst ha
 have hle:=Nat.le_of_ble_eq_true hle
 refine calls_of_wp hf hb (h _ _ ⟨rfl,?_,fun p hp=>?_⟩ M)
 ·simp [hn];omega
 ·obtain ⟨i,h1,h2⟩:=numE_get vs 0 p hp
  have hi:i < vs.length:=(List.getElem?_eq_some_iff.1 h2).1
  have e:p.1=i:=by omega
  rw [e]
  have h3:(vs.toArray++Array.replicate (fn.ntmps - vs.toArray.size) undef)[i]? = some p.2:=by
   rw [Array.getElem?_append_left (by simpa using hi)]
   simpa using h2
  show (vs.toArray++Array.replicate (fn.ntmps - vs.toArray.size) undef).getD i undef=p.2
  simp only [Array.getD_eq_getD_getElem?,h3,Option.getD_some]
structure Sp (w:World) (ex:Nat→Prop) (I:List (Nat×BA)) (A:Option Addr) (n size b o:Nat) (xs:List Value):Prop where
 at0:0 < n→A=some ⟨b,o,none⟩
 len:xs.length=n * size
 lt:∀ w' L,Mem w ex w' L→I.Sublist L→0 < n→b < w'.heap.size
 cell:∀ w' L,Mem w ex w' L→I.Sublist L→∀ j u,xs[j]? = some u→w'.cell? ⟨b,o+j,none⟩=some u
theorem Sp.old {w:World} {size n:Nat} {A:Option Addr} {xs:List Value} (h:Rd w w.heap.size size A n xs):∃ b o,Sp w noEx [] A n size b o xs:=by
 rcases Nat.eq_zero_or_pos n with rfl | hn
 ·refine ⟨0,0,by omega,h.1,fun _ _ _ _ h=>absurd h (by omega),fun _ _ _ _ j u hu=>?_⟩
  have:xs=[]:=List.eq_nil_of_length_eq_zero (by have:=h.1;omega)
  simp [this] at hu
 ·obtain ⟨b,o,h1,h2,h3⟩:=h.2 hn
  exact ⟨b,o,fun _=>h1,h.1,fun w' L M _ _=>Nat.lt_of_lt_of_le h2 M.size,fun w' L M _ j u hu=>(M.below.cell (p:=⟨b,o+j,none⟩) h2).trans (h3 j u hu)⟩
theorem Sp.row {w:World} {ex:Nat→Prop} {e size n g cap:Nat} {xs:List Value} (hl:xs.length=n * size):Sp w ex [(g,.row e size n xs cap)] (some ⟨g,0,none⟩) n size g 0 xs :=
 ⟨fun _=>rfl,hl,fun w' L M hI _=>BA.lt (M.blk _ (hI.subset List.mem_cons_self)).2,fun w' L M hI j u hu=>by
  have hr:=M.rdRow (hI.subset List.mem_cons_self)
  have hn:0 < n:=by
   rcases Nat.eq_zero_or_pos n with h | h
   ·have:xs=[]:=List.eq_nil_of_length_eq_zero (by rw [hl,h,Nat.zero_mul])
    simp [this] at hu
   ·exact h
  obtain ⟨b,o,e1,_,h3⟩:=hr.2 hn
  injection e1 with e1
  injection e1 with e1 e2 _
  subst e1
  subst e2
  exact h3 j u hu⟩
theorem Sp.cells {w:World} {ex:Nat→Prop} {size n g:Nat} {xs:List Value} (hl:xs.length=n * size):Sp w ex [(g,.cells xs)] (some ⟨g,0,none⟩) n size g 0 xs :=
 ⟨fun _=>rfl,hl,fun w' L M hI _=>BA.lt (M.blk _ (hI.subset List.mem_cons_self)).2,fun w' L M hI j u hu=>by
  have hb:=M.get (hI.subset List.mem_cons_self)
  rw [hb.cell,Nat.zero_add]
  simpa using hu⟩
theorem Sp.nil {w:World} {ex:Nat→Prop} {size b o:Nat} {A:Option Addr}:Sp w ex [] A 0 size b o [] :=
 ⟨fun h=>absurd h (by omega),by simp,fun _ _ _ _ h=>absurd h (by omega),fun _ _ _ _ j u hu=>by simp at hu⟩
theorem Sp.rd {w w':World} {ex:Nat→Prop} {I L:List (Nat×BA)} {size n b o:Nat} {A:Option Addr} {xs:List Value} (S:Sp w ex I A n size b o xs) (M:Mem w ex w' L) (hI:I.Sublist L):Rd w' w'.heap.size size A n xs :=
 ⟨S.len,fun h=>⟨b,o,S.at0 h,S.lt w' L M hI h,S.cell w' L M hI⟩⟩
theorem Mem.swapI {w0 w:World} {ex:Nat→Prop} {I L:List (Nat×BA)} (M:Mem w0 ex w (I++L)):Mem w0 ex w (L++I) :=
 ⟨M.os,M.tape,M.output,M.size,M.block,fun p hp=>M.blk p (by rcases List.mem_append.1 hp with h | h;exact List.mem_append_right _ h;exact List.mem_append_left _ h),by
  have h:=M.nd
  rw [List.map_append] at h ⊢
  obtain ⟨h1,h2,h3⟩:=List.nodup_append.1 h
  exact List.nodup_append.2 ⟨h2,h1,fun a ha b hb e=>h3 b hb a ha e.symm⟩⟩
section
variable {w w':World} {ex:Nat→Prop} {I L:List (Nat×BA)} {n b o k:Nat} {A:Option Addr} {l:List (Int×Int)} {r:List Int} {x y:Int}
theorem Sp.rc0 (S:Sp w ex I A n 2 b o (rc l)) (M:Mem w ex w' L) (hI:I.Sublist L) (h:l[k]? = some (x,y)):w'.cell? ⟨b,o+k * 2+0,none⟩=some (.int .i64 x):=S.cell w' L M hI _ _ (rc_get l k _ h).1
theorem Sp.rc1 (S:Sp w ex I A n 2 b o (rc l)) (M:Mem w ex w' L) (hI:I.Sublist L) (h:l[k]? = some (x,y)):w'.cell? ⟨b,o+k * 2+1,none⟩=some (.int .i64 y):=by
 have:=S.cell w' L M hI _ _ (rc_get l k _ h).2
 rwa [← Nat.add_assoc] at this
theorem Sp.rcR (S:Sp w ex I A n 2 b o (rc l)) (M:Mem w ex w' L) (hI:I.Sublist L) (h:l[k]? = some (x,y)):w'.rangeAt b (o+k * 2) [.int .i64 x,.int .i64 y]:=fun j v hv=>by
 match j with
 | 0=>simp at hv;rw [← hv];exact S.rc0 M hI h
 | 1=>simp at hv;rw [← hv];exact S.rc1 M hI h
 | j+2=>simp at hv
theorem Sp.ic0 (S:Sp w ex I A n 1 b o (ic r)) (M:Mem w ex w' L) (hI:I.Sublist L) (h:r[k]? = some x):w'.cell? ⟨b,o+k * 1,none⟩=some (.int .i64 x):=by
 rw [Nat.mul_one];exact S.cell w' L M hI _ _ (ic_get r k _ h)
end
theorem rc_next {l:List (Int×Int)} {k:Nat} (h:k < l.length):∃ x y,l[k]? = some (x,y)∧l.drop k=(x,y)::l.drop (k+1):=⟨l[k].1,l[k].2,List.getElem?_eq_getElem h,List.drop_eq_getElem_cons h⟩
theorem ic_next {l:List Int} {k:Nat} (h:k < l.length):∃ x,l[k]? = some x∧l.drop k=x::l.drop (k+1):=⟨l[k],List.getElem?_eq_getElem h,List.drop_eq_getElem_cons h⟩
theorem cut_seq {x y:Code} (I:Act→World→Prop) (h1:x.wp P (Exit.then I Q) a w) (h2:∀ a w,I a w→y.wp P Q a w):(Code.seq x y).wp P Q a w :=
 wp_seq (wp_mono h1 fun e a w q=>by cases e <;> first | exact q | exact h2 _ _ q)
theorem Zet {K:Act→World→Prop} {id:Nat} (h:Q (.exit id) a w):Exit.then K Q (.exit id) a w:=h
theorem ex_hit {id:Nat} (h:Q .normal a w):Exit.inBlock id Q (.exit id) a w:=by simp only [Exit.inBlock,if_true];exact h
theorem ex_miss {id id':Nat} (hn:Nat.beq id' id=false) (h:Q (.exit id') a w):Exit.inBlock id Q (.exit id') a w:=by
 have:id'≠id:=fun e=>by subst e;simp at hn
 simp only [Exit.inBlock,if_neg this];exact h
open Classical in
theorem wp_loop_n {c:Code} (I:Nat→Act→World→Prop) (h₀':∃ m,I m a w)
  (round:∀ m a w,I m a w→c.wp P (Exit.then (fun a' w'=>∃ m',m' < m∧I m' a' w') Q) a w):(Code.loop c).wp P Q a w:=by
 obtain ⟨m,h₀⟩:=h₀'
 have least:∀ a w,(∃ m,I m a w)→∃ m,I m a w∧∀ k,I k a w→m≤k:=fun a w ⟨m,hm⟩=>by
  induction m using Nat.strongRecOn with
  | _ m ih =>
   by_cases h:∃ k,k < m∧I k a w
   ·obtain ⟨k,hk,hi⟩:=h;exact ih k hk hi
   ·exact ⟨m,hm,fun k hk=>Nat.le_of_not_lt fun hl=>h ⟨k,hl,hk⟩⟩
 refine wp_loop (fun a w=>∃ m,I m a w) (fun a w=>if h:∃ m,I m a w then Classical.choose (least a w h) else 0) ⟨m,h₀⟩ fun a w h=>?_
 obtain ⟨h1,h2⟩:=Classical.choose_spec (least a w h)
 refine wp_mono (round _ a w h1) fun e a' w' q=>?_
 cases e with
 | normal =>
  obtain ⟨m',hlt,hm'⟩:=q
  refine ⟨⟨m',hm'⟩,?_⟩
  simp only [dif_pos (show ∃ m,I m a w from h),dif_pos (show ∃ m,I m a' w' from ⟨m',hm'⟩)]
  exact Nat.lt_of_le_of_lt ((Classical.choose_spec (least a' w' ⟨m',hm'⟩)).2 m' hm') hlt
 | _=>exact q
theorem rounds_S {c:Code} {m:Nat} (h:c.wp P (Exit.then (Code.rounds P c Q m) Q) a w):Code.rounds P c Q (m+1) a w:=h
theorem rt_1 {fn:Func} {R:Ending→World→Prop} {t:Tmp} (T:Tm a n E) (hr:fn.results = #[.tmp t]) (hv:a.eval (.tmp t)=v) (h:R (.returned v) w):bodyPost P fn R .ret a w :=
 ⟨T.defers,v,by rw [results_tmp hr];exact congrArg (Result.ok · w) hv,h⟩
theorem rt_2 {fn:Func} {R:Ending→World→Prop} {t t':Tmp} {v':Value} (T:Tm a n E) (hr:fn.results = #[.tmp t,.tmp t']) (hv:a.eval (.tmp t)=v) (hv':a.eval (.tmp t')=v') (h:R (.returned (.tuple #[v,v'])) w):bodyPost P fn R .ret a w :=
 ⟨T.defers,_,by rw [results_tmp2 hr,show a.tmps.getD t undef=v from hv,show a.tmps.getD t' undef=v' from hv'],h⟩
theorem rt_c {fn:Func} {R:Ending→World→Prop} {t:Tmp} {ty:TypeId} {m g:Nat} [hT:RowTy P ty m] {cs:List Value} (M:Mem w0 ex w L) (T:Tm a n E) (hr:fn.results = #[.cell t ty])
  (hx:a.eval (.tmp t)=.pointer (some ⟨g,0,none⟩)) (hm:(g,BA.cells cs)∈L) (hn:cs.length=m) (h:R (.returned (.agg cs.toArray)) w):bodyPost P fn R .ret a w :=
 ret_M M hr T.defers hx hm hn h
end
theorem Z.{u} {α:Sort u} {a:α}:a=a:=rfl
section
variable {P:Program} {ops:Array Oper} {Q:Exit→Act→World→Prop} {S:Array Bool→World→Prop} {rest:List Oper} {op:Oper} {a:Act} {w w0:World} {ex:Nat→Prop} {L:List (Nat×BA)}
theorem Zm1 {ty:TypeId} [OneTy P ty] {x:Operand} {g o:Nat} {cs:List Value} {v:Value} (M:Mem w0 ex w L) (hw:Region.wanted op (yielded ops a.tmps)=true) (ho:op.op=.load ty x) (hx:a.eval x=.pointer (some ⟨g,o,none⟩)) (h:wpList P ops Q rest (a.put op.dst v) w)
  (hm:(g,BA.cells cs)∈L:=by (repeat' (first | exact List.mem_cons_self | refine List.mem_cons_of_mem _ ?_))) (hv:cs[o]? = some v:=by rfl):wpList P ops Q (op::rest) a w:=m_ld1 M hw ho hx hm hv h
theorem Zm2 {ty:TypeId} {n:Nat} [RowTy P ty n] {x:Operand} {g o:Nat} {cs ds:List Value} (M:Mem w0 ex w L) (hw:Region.wanted op (yielded ops a.tmps)=true) (ho:op.op=.load ty x) (hx:a.eval x=.pointer (some ⟨g,o,none⟩)) (h:wpList P ops Q rest (a.put op.dst (.agg ds.toArray)) w)
  (hm:(g,BA.cells cs)∈L:=by (repeat' (first | exact List.mem_cons_self | refine List.mem_cons_of_mem _ ?_))) (hd:(cs.drop o).take n=ds:=by (try simp only [List.take_succ_cons,List.take_zero,List.take_nil,List.drop_succ_cons,List.drop_zero,List.drop_nil,List.cons_append,List.nil_append,List.append_nil,List.length_cons,List.length_nil,Nat.reduceAdd,Nat.zero_add,Nat.add_zero]);rfl) (hn:Nat.ble (o+n) cs.length=true:=by rfl):wpList P ops Q (op::rest) a w:=m_ldr M hw ho hx hm hd hn h
theorem Zm3 {ty : TypeId} {x y : Operand} {g o : Nat} {v : Value} {cs ds cs' : List Value} {L' : List (Nat × BA)} (M : Mem w0 ex w L) (hw : Region.wanted op (yielded ops a.tmps) = true) (ho : op.op = .store ty x y) (hx : a.eval x = .pointer (some ⟨g, o, none⟩)) (h : ∀ w', Mem w0 ex w' L' → wpList P ops Q rest (a.put op.dst undef) w')
   (hy:a.eval y=v:=by first | exact (rfl:_=Value.agg _) | exact (rfl:_=Value.int _ _) | exact (rfl:_=Value.bool _) | exact (rfl:_=Value.slice _ _ _) | exact (rfl:_=Value.pointer _) | exact (rfl:_=Value.map _) | exact (rfl:_=Value.func _ _ _) | exact (rfl:_=Value.string _)) (hv:v.cells=ds.toArray:=by rfl)
   (hu:Upd L g (.cells cs) (.cells cs') L':=by (repeat (first | exact Upd.head | apply Upd.tail))) (hc:cs.take o++ds++cs.drop (o+ds.length)=cs':=by (try simp only [List.take_succ_cons,List.take_zero,List.take_nil,List.drop_succ_cons,List.drop_zero,List.drop_nil,List.cons_append,List.nil_append,List.append_nil,List.length_cons,List.length_nil,Nat.reduceAdd,Nat.zero_add,Nat.add_zero]);rfl)
   (hs:o+ds.length≤cs.length:=by simp) (h1:ds.all (·.oneCell')=true:=by simp [Value.oneCell']) (hi:(P.info? ty).map (·.size)=some ds.length:=by kernel_rfl):wpList P ops Q (op::rest) a w:=m_st M hw ho hx hy hv hu hc hs h1 hi h
theorem Zm4 {ty:TypeId} {x:Operand} {v:Value} {l:List Value} (M:Mem w0 ex w L) (hw:Region.wanted op (yielded ops a.tmps)=true) (ho:op.op=.box ty x) (h:∀ g w',Mem w0 ex w' ((g,.cells l)::L)→wpList P ops Q rest (a.put op.dst (.pointer (some ⟨g,0,none⟩))) w')
  (hx:a.eval x=v:=by first | exact (rfl:_=Value.agg _) | exact (rfl:_=Value.int _ _) | exact (rfl:_=Value.bool _) | exact (rfl:_=Value.slice _ _ _) | exact (rfl:_=Value.pointer _) | exact (rfl:_=Value.map _) | exact (rfl:_=Value.func _ _ _) | exact (rfl:_=Value.string _)) (hv:v.cells=l.toArray:=by rfl):wpList P ops Q (op::rest) a w:=m_bx M hw ho hx hv h
theorem ZT (i:Nat) {oi:Oper} {v:Value} {fuel:Nat} {listed:Array Bool} (hi:ops[i]? = some oi) (h:wpG P ops Q S fuel (listed.setIfInBounds i true) (a.put oi.dst v) w)
  (hs:(Region.noSelect ops && Region.free .any ops listed i && (Region.ready .any ops listed).contains i)=true:=by kernel_rfl) (hw:Region.wanted oi (yielded ops a.tmps)=true:=by rfl)
  (hy:∀ w',(∃ L,DC ops L∧L.getD i true=false∧S L w')→(execOp a.eval oi).run P w'=.ok (.value v) w':=by intro w' hy;obtain ⟨L,hD,hl,hS⟩:=hy;clear hD hl hS;go_simp;(try with_reducible rfl))
  (hSi:∀ L w,S (L.setIfInBounds i true) w↔S L w:=by first | exact fun _ _=>Iff.rfl | (intro L w;simp (decide:=true) only [getD_set_ne])) (hQ:∀ c a w,Q (.panic c) (a.put oi.dst v) w→Q (.panic c) a w:=by exact fun _ _ _ h=>h):wpG P ops Q S (fuel+1) listed a w:=wpG_take hi hs hSi hQ (.inl ⟨hw,hy⟩) h
end
section
variable {df:List Deferred} {P:Program} {ops:Array Oper} {rest:List Oper} {op:Oper} {a:Act} {Q:Exit→Act→World→Prop} {w0 w:World} {ex:Nat→Prop} {L:List (Nat×BA)} {K:Act→World→Prop} {n t:Nat} {E:List (Nat×Value)} {v:Value} {S:Array Bool→World→Prop} {fuel:Nat} {oi:Oper}
theorem Zrg (off:Nat) {s:TypeId} {x:Operand} {f g o:Nat} (ho:op.op=.fieldAddr s x f) (hx:a.eval x=.pointer (some ⟨g,o,none⟩))
  (hr:∀ (g o:Nat) (w:World),(Instr.fieldAt s (.pointer (some ⟨g,o,none⟩)) f).run P w=.ok (.pointer (some ⟨g,o+off,none⟩)) w:=by exact fun _ _ _=>by kernel_rfl):Runs P op a (.pointer (some ⟨g,o+off,none⟩)) w:=Zrf ho hx hr
theorem Zot {ty : TypeId} {x y : Operand} {g o : Nat} {cs ds cs' : List Value} {L' : List (Nat × BA)} (M : Mem w0 ex w L) (T : TmD df a n E) (ho : op.op = .store ty x y) (hd : op.dst = none) (hx : a.eval x = .pointer (some ⟨g, o, none⟩)) (hy : a.eval y = v) (hv : v.cells = ds.toArray)
   (hu:Upd L g (.cells cs) (.cells cs') L') (hc:storeO cs o ds=some cs') (h1:ds.all (·.oneCell')=true)
   (h:∀ w' a',Mem w0 ex w' L'→TmD df a' n E→K a' w') (hne:ds≠[]:=by simp) (hi:(P.info? ty).map (·.size)=some ds.length:=by kernel_rfl):op.wp P a w K Q:=Zos M T ho hd hx hy hv hu hc hne h1 hi h
theorem Zod {x:Operand} {xs:List Operand} {ts:Array TypeId} {f:FuncId} {vs:List Value} {fn:Func} (T:TmD df a n E) (ho:op.op=.call { callee:=.value x,args:=xs.toArray,argTypes:=ts }) (hd:op.dst=some t) (hf:freshE E t=true) (hn:Nat.blt t n=true)
  (hx : a.eval x = .func (.func f) ([] : List Value).toArray ([] : List Value).toArray) (hv : EvL a xs vs) (hfn : P.funcs[f]? = some fn) (hnm : (fn.name == "runtime.NumGoroutine") = false) (hb : fn.body.isNone = false)
  (h:Calls P f ([]++vs++[]).toArray w (RetK fun v w'=>∀ a',TmD df a' n ((t,v)::E)→K a' w')):op.wp P a w K Q:=Zoc (first:=[]) (cap:=[]) T ho hd hf hn hx hv hfn hnm hb h
theorem Zgq (T:TmD df a n E) (i b':Nat) {m b:Nat} (hi:ops[i]? = some oi) (hr:∀ w',Runs P oi a v w') (h:∀ a',TmD df a' n ((t,v)::E)→wpG P ops Q S fuel (Zpb m b') a' w)
  (hs:(Region.noSelect ops && Region.free .any ops (Zpb m b) i && (Region.ready .any ops (Zpb m b)).contains i)=true:=by kernel_rfl) (hl:(Zpb m b).setIfInBounds i true=Zpb m b':=by kernel_rfl)
  (hSi:∀ L w,S (L.setIfInBounds i true) w↔S L w:=by repeat' (first | exact si_U | exact si_G rfl | refine si_and ?_ ?_)) (hQ:∀ c a w,Q (.panic c) (a.put oi.dst v) w→Q (.panic c) a w:=by exact fun _ _ _ h=>h)
  (hw:Region.wanted oi (yielded ops a.tmps)=true:=by rfl) (hd:oi.dst=some t:=by rfl) (hf:freshE E t=true:=by rfl) (hn:Nat.blt t n=true:=by rfl):wpG P ops Q S (fuel+1) (Zpb m b) a w :=
 gq T i b' hi (fun _ w' _ _ _=>hr w') h hs hl hSi hQ hw hd hf hn
end
abbrev Zi (x:Int):Value:=.int .i64 x
abbrev Zb0:List Value:=[Zi 0,Zi 0,Zi 0,Zi 0,Zi 0,.slice none 0 0,.slice none 0 0,Zi 0,Zi 0,Zi 0,Zi 0,Zi 0,Zi 0,Zi 0,Zi 0,Zi 0,Zi 0,Zi 0,Zi 0,Zi 0,Zi 0]
abbrev Zs0:List Value:=[Zi 0,Zi 0,Zi 0,Zi 0,Zi 0,Zi 0,Zi 0,Zi 0,Zi 0,Zi 0,Zi 0,Zi 0,Zi 0,Zi 0,Zi 0,.slice none 0 0,Zi 0,Zi 0]
abbrev Zj (g:Nat):Value:=.pointer (some ⟨g,0,none⟩)
section
variable {df:List Deferred} {P:Program} {ops:Array Oper} {rest:List Oper} {a:Act} {Q Q2:Exit→Act→World→Prop} {w:World} {K:Act→World→Prop} {n t:Nat} {E:List (Nat×Value)} {v:Value} {x y:Code}
theorem TmD.e (T:TmD df a n E) (i:Nat) {t:Nat} {v:Value} (h:nthE E i=some (t,v)):a.eval (.tmp t)=v:=T.ev i h
theorem Zsr {id:Nat} {l:List Oper} (h:wpList P l.toArray (Exit.then (y.wp P Q) Q) l a w):(Code.seq (Code.region id l.toArray false) y).wp P Q a w:=wp_seq (wp_region_lit h)
theorem Zln (h:K a w):wpList P ops (Exit.then K Q) [] a w:=wpList_nil (nm_then h)
theorem Znr (h:Q2 .ret a w):Exit.then (Code.wp P .ret Q2) Q .normal a w:=nm_then (wp_ret h)
theorem Zns (h:x.wp P (Exit.then (y.wp P Q2) Q2) a w):Exit.then (Code.wp P (.seq x y) Q2) Q .normal a w:=nm_then (wp_seq h)
theorem Zsk (h:K a w):Code.wp P .skip (Exit.then K Q) a w:=wp_skip (nm_then h)
theorem Zdf {p:Prop} [h9:Decidable p] (h : ¬p):decide p=false:=decide_eq_false h
theorem Zdt {p:Prop} [h9:Decidable p] (h:p):decide p=true:=decide_eq_true h
theorem Zsl {α:Type} (a b:List α):a.Sublist (a++b):=List.sublist_append_left a b
theorem Zsq {α:Type} (a b:List α):b.Sublist (a++b):=List.sublist_append_right a b
theorem Zb1 {a b:Bool}:((a && b)=true)=(a=true∧b=true):=Bool.and_eq_true a b
theorem Zb2 {a b:Bool}:((a || b)=true)=(a=true∨b=true):=Bool.or_eq_true a b
theorem Zb3 {b:Bool}:((!b)=true)=(b=false):=Bool.not_eq_true' b
theorem Zb4 {a b:Bool}:((a && b)=false)↔(a=true→b=false):=Bool.and_eq_false_imp
theorem Zb5 {a b:Bool}:((a || b)=false)↔(a=false∧b=false):=Bool.or_eq_false_iff
theorem Zb6 {p:Prop} [Decidable p]:(decide p=true)=p:=decide_eq_true_eq
theorem Zb7 {p:Prop} [Decidable p]:(decide p=false)↔¬ p:=decide_eq_false_iff_not
theorem Zz1 {α:Type _} {a b:α} {l:List α} (h:a∈l):a∈b::l:=List.mem_cons_of_mem b h
theorem Zz2 {α:Type _} {a:α} {l:List α}:a∈a::l:=List.mem_cons_self
theorem Zz3 {α:Type _} {xs:List α} {i:Nat} (h:i < xs.toArray.size):xs.toArray[i]'h=xs[i]'(by simpa using h):=List.getElem_toArray h
theorem Zz4 {α:Type _} (a:α) (r:List α) (i:Nat) (h:i+1 < (a::r).length):(a::r)[i+1]'h=r[i]'(Nat.lt_of_succ_lt_succ h):=rfl
theorem Zz5 {α:Type _} (a:α) (r:List α) (h:0 < (a::r).length):(a::r)[0]'h=a:=rfl
theorem Zz6 {α:Type _} (l:List α) (i:Nat) (a:α):l.toArray.setIfInBounds i a=(l.set i a).toArray:=List.setIfInBounds_toArray ..
theorem Zz7 {α:Type _} {a b:α} {l:List α}:(a::l).set 0 b=b::l:=rfl
theorem Zz8 {α:Type _} {a b:α} {l:List α} {i:Nat}:(a::l).set (i+1) b=a::l.set i b:=rfl
theorem Zz9 {α:Type _} (l:List α):[].Sublist l:=List.nil_sublist l
theorem Zx1 {α:Type _} {a:α} {l:List α}:(a::l).length=l.length+1:=rfl
theorem Zx2 {α:Type _}:([]:List α).length=0:=rfl
theorem Zx3 {α:Type _} {l bs:List α}:(l++bs).length=l.length+bs.length:=List.length_append
theorem Zx4 {α:Type _} (l:List α):l++[]=l:=List.append_nil l
theorem Zx5 {α:Type _} (l:List α):[]++l=l:=rfl
theorem Zx6 {α:Type _} {a:α} {l bs:List α}:a::l++bs=a::(l++bs):=rfl
theorem Zx7 {α:Type _} {a b:α} {l:List α}:a∈b::l↔a=b∨a∈l:=List.mem_cons
theorem Zx8 {α:Type _} {a:α} : ¬a∈([]:List α):=List.not_mem_nil
theorem Zx9 (b:Bool):b=true∨b=false:=Bool.eq_false_or_eq_true b
theorem Zx0 (n:Nat):n+0=n:=rfl
theorem Zxa (n:Nat):0+n=n:=Nat.zero_add n
theorem Zy1 {α:Type _} {a:α} {l:List α} {i:Nat}:(a::l).drop (i+1)=l.drop i:=List.drop_succ_cons
theorem Zy2 {α:Type _} {a:α} {l:List α} {i:Nat}:(a::l).take (i+1)=a::l.take i:=List.take_succ_cons
def ZSt (P:Program) (ops:Array Oper) (o:Oper) (a:Act) (w:World) (v:Value):Prop:=(Region.wanted o (yielded ops a.tmps)=true∧Runs P o a v w)∨(Region.wanted o (yielded ops a.tmps)=false∧v=undef)
theorem Zq {o:Oper} (r:Runs P o a v w) (hw:Region.wanted o (yielded ops a.tmps)=true:=by rfl):ZSt P ops o a w v:=.inl ⟨hw,r⟩
theorem Zw {o:Oper} (hw:Region.wanted o (yielded ops a.tmps)=true) (r:Runs P o a v w):ZSt P ops o a w v:=.inl ⟨hw,r⟩
theorem Zp {o:Oper} (hw:Region.wanted o (yielded ops a.tmps)=false):ZSt P ops o a w undef:=.inr ⟨hw,rfl⟩
theorem Zg1 {o:Oper} (T:TmD df a n E) (s:ZSt P ops o a w v) (d:o.dst=some t) (h:∀ a',TmD df a' n ((t,v)::E)→wpList P ops Q rest a' w) (f:freshE E t=true:=by rfl) (m:Nat.blt t n=true:=by rfl):wpList P ops Q (o::rest) a w:=by
 rcases s with ⟨hw,r⟩ | ⟨hw,rfl⟩
 · exact lq T r h hw d f m
 · exact lp T hw h d f m
theorem Zl2 {o:Oper} (h:o.wp P a w (fun a w=>wpList P ops Q rest a w) Q) (hw:Region.wanted o (yielded ops a.tmps)=true:=by rfl):wpList P ops Q (o::rest) a w:=wpList_wanted hw fun _ hK=>Oper.wp_mono hK h
theorem Zm {o:Oper} (i:Nat) (h:nthE E i=some (t,v)) (ho:o.op=.move (.tmp t)) (hw:∀ a:Act,Region.wanted o (yielded ops a.tmps)=true:=by intro _;rfl):∀ a',TmD df a' n E→ZSt P ops o a' w v:=fun a' T=>Zq (Zrm ho (T.ev i h)) (hw a')
theorem Za {o:Oper} (i:Nat) (h:nthE E i=some (t,v)) (ho:o.op=.assign (.tmp t)) (hw:∀ a:Act,Region.wanted o (yielded ops a.tmps)=true:=by intro _;rfl):∀ a',TmD df a' n E→ZSt P ops o a' w v:=fun a' T=>Zq (Zra ho (T.ev i h)) (hw a')
theorem Zc {o:Oper} (ho:o.op=.assign (.const v)) (hw:∀ a:Act,Region.wanted o (yielded ops a.tmps)=true:=by intro _;rfl):∀ a',TmD df a' n E→ZSt P ops o a' w v:=fun a' _=>Zq (Zra ho rfl) (hw a')
theorem Zo {o:Oper} {w0:World} {ex:Nat→Prop} {L:List (Nat×BA)} {g k:Nat} {cs:List Value} {ty:TypeId} [OneTy P ty] (M:Mem w0 ex w L) (j i:Nat) (hB:nthE L j=some (g,.cells cs)) (h:nthE E i=some (t,.pointer (some ⟨g,k,none⟩))) (ho:o.op=.load ty (.tmp t)) (hv:cs[k]? = some v) (hw:∀ a:Act,Region.wanted o (yielded ops a.tmps)=true:=by intro _;rfl):∀ a',TmD df a' n E→ZSt P ops o a' w v:=fun a' T=>Zq (Zro (M.nth j hB) ho (T.ev i h) hv) (hw a')
theorem Zr {o:Oper} {w0:World} {ex:Nat→Prop} {L:List (Nat×BA)} {g k m:Nat} {cs ds:List Value} {ty:TypeId} [RowTy P ty (m+1)] (M:Mem w0 ex w L) (j i:Nat) (hB:nthE L j=some (g,.cells cs)) (h:nthE E i=some (t,.pointer (some ⟨g,k,none⟩))) (ho:o.op=.load ty (.tmp t)) (hd:sliceO k (m+1) cs=some ds) (hw:∀ a:Act,Region.wanted o (yielded ops a.tmps)=true:=by intro _;rfl):∀ a',TmD df a' n E→ZSt P ops o a' w (.agg ds.toArray):=fun a' T=>Zq (Zrr (M.nth j hB) ho (T.ev i h) hd) (hw a')
theorem Zf {o:Oper} {s:TypeId} {f g k:Nat} (off i:Nat) (h:nthE E i=some (t,.pointer (some ⟨g,k,none⟩))) (ho:o.op=.fieldAddr s (.tmp t) f) (hr:∀ (g o:Nat) (w:World),(Instr.fieldAt s (.pointer (some ⟨g,o,none⟩)) f).run P w=.ok (.pointer (some ⟨g,o+off,none⟩)) w:=by intro _ _ _;kernel_rfl) (hw:∀ a:Act,Region.wanted o (yielded ops a.tmps)=true:=by intro _;rfl):∀ a',TmD df a' n E→ZSt P ops o a' w (.pointer (some ⟨g,k+off,none⟩)):=fun a' T=>Zq (Zrf ho (T.ev i h) hr) (hw a')
theorem Ze {o:Oper} {i':Nat} {vs:List Value} (i:Nat) (h:nthE E i=some (t,.tuple vs.toArray)) (ho:o.op=.extract (.tmp t) i') (hv:nthE vs i'=some v) (hw:∀ a:Act,Region.wanted o (yielded ops a.tmps)=true:=by intro _;rfl):∀ a',TmD df a' n E→ZSt P ops o a' w v:=fun a' T=>Zq (Zre ho (T.ev i h) hv) (hw a')
theorem Zl {o:Oper} {A:Option Addr} {m c:Nat} {ty e:TypeId} (hu:P.underlying ty=some (.slice e)) (i:Nat) (h:nthE E i=some (t,.slice A m c)) (ho:o.op=.call { callee:=.builtin .len,args:=#[.tmp t],argTypes:=#[ty] }) (hw:∀ a:Act,Region.wanted o (yielded ops a.tmps)=true:=by intro _;rfl):∀ a',TmD df a' n E→ZSt P ops o a' w (.int .i64 (m:Int)):=fun a' T=>Zq (Zrl ho hu (T.ev i h)) (hw a')
theorem Zg2 {o1 o2:Oper} {t1 t2:Nat} {v1 v2:Value} (T:TmD df a n E) (s1:ZSt P ops o1 a w v1) (d1:o1.dst=some t1) (s2:∀ a',TmD df a' n ((t1,v1)::E)→ZSt P ops o2 a' w v2) (d2:o2.dst=some t2) (h:∀ a',TmD df a' n ((t2,v2)::(t1,v1)::E)→wpList P ops Q rest a' w) (f1:freshE (E) t1=true:=by rfl) (m1:Nat.blt t1 n=true:=by rfl) (f2:freshE ((t1,v1)::E) t2=true:=by rfl) (m2:Nat.blt t2 n=true:=by rfl):wpList P ops Q (o1::o2::rest) a w :=
 Zg1 T s1 d1 (fun a1 T1=>Zg1 T1 (s2 a1 T1) d2 h f2 m2) f1 m1
theorem Zg3 {o1 o2 o3:Oper} {t1 t2 t3:Nat} {v1 v2 v3:Value} (T:TmD df a n E) (s1:ZSt P ops o1 a w v1) (d1:o1.dst=some t1) (s2:∀ a',TmD df a' n ((t1,v1)::E)→ZSt P ops o2 a' w v2) (d2:o2.dst=some t2) (s3:∀ a',TmD df a' n ((t2,v2)::(t1,v1)::E)→ZSt P ops o3 a' w v3) (d3:o3.dst=some t3) (h:∀ a',TmD df a' n ((t3,v3)::(t2,v2)::(t1,v1)::E)→wpList P ops Q rest a' w) (f1:freshE (E) t1=true:=by rfl) (m1:Nat.blt t1 n=true:=by rfl) (f2:freshE ((t1,v1)::E) t2=true:=by rfl) (m2:Nat.blt t2 n=true:=by rfl) (f3:freshE ((t2,v2)::(t1,v1)::E) t3=true:=by rfl) (m3:Nat.blt t3 n=true:=by rfl):wpList P ops Q (o1::o2::o3::rest) a w :=
 Zg1 T s1 d1 (fun a1 T1=>Zg2 T1 (s2 a1 T1) d2 s3 d3 h f2 m2 f3 m3) f1 m1
theorem Zg4 {o1 o2 o3 o4:Oper} {t1 t2 t3 t4:Nat} {v1 v2 v3 v4:Value} (T:TmD df a n E) (s1:ZSt P ops o1 a w v1) (d1:o1.dst=some t1) (s2:∀ a',TmD df a' n ((t1,v1)::E)→ZSt P ops o2 a' w v2) (d2:o2.dst=some t2) (s3:∀ a',TmD df a' n ((t2,v2)::(t1,v1)::E)→ZSt P ops o3 a' w v3) (d3:o3.dst=some t3) (s4:∀ a',TmD df a' n ((t3,v3)::(t2,v2)::(t1,v1)::E)→ZSt P ops o4 a' w v4) (d4:o4.dst=some t4) (h:∀ a',TmD df a' n ((t4,v4)::(t3,v3)::(t2,v2)::(t1,v1)::E)→wpList P ops Q rest a' w) (f1:freshE (E) t1=true:=by rfl) (m1:Nat.blt t1 n=true:=by rfl) (f2:freshE ((t1,v1)::E) t2=true:=by rfl) (m2:Nat.blt t2 n=true:=by rfl) (f3:freshE ((t2,v2)::(t1,v1)::E) t3=true:=by rfl) (m3:Nat.blt t3 n=true:=by rfl) (f4:freshE ((t3,v3)::(t2,v2)::(t1,v1)::E) t4=true:=by rfl) (m4:Nat.blt t4 n=true:=by rfl):wpList P ops Q (o1::o2::o3::o4::rest) a w :=
 Zg1 T s1 d1 (fun a1 T1=>Zg3 T1 (s2 a1 T1) d2 s3 d3 s4 d4 h f2 m2 f3 m3 f4 m4) f1 m1
theorem Zg5 {o1 o2 o3 o4 o5:Oper} {t1 t2 t3 t4 t5:Nat} {v1 v2 v3 v4 v5:Value} (T:TmD df a n E) (s1:ZSt P ops o1 a w v1) (d1:o1.dst=some t1) (s2:∀ a',TmD df a' n ((t1,v1)::E)→ZSt P ops o2 a' w v2) (d2:o2.dst=some t2) (s3:∀ a',TmD df a' n ((t2,v2)::(t1,v1)::E)→ZSt P ops o3 a' w v3) (d3:o3.dst=some t3) (s4:∀ a',TmD df a' n ((t3,v3)::(t2,v2)::(t1,v1)::E)→ZSt P ops o4 a' w v4) (d4:o4.dst=some t4) (s5:∀ a',TmD df a' n ((t4,v4)::(t3,v3)::(t2,v2)::(t1,v1)::E)→ZSt P ops o5 a' w v5) (d5:o5.dst=some t5) (h:∀ a',TmD df a' n ((t5,v5)::(t4,v4)::(t3,v3)::(t2,v2)::(t1,v1)::E)→wpList P ops Q rest a' w) (f1:freshE (E) t1=true:=by rfl) (m1:Nat.blt t1 n=true:=by rfl) (f2:freshE ((t1,v1)::E) t2=true:=by rfl) (m2:Nat.blt t2 n=true:=by rfl) (f3:freshE ((t2,v2)::(t1,v1)::E) t3=true:=by rfl) (m3:Nat.blt t3 n=true:=by rfl) (f4:freshE ((t3,v3)::(t2,v2)::(t1,v1)::E) t4=true:=by rfl) (m4:Nat.blt t4 n=true:=by rfl) (f5:freshE ((t4,v4)::(t3,v3)::(t2,v2)::(t1,v1)::E) t5=true:=by rfl) (m5:Nat.blt t5 n=true:=by rfl):wpList P ops Q (o1::o2::o3::o4::o5::rest) a w :=
 Zg1 T s1 d1 (fun a1 T1=>Zg4 T1 (s2 a1 T1) d2 s3 d3 s4 d4 s5 d5 h f2 m2 f3 m3 f4 m4 f5 m5) f1 m1
theorem Zg6 {o1 o2 o3 o4 o5 o6:Oper} {t1 t2 t3 t4 t5 t6:Nat} {v1 v2 v3 v4 v5 v6:Value} (T:TmD df a n E) (s1:ZSt P ops o1 a w v1) (d1:o1.dst=some t1) (s2:∀ a',TmD df a' n ((t1,v1)::E)→ZSt P ops o2 a' w v2) (d2:o2.dst=some t2) (s3:∀ a',TmD df a' n ((t2,v2)::(t1,v1)::E)→ZSt P ops o3 a' w v3) (d3:o3.dst=some t3) (s4:∀ a',TmD df a' n ((t3,v3)::(t2,v2)::(t1,v1)::E)→ZSt P ops o4 a' w v4) (d4:o4.dst=some t4) (s5:∀ a',TmD df a' n ((t4,v4)::(t3,v3)::(t2,v2)::(t1,v1)::E)→ZSt P ops o5 a' w v5) (d5:o5.dst=some t5) (s6:∀ a',TmD df a' n ((t5,v5)::(t4,v4)::(t3,v3)::(t2,v2)::(t1,v1)::E)→ZSt P ops o6 a' w v6) (d6:o6.dst=some t6) (h:∀ a',TmD df a' n ((t6,v6)::(t5,v5)::(t4,v4)::(t3,v3)::(t2,v2)::(t1,v1)::E)→wpList P ops Q rest a' w) (f1:freshE (E) t1=true:=by rfl) (m1:Nat.blt t1 n=true:=by rfl) (f2:freshE ((t1,v1)::E) t2=true:=by rfl) (m2:Nat.blt t2 n=true:=by rfl) (f3:freshE ((t2,v2)::(t1,v1)::E) t3=true:=by rfl) (m3:Nat.blt t3 n=true:=by rfl) (f4:freshE ((t3,v3)::(t2,v2)::(t1,v1)::E) t4=true:=by rfl) (m4:Nat.blt t4 n=true:=by rfl) (f5:freshE ((t4,v4)::(t3,v3)::(t2,v2)::(t1,v1)::E) t5=true:=by rfl) (m5:Nat.blt t5 n=true:=by rfl) (f6:freshE ((t5,v5)::(t4,v4)::(t3,v3)::(t2,v2)::(t1,v1)::E) t6=true:=by rfl) (m6:Nat.blt t6 n=true:=by rfl):wpList P ops Q (o1::o2::o3::o4::o5::o6::rest) a w :=
 Zg1 T s1 d1 (fun a1 T1=>Zg5 T1 (s2 a1 T1) d2 s3 d3 s4 d4 s5 d5 s6 d6 h f2 m2 f3 m3 f4 m4 f5 m5 f6 m6) f1 m1
theorem Zg7 {o1 o2 o3 o4 o5 o6 o7:Oper} {t1 t2 t3 t4 t5 t6 t7:Nat} {v1 v2 v3 v4 v5 v6 v7:Value} (T:TmD df a n E) (s1:ZSt P ops o1 a w v1) (d1:o1.dst=some t1) (s2:∀ a',TmD df a' n ((t1,v1)::E)→ZSt P ops o2 a' w v2) (d2:o2.dst=some t2) (s3:∀ a',TmD df a' n ((t2,v2)::(t1,v1)::E)→ZSt P ops o3 a' w v3) (d3:o3.dst=some t3) (s4:∀ a',TmD df a' n ((t3,v3)::(t2,v2)::(t1,v1)::E)→ZSt P ops o4 a' w v4) (d4:o4.dst=some t4) (s5:∀ a',TmD df a' n ((t4,v4)::(t3,v3)::(t2,v2)::(t1,v1)::E)→ZSt P ops o5 a' w v5) (d5:o5.dst=some t5) (s6:∀ a',TmD df a' n ((t5,v5)::(t4,v4)::(t3,v3)::(t2,v2)::(t1,v1)::E)→ZSt P ops o6 a' w v6) (d6:o6.dst=some t6) (s7:∀ a',TmD df a' n ((t6,v6)::(t5,v5)::(t4,v4)::(t3,v3)::(t2,v2)::(t1,v1)::E)→ZSt P ops o7 a' w v7) (d7:o7.dst=some t7) (h:∀ a',TmD df a' n ((t7,v7)::(t6,v6)::(t5,v5)::(t4,v4)::(t3,v3)::(t2,v2)::(t1,v1)::E)→wpList P ops Q rest a' w) (f1:freshE (E) t1=true:=by rfl) (m1:Nat.blt t1 n=true:=by rfl) (f2:freshE ((t1,v1)::E) t2=true:=by rfl) (m2:Nat.blt t2 n=true:=by rfl) (f3:freshE ((t2,v2)::(t1,v1)::E) t3=true:=by rfl) (m3:Nat.blt t3 n=true:=by rfl) (f4:freshE ((t3,v3)::(t2,v2)::(t1,v1)::E) t4=true:=by rfl) (m4:Nat.blt t4 n=true:=by rfl) (f5:freshE ((t4,v4)::(t3,v3)::(t2,v2)::(t1,v1)::E) t5=true:=by rfl) (m5:Nat.blt t5 n=true:=by rfl) (f6:freshE ((t5,v5)::(t4,v4)::(t3,v3)::(t2,v2)::(t1,v1)::E) t6=true:=by rfl) (m6:Nat.blt t6 n=true:=by rfl) (f7:freshE ((t6,v6)::(t5,v5)::(t4,v4)::(t3,v3)::(t2,v2)::(t1,v1)::E) t7=true:=by rfl) (m7:Nat.blt t7 n=true:=by rfl):wpList P ops Q (o1::o2::o3::o4::o5::o6::o7::rest) a w :=
 Zg1 T s1 d1 (fun a1 T1=>Zg6 T1 (s2 a1 T1) d2 s3 d3 s4 d4 s5 d5 s6 d6 s7 d7 h f2 m2 f3 m3 f4 m4 f5 m5 f6 m6 f7 m7) f1 m1
theorem Zg8 {o1 o2 o3 o4 o5 o6 o7 o8:Oper} {t1 t2 t3 t4 t5 t6 t7 t8:Nat} {v1 v2 v3 v4 v5 v6 v7 v8:Value} (T:TmD df a n E) (s1:ZSt P ops o1 a w v1) (d1:o1.dst=some t1) (s2:∀ a',TmD df a' n ((t1,v1)::E)→ZSt P ops o2 a' w v2) (d2:o2.dst=some t2) (s3:∀ a',TmD df a' n ((t2,v2)::(t1,v1)::E)→ZSt P ops o3 a' w v3) (d3:o3.dst=some t3) (s4:∀ a',TmD df a' n ((t3,v3)::(t2,v2)::(t1,v1)::E)→ZSt P ops o4 a' w v4) (d4:o4.dst=some t4) (s5:∀ a',TmD df a' n ((t4,v4)::(t3,v3)::(t2,v2)::(t1,v1)::E)→ZSt P ops o5 a' w v5) (d5:o5.dst=some t5) (s6:∀ a',TmD df a' n ((t5,v5)::(t4,v4)::(t3,v3)::(t2,v2)::(t1,v1)::E)→ZSt P ops o6 a' w v6) (d6:o6.dst=some t6) (s7:∀ a',TmD df a' n ((t6,v6)::(t5,v5)::(t4,v4)::(t3,v3)::(t2,v2)::(t1,v1)::E)→ZSt P ops o7 a' w v7) (d7:o7.dst=some t7) (s8:∀ a',TmD df a' n ((t7,v7)::(t6,v6)::(t5,v5)::(t4,v4)::(t3,v3)::(t2,v2)::(t1,v1)::E)→ZSt P ops o8 a' w v8) (d8:o8.dst=some t8) (h:∀ a',TmD df a' n ((t8,v8)::(t7,v7)::(t6,v6)::(t5,v5)::(t4,v4)::(t3,v3)::(t2,v2)::(t1,v1)::E)→wpList P ops Q rest a' w) (f1:freshE (E) t1=true:=by rfl) (m1:Nat.blt t1 n=true:=by rfl) (f2:freshE ((t1,v1)::E) t2=true:=by rfl) (m2:Nat.blt t2 n=true:=by rfl) (f3:freshE ((t2,v2)::(t1,v1)::E) t3=true:=by rfl) (m3:Nat.blt t3 n=true:=by rfl) (f4:freshE ((t3,v3)::(t2,v2)::(t1,v1)::E) t4=true:=by rfl) (m4:Nat.blt t4 n=true:=by rfl) (f5:freshE ((t4,v4)::(t3,v3)::(t2,v2)::(t1,v1)::E) t5=true:=by rfl) (m5:Nat.blt t5 n=true:=by rfl) (f6:freshE ((t5,v5)::(t4,v4)::(t3,v3)::(t2,v2)::(t1,v1)::E) t6=true:=by rfl) (m6:Nat.blt t6 n=true:=by rfl) (f7:freshE ((t6,v6)::(t5,v5)::(t4,v4)::(t3,v3)::(t2,v2)::(t1,v1)::E) t7=true:=by rfl) (m7:Nat.blt t7 n=true:=by rfl) (f8:freshE ((t7,v7)::(t6,v6)::(t5,v5)::(t4,v4)::(t3,v3)::(t2,v2)::(t1,v1)::E) t8=true:=by rfl) (m8:Nat.blt t8 n=true:=by rfl):wpList P ops Q (o1::o2::o3::o4::o5::o6::o7::o8::rest) a w :=
 Zg1 T s1 d1 (fun a1 T1=>Zg7 T1 (s2 a1 T1) d2 s3 d3 s4 d4 s5 d5 s6 d6 s7 d7 s8 d8 h f2 m2 f3 m3 f4 m4 f5 m5 f6 m6 f7 m7 f8 m8) f1 m1
end
section
variable {df:List Deferred} {P:Program} {ops:Array Oper} {rest:List Oper} {op:Oper} {a:Act} {Q:Exit→Act→World→Prop} {w0 w:World} {ex:Nat→Prop} {L:List (Nat×BA)} {K:Act→World→Prop} {n t:Nat} {E:List (Nat×Value)} {v:Value}
theorem rn_nil {x:Operand} {p:Addr} (ho:op.op=.nilCheck x) (hx:a.eval x=.pointer (some p)):Runs P op a (.pointer (some p)) w:=by
 unfold Runs execOp
 simp only [ho,hx,Sem.run_pure]
theorem nm_0 {fn:Func} {R:Ending→World→Prop} (T:Tm a n E) (hr:fn.results = #[]) (h:R (.returned (.tuple #[])) w):bodyPost P fn R .normal a w:=⟨T.defers,_,results_none hr _ _ _,h⟩
def Bd (a:Act) (y:Option Operand) (d l:Nat):Prop:=match y with
 | none=>l=d
 | some y=>a.eval y=.int .i64 (l:Int)
theorem rn_slice {ty e : TypeId} {size : Nat} {x : Operand} {A : Option Addr} {m c : Nat} {lo hi : Option Operand} {l h : Nat} (ho : op.op = .slice ty x lo hi none) (hu : P.underlying ty = some (.slice e)) (hs : (P.info? e).map (·.size) = some size)
   (hx:a.eval x=.slice A m c) (hl:Bd a lo 0 l) (hh:Bd a hi m h) (h1:l≤h) (h2:h≤c):Runs P op a (.slice (if c=l then A else A.map (·.add (l * size))) (h - l) (c - l)) w:=by
 cases hi':P.info? e with
 | none=>rw [hi'] at hs;simp at hs
 | some inf =>
   rw [hi'] at hs
   simp at hs
   have q1:(l:Int)≤(h:Int):=by omega
   have q2:(h:Int)≤(c:Int):=by omega
   unfold Runs execOp
   cases lo with
   | none =>
     have hl:l=0:=hl
     subst hl
     cases hi with
     | none =>
       have hh:h=m:=hh
       subst hh
       simp [ho,hx,Instr.sliceAt,Instr.slice,Instr.sliceBounds,Sem.run_bind,run_underlying,hu,sizeOf,typeInfo,hi',hs]
     | some y =>
       have hh:a.eval y=.int .i64 (h:Int):=hh
       simp [ho,hx,hh,Instr.sliceAt,Instr.slice,Instr.sliceBounds,Instr.sliceBound,asIntOf,Sem.run_bind,run_underlying,hu,sizeOf,typeInfo,hi',hs,h2]
   | some z =>
     have hl:a.eval z=.int .i64 (l:Int):=hl
     cases hi with
     | none =>
       have hh:h=m:=hh
       subst hh
       simp [ho,hx,hl,Instr.sliceAt,Instr.slice,Instr.sliceBounds,Instr.sliceBound,asIntOf,Sem.run_bind,run_underlying,hu,sizeOf,typeInfo,hi',hs,h1]
     | some y =>
       have hh:a.eval y=.int .i64 (h:Int):=hh
       simp [ho,hx,hh,hl,Instr.sliceAt,Instr.slice,Instr.sliceBounds,Instr.sliceBound,asIntOf,Sem.run_bind,run_underlying,hu,sizeOf,typeInfo,hi',hs,h1,h2]
end
theorem Sp.sub {w:World} {ex:Nat→Prop} {I:List (Nat×BA)} {A:Option Addr} {n size b o:Nat} {xs:List Value} (S:Sp w ex I A n size b o xs) {l h c:Nat} (h1:l≤h) (h2:h≤n) (h3:n≤c) :
   Sp w ex I (if c=l then A else A.map (·.add (l * size))) (h - l) size b (o+l * size) ((xs.drop (l * size)).take ((h - l) * size)):=by
 have hlen:(h - l) * size≤n * size - l * size:=by
   rw [← Nat.sub_mul]
   exact Nat.mul_le_mul_right _ (by omega)
 refine ⟨fun hp=>?_,?_,fun w' L M hI hp=>S.lt w' L M hI (by omega),fun w' L M hI j u hu=>?_⟩
 · rw [if_neg (by omega),S.at0 (by omega),Option.map_some,Addr.add_mid]
 · rw [List.length_take,List.length_drop,S.len]
   omega
 · rw [List.getElem?_take] at hu
   split at hu
   · rw [List.getElem?_drop] at hu
     have:=S.cell w' L M hI _ u hu
     rw [← Nat.add_assoc] at this
     exact this
   · cases hu
section
open Go.RowKit
open Go.Maps (Keyed)
section
variable {P:Program} {k:TypeId} {ok:Value→Value→Prop} {w w':World} {b:Nat}
def Memo (P:Program) (k:TypeId) (ok:Value→Value→Prop) (w:World) (b:Nat):Prop :=
 ∃ es clock,w.heap[b]? = some (.map es clock)∧∀ e∈es.toList,(∃ l,keyOf P k e.key=some l)∧ok e.key e.val
def memoQ (P:Program) (k:TypeId) (ok:Value→Value→Prop) (o:Obj):Prop:=∃ es clock,o=.map es clock∧∀ e∈es.toList,(∃ l,keyOf P k e.key=some l)∧ok e.key e.val
theorem Memo.iff:Memo P k ok w b↔BA.holds w b (.any (memoQ P k ok)):=by
 constructor
 · rintro ⟨es,c,h1,h2⟩;exact ⟨_,h1,es,c,rfl,h2⟩
 · rintro ⟨o,h1,es,c,rfl,h2⟩;exact ⟨es,c,h1,h2⟩
theorem Memo.lookup (h:Memo P k ok w b) (K:Keyed P k) {t e:TypeId} (ht:P.underlying t=some (.map k e)) {z:Value} (hz:(zeroValue e).run P w=.ok z w) {key:Value} {kl:Lit} (hkey:keyOf P k key=some kl) :
  (∃ v,(Instr.lookup t (.map (some b)) key true).run P w=.ok (.tuple #[v,.bool true]) w∧ok key v)∨(Instr.lookup t (.map (some b)) key true).run P w=.ok (.tuple #[z,.bool false]) w:=by
 obtain ⟨es,clock,hb,hes⟩:=h
 have hc:=K.check w es.isEmpty hkey
 rcases K.find w hkey es.toList (fun e he=>(hes e he).1) with ⟨hf,_⟩ | ⟨j,e0,hf,hj,rfl⟩
 ·refine .inr ?_
  unfold Instr.lookup
  simp [run_underlying ht,MapKept.run_getObj_map hb,hc,hf,hz,Result.andThen]
 ·refine .inl ⟨e0.val,?_,(hes e0 (List.mem_of_getElem? hj)).2⟩
  unfold Instr.lookup
  simp [run_underlying ht,MapKept.run_getObj_map hb,hc,hf,Result.andThen]
theorem Memo.update (h:Memo P k ok w b) (K:Keyed P k) {t e:TypeId} (ht:P.underlying t=some (.map k e)) {key val:Value} {kl:Lit} (hkey:keyOf P k key=some kl) (hok:ok key val) :
  ∃ w',(Instr.mapUpdate t (.map (some b)) key val).run P w=.ok () w'∧Memo P k ok w' b∧w.grownBy w' (some b):=by
 obtain ⟨es,clock,hb,hes⟩:=h
 have hlt:=(Array.getElem?_eq_some_iff.1 hb).1
 have hc:=K.check w false hkey
 have fin:∀ es' clock',(∀ e∈es'.toList,(∃ l,keyOf P k e.key=some l)∧ok e.key e.val) →
   Memo P k ok (ChangeMaps.setBlock w b (.map es' clock')) b∧w.grownBy (ChangeMaps.setBlock w b (.map es' clock')) (some b):=fun es' clock' he =>
  ⟨⟨es',clock',ChangeMaps.heap_setBlock_same hb _,he⟩,⟨rfl,rfl,rfl,by simp [ChangeMaps.setBlock],fun i _ hi=>ChangeMaps.heap_setBlock_other hb _ (fun e=>hi (by rw [e]))⟩⟩
 rcases K.find w hkey es.toList (fun e he=>(hes e he).1) with ⟨hf,_⟩ | ⟨j,e0,hf,hj,rfl⟩
 ·refine ⟨ChangeMaps.setBlock w b (.map (es.push { key,val,born:=clock }) (clock+1)),?_,fin _ _ (fun e he=>?_)⟩
  ·unfold Instr.mapUpdate
   simp [run_underlying ht,MapKept.run_getObj_map hb,hc,hf,Result.andThen,MapKept.run_setObj_map _ hb,ChangeMaps.setBlock]
  ·simp only [Array.toList_push,List.mem_append,List.mem_singleton] at he
   rcases he with he | rfl
   ·exact hes e he
   ·exact ⟨⟨_,hkey⟩,hok⟩
 ·refine ⟨ChangeMaps.setBlock w b (.map (es.modify j fun e=>{ e with key:=e0.key,val:=val }) clock),?_,fin _ _ (fun e he=>?_)⟩
  ·unfold Instr.mapUpdate
   have hs:=K.stays w hkey
   have hj':es[j]? = some e0:=by simpa using hj
   simp [run_underlying ht,MapKept.run_getObj_map hb,hc,hf,Result.andThen,MapKept.run_setObj_map _ hb,ChangeMaps.setBlock,hj',hs]
  ·obtain ⟨i,hi⟩:=List.getElem?_of_mem he
   rw [Array.getElem?_toList,Array.getElem?_modify] at hi
   split at hi
   ·obtain ⟨e1,_,rfl⟩:=Option.map_eq_some_iff.1 hi
    exact ⟨⟨_,hkey⟩,hok⟩
   ·exact hes e (by rw [← Array.getElem?_toList] at hi;exact List.mem_of_getElem? hi)
end
section
variable {P:Program} {ops:Array Oper} {rest:List Oper} {op:Oper} {a:Act} {Q:Exit→Act→World→Prop} {w0 w:World} {ex:Nat→Prop} {L L':List (Nat×BA)} {k e t:TypeId} {ok:Value→Value→Prop}
theorem mm (ok:Value→Value→Prop) (ht:P.underlying t=some (.map k e)) (M:Mem w0 ex w L) (hgd:op.guard=none) (ho:op.op=.makeMap t none)
  (h:∀ g w',Mem w0 ex w' ((g,.any (memoQ P k ok))::L)→wpList P ops Q rest (a.put op.dst (.map (some g))) w'):wpList P ops Q (op::rest) a w :=
 wpList_plain hgd fun _ hK=>by
  unfold Oper.wp execOp
  simp only [ho,Option.map_none,run_makeMap,Sem.run_bind,Result.andThen_ok,Sem.run_pure]
  exact hK _ _ (h _ _ (M.newAny _ _ ⟨#[],0,Z,fun e he=>by simp at he⟩))
theorem lk {x y:Operand} {g:Nat} {key z:Value} {kl:Lit} (K:Keyed P k) (ht:P.underlying t=some (.map k e)) (hz:∀ w,(zeroValue e).run P w=.ok z w) (M:Mem w0 ex w L) (hgd:op.guard=none) (ho:op.op=.lookup t x y true) (hx:a.eval x=.map (some g)) (hy:a.eval y=key) (hm:(g,BA.any (memoQ P k ok))∈L)
  (hkey:keyOf P k key=some kl)
  (h1:∀ v,ok key v→wpList P ops Q rest (a.put op.dst (.tuple #[v,.bool true])) w) (h2:wpList P ops Q rest (a.put op.dst (.tuple #[z,.bool false])) w):wpList P ops Q (op::rest) a w :=
 wpList_plain hgd fun _ hK=>by
  have hM:Memo P k ok w g:=Memo.iff.2 (M.at hm)
  unfold Oper.wp execOp
  rcases hM.lookup K ht (hz w) hkey with ⟨v,hr,hv⟩ | hr
  ·simp only [ho,hx,hy,hr,Sem.run_bind,Result.andThen_ok,Sem.run_pure]
   exact hK _ _ (h1 v hv)
  ·simp only [ho,hx,hy,hr,Sem.run_bind,Result.andThen_ok,Sem.run_pure]
   exact hK _ _ h2
theorem mu {x y z:Operand} {g:Nat} {key val:Value} {kl:Lit} (K:Keyed P k) (ht:P.underlying t=some (.map k e)) (M:Mem w0 ex w L) (hgd:op.guard=none) (ho:op.op=.mapUpdate t x y z) (hx:a.eval x=.map (some g)) (hy:a.eval y=key) (hz:a.eval z=val) (hu:Upd L g (.any (memoQ P k ok)) (.any (memoQ P k ok)) L')
  (hkey:keyOf P k key=some kl) (hok:ok key val) (h:∀ w',Mem w0 ex w' L'→wpList P ops Q rest (a.put op.dst undef) w'):wpList P ops Q (op::rest) a w :=
 wpList_plain hgd fun _ hK=>by
  have hM:Memo P k ok w g:=Memo.iff.2 (M.at hu.mem)
  obtain ⟨w',hr,hm',hg⟩:=hM.update K ht hkey hok
  unfold Oper.wp execOp
  simp only [ho,hx,hy,hz,hr,Sem.run_bind,Result.andThen_ok,Sem.run_pure]
  exact hK _ _ (h _ (M.callW hu hg (Memo.iff.1 hm')))
end
structure Kn where
 p0:Int
 p1:Int
 tips:Int
 roots:Int
 left:Int
abbrev knC (x:Kn):Array Value:=#[.int .i64 x.p0,.int .i64 x.p1,.int .i64 x.tips,.int .i64 x.roots,.int .i64 x.left]
abbrev knV (x:Kn):Value:=.agg (knC x)
structure Kn.ok (x:Kn):Prop where
 p0 : -100000≤x.p0∧x.p0≤100000
 p1 : -100000≤x.p1∧x.p1≤100000
 tips:0≤x.tips∧x.tips≤1000
 roots:0≤x.roots∧x.roots≤1000
 left:0≤x.left∧x.left≤1000
theorem wf64 {a:Int} (h : -100000≤a∧a≤100000):(Lit.int .i64 a).wf=true:=by
 have h1:=h.1
 have h2:=h.2
 simp [Lit.wf,IntKind.min,IntKind.max,IntKind.bits,IntKind.signed]
 omega
theorem kn_key_of {P:Program} {k r i:TypeId} {f0 f1 f2 f3 g0 g1:Field} (hk:P.underlying k=some (.struct #[f0,f1,f2,f3])) (hr:P.underlying r=some (.struct #[g0,g1])) (hi:P.underlying i=some (.int .i64))
  (hkt:P.keyType k=true) (ck:P.cellsOf k=5) (cr:P.cellsOf r=2) (ci:P.cellsOf i=1) (n:Nat) (hn:P.types.size=n+1+1)
  (t0:f0.type=r) (t1:f1.type=i) (t2:f2.type=i) (t3:f3.type=i) (u0:g0.type=i) (u1:g1.type=i)
  (o0:f0.offset=0) (o1:f1.offset=2) (o2:f2.offset=3) (o3:f3.offset=4) (v0:g0.offset=0) (v1:g1.offset=1)
  (n0 : (f0.name != "_") = true) (n1 : (f1.name != "_") = true) (n2 : (f2.name != "_") = true) (n3 : (f3.name != "_") = true) (m0 : (g0.name != "_") = true) (m1 : (g1.name != "_") = true)
  (x:Kn) (h:x.ok):∃ l,keyOf P k (knV x)=some l:=by
 unfold keyOf
 have h0:=wf64 h.p0
 have h1:=wf64 h.p1
 have h2:=wf64 (a:=x.tips) (by have:=h.tips;omega)
 have h3:=wf64 (a:=x.roots) (by have:=h.roots;omega)
 have h4:=wf64 (a:=x.left) (by have:=h.left;omega)
 simp only [bne_iff_ne,ne_eq] at n0 n1 n2 n3 m0 m1
 simp [hk,hkt,Value.formed,ck,hn,Program.keyLits,Value.cells,hr,hi,cr,ci,h0,h1,h2,h3,h4,t0,t1,t2,t3,u0,u1,o0,o1,o2,o3,v0,v1,n0,n1,n2,n3,m0,m1]
 rw [if_pos (by intro i hi;match i,hi with | 0,_=>exact m0 | 1,_=>exact m1)]
 simp
theorem Tryz.laidOut:laidOutB prog=true:=by kernel_rfl
theorem Tryz.rowKn:(247:TypeId) < prog.types.size:=of_decide_eq_true (by kernel_rfl)
theorem Tryz.wideKn:(match prog.underlying 247 with | some (.array _ _) | some (.struct _)=>true | _=>false)=true:=by rw [underlying247]
theorem Tryz.atKn:prog.keyTypeAt 4 247=true:=by kernel_rfl
theorem Tryz.keyed:Keyed prog 247:=by
 refine Keyed.of_law (deep_law_laid Tryz.laidOut (m:=4) ?_ ?_ Tryz.atKn ?_)
 · omega
 · exact Tryz.rowKn
 · exact Tryz.wideKn
theorem Tryz.zeroBool (w:World):(zeroValue 4).run prog w=.ok (.bool false) w:=by kernel_rfl
theorem Tryz.keyTypeKn:prog.keyType 247=true:=by kernel_rfl
theorem Tryz.cellsKn:prog.cellsOf 247=5:=by kernel_rfl
theorem Tryz.cellsRg:prog.cellsOf 26=2:=by kernel_rfl
theorem Tryz.cellsInt:prog.cellsOf 3=1:=by kernel_rfl
theorem Tryz.typesLe:(2:Nat)≤prog.types.size:=of_decide_eq_true (by kernel_rfl)
theorem Tryz.typesSome:prog.types.size=(prog.types.size - 2)+1+1:=by have:=Tryz.typesLe;omega
theorem Tryz.kn_key (x:Kn) (h:x.ok):∃ l,keyOf prog 247 (knV x)=some l :=
 kn_key_of underlying247 underlying26 underlying3 Tryz.keyTypeKn Tryz.cellsKn Tryz.cellsRg Tryz.cellsInt _ Tryz.typesSome rfl rfl rfl rfl rfl rfl rfl rfl rfl rfl rfl rfl (by decide) (by decide) (by decide) (by decide) (by decide) (by decide) x h
end
section
open Go.RowKit
open Go.Maps (Keyed)
abbrev kx (p:Int×Int):Value:=.agg #[.int .i64 p.1,.int .i64 p.2]
theorem kx_inj {p q:Int×Int} (h:kx p=kx q):p=q:=by
 cases p;cases q
 simp [kx] at h
 simp [h]
structure SetF (P:Program) (k:TypeId) (n:Nat) (S:Int×Int→Prop) (es:Array MapEntry) (clock:Nat):Prop where
 st:MapKept.Stamped es clock
 size:es.size≤n
 get:∀ e∈es.toList,∃ p,e.key=kx p∧S p∧∃ l,keyOf P k (kx p)=some l
 has:∀ p,S p→∃ e∈es.toList,e.key=kx p
def setQ (P:Program) (k:TypeId) (n:Nat) (S:Int×Int→Prop) (o:Obj):Prop:=∃ es clock,o=.map es clock∧SetF P k n S es clock
def mapC (es:Array MapEntry) (clock:Nat):BA:=.any fun o=>o=.map es clock
def itQ (b:Nat) (es:Array MapEntry) (clock:Nat) (left:Int×Int→Prop) (cnt:Nat) (cur:Option MapEntry) (o:Obj):Prop :=
 ∃ since seen c0,o=.mapIter (some b) since seen c0∧(∀ x∈es.toList,x.born < since)∧(leftOf es seen).size=cnt∧(∀ x∈es.toList,∀ p,x.key=kx p→(left p↔seen.contains x.born=false))∧since≤c0∧since≤clock ∧
  ∀ x,cur=some x→∃ s0:Array Nat,seen=s0.push x.born∧c0=clock
section
variable {P:Program} {k:TypeId} {n:Nat} {S:Int×Int→Prop} {es:Array MapEntry} {clock:Nat}
theorem SetF.new (P:Program) (k:TypeId):SetF P k 0 (fun _=>False) #[] 0:=⟨MapKept.stamped_empty 0,by simp,fun e he=>by simp at he,fun v h=>h.elim⟩
theorem SetF.empty (h:SetF P k n S es clock):(es.size=0)↔∀ v,¬ S v:=by
 constructor
 ·intro h0 v hv
  obtain ⟨e,he,_⟩:=h.has v hv
  have:es = #[]:=Array.eq_empty_of_size_eq_zero h0
  subst this
  simp at he
 ·intro hS
  rcases Nat.eq_zero_or_pos es.size with h0 | h0
  ·exact h0
  ·obtain ⟨p,_,hp,_⟩:=h.get es[0] (by simp)
   exact absurd hp (hS _)
theorem SetF.iff {S':Int×Int→Prop} {n':Nat} (h:SetF P k n S es clock) (hS:∀ v,S v↔S' v) (hn:n≤n'):SetF P k n' S' es clock :=
 ⟨h.st,Nat.le_trans h.size hn,fun e he=>let ⟨p,h1,h2,h3⟩:=h.get e he;⟨p,h1,(hS _).1 h2,h3⟩,fun v hv=>h.has v ((hS v).2 hv)⟩
theorem SetF.find (h:SetF P k n S es clock):∀ e∈es.toList,∃ l,keyOf P k e.key=some l:=fun e he=>by
 obtain ⟨p,h1,_,h3⟩:=h.get e he
 rw [h1]
 exact h3
theorem SetF.put {w:World} {b:Nat} (h:SetF P k n S es clock) (hb:w.heap[b]? = some (.map es clock)) (K:Keyed P k) {t e:TypeId} (ht:P.underlying t=some (.map k e)) (hn:n < maxLen) {p:Int×Int} {val:Value} {kl:Lit} (hkey:keyOf P k (kx p)=some kl) :
  ∃ w' es' clock',(Instr.mapUpdate t (.map (some b)) (kx p) val).run P w=.ok () w'∧w'.heap[b]? = some (.map es' clock')∧SetF P k (n+1) (fun v=>S v∨v=p) es' clock'∧w.grownBy w' (some b):=by
 have hlt:=(Array.getElem?_eq_some_iff.1 hb).1
 have hc:=K.check w false hkey
 have fin:∀ es' clock',w.grownBy (ChangeMaps.setBlock w b (.map es' clock')) (some b):=fun es' clock' =>
  ⟨rfl,rfl,rfl,by simp [ChangeMaps.setBlock],fun i _ hi=>ChangeMaps.heap_setBlock_other hb _ (fun e=>hi (by rw [e]))⟩
 obtain ⟨key,ek⟩:∃ key,kx p=key:=⟨_,rfl⟩
 rw [ek] at hkey hc ⊢
 rcases K.find w hkey es.toList h.find with ⟨hf,hno⟩ | ⟨j,e0,hf,hj,hk0⟩
 ·refine ⟨ChangeMaps.setBlock w b (.map (es.push { key,val,born:=clock }) (clock+1)),es.push { key,val,born:=clock },clock+1,?_,ChangeMaps.heap_setBlock_same hb _,⟨MapKept.stamped_push h.st hno,by have:=h.size;simp;omega,fun e he=>?_,fun v hv=>?_⟩,fin _ _⟩
  ·unfold Instr.mapUpdate
   simp [run_underlying ht,MapKept.run_getObj_map hb,hc,hf,Result.andThen,MapKept.run_setObj_map _ hb,ChangeMaps.setBlock]
  ·simp only [Array.toList_push,List.mem_append,List.mem_singleton] at he
   rcases he with he | rfl
   ·obtain ⟨q,h1,h2,h3⟩:=h.get e he
    exact ⟨q,h1,.inl h2,h3⟩
   ·exact ⟨p,ek.symm,.inr Z,kl,ek ▸ hkey⟩
  ·rcases hv with hv | rfl
   ·obtain ⟨e,he,hk⟩:=h.has v hv
    exact ⟨e,by simp only [Array.toList_push,List.mem_append];exact .inl he,hk⟩
   ·exact ⟨{ key,val,born:=clock },by simp,ek.symm⟩
 ·have hj':es[j]? = some e0:=by simpa using hj
  have hin:∀ e∈es.toList,∃ e'∈(es.modify j fun e=>{ e with key,val:=val }).toList,e'.key=e.key:=fun e he=>by
   obtain ⟨i,hi⟩:=List.getElem?_of_mem he
   rw [Array.getElem?_toList] at hi
   by_cases hij:j=i
   ·subst hij
    rw [hj'] at hi
    cases hi
    refine ⟨{ e0 with key,val:=val },?_,hk0.symm⟩
    refine List.mem_of_getElem? (i:=j) ?_
    rw [Array.getElem?_toList,Array.getElem?_modify]
    simp [hj']
   ·refine ⟨e,List.mem_of_getElem? (i:=i) ?_,Z⟩
    rw [Array.getElem?_toList,Array.getElem?_modify,if_neg hij]
    exact hi
  refine ⟨ChangeMaps.setBlock w b (.map (es.modify j fun e=>{ e with key,val:=val }) clock),es.modify j fun e=>{ e with key,val:=val },clock,?_,ChangeMaps.heap_setBlock_same hb _,⟨MapKept.stamped_modify h.st _ _ (fun _ _=>Z) (fun e1 _ he1=>?_),by have:=h.size;simp;omega,fun e he=>?_,fun v hv=>?_⟩,fin _ _⟩
  ·unfold Instr.mapUpdate
   have hs:=K.stays w hkey
   simp [run_underlying ht,MapKept.run_getObj_map hb,hc,hf,Result.andThen,MapKept.run_setObj_map _ hb,ChangeMaps.setBlock,hj',hk0,hs]
  ·rw [hj'] at he1
   cases he1
   exact hk0.symm
  ·obtain ⟨i,hi⟩:=List.getElem?_of_mem he
   rw [Array.getElem?_toList,Array.getElem?_modify] at hi
   split at hi
   ·obtain ⟨e1,_,rfl⟩:=Option.map_eq_some_iff.1 hi
    exact ⟨p,ek.symm,.inr Z,kl,ek ▸ hkey⟩
   ·have h2:e∈es.toList:=by rw [← Array.getElem?_toList] at hi;exact List.mem_of_getElem? hi
    obtain ⟨q,h1,h2,h3⟩:=h.get e h2
    exact ⟨q,h1,.inl h2,h3⟩
  ·rcases hv with hv | rfl
   ·obtain ⟨e,he,hk⟩:=h.has v hv
    obtain ⟨e',h1,h2⟩:=hin e he
    exact ⟨e',h1,h2.trans hk⟩
   ·obtain ⟨e',h1,h2⟩:=hin e0 (List.mem_of_getElem? hj)
    exact ⟨e',h1,(h2.trans hk0).trans ek.symm⟩
theorem SetF.len {w:World} {b:Nat} (hb:w.heap[b]? = some (.map es clock)) {t e:TypeId} (ht:P.underlying t=some (.map k e)) (ty:TypeId):(Builtin.len_ #[t] ty #[.map (some b)]).run P w=.ok (.int .i64 es.size) w:=by
 simp [Builtin.len_,run_underlying ht,MapKept.run_getObj_map hb,goInt]
theorem itQ.next {w:World} {b r cnt:Nat} {left:Int×Int→Prop} {cur:Option MapEntry} {o:Obj} (h:SetF P k n S es clock) (hb:w.heap[b]? = some (.map es clock)) (hr:w.heap[r]? = some o) (hi:itQ b es clock left cnt cur o) (ty:TypeId) :
  ((∀ p,S p→¬ left p)∧(Instr.next (.pointer (some ⟨r,0,none⟩)) false ty).run P w=.ok (.tuple #[.bool false]) w) ∨
  ∃ x p w' o' cnt',x∈es.toList∧x.key=kx p∧S p∧left p∧cnt' < cnt∧(Instr.next (.pointer (some ⟨r,0,none⟩)) false ty).run P w=.ok (.tuple #[.bool true,kx p,x.val]) w'∧w'.heap[r]? = some o' ∧
   itQ b es clock (fun q=>left q∧q≠p) cnt' (some x) o'∧w.grownBy w' (some r):=by
 obtain ⟨since,seen,c0,rfl,hold,rfl,hl,hsc,hsk,-⟩:=hi
 rcases run_next_at (P:=P) w ty r b since c0 seen es clock hr hb hold hsc with ⟨h0,hrun⟩ | ⟨e,he,w1,hal,hrun⟩
 ·refine .inl ⟨fun p hp hlp=>?_,hrun⟩
  obtain ⟨x,hx,hk⟩:=h.has p hp
  have h2:=(hl x hx p hk).1 hlp
  rw [all_seen es seen h0 x hx] at h2
  cases h2
 ·obtain ⟨hem,hes⟩:=mem_left he
  obtain ⟨p,hk,hp,-⟩:=h.get e hem
  have hr1:w1.heap[r]? = some (.mapIter (some b) since seen c0):=by rcases hal with rfl | rfl <;> exact hr
  have hset:=MapKept.heap_set (o':=.mapIter (some b) since (seen.push e.born) clock) hr1
  refine .inr ⟨e,p,_,_,_,hem,hk,hp,(hl e hem p hk).2 hes,left_shrinks es seen e he,by rw [← hk];exact hrun,hset.1,⟨since,seen.push e.born,clock,Z,hold,Z,fun x hx q hq=>?_,hsk,hsk,fun y hy=>?_⟩,?_⟩
  ·have hst:=(MapKept.stamped_iff es clock).1 h.st
   rw [contains_push,Bool.or_eq_false_iff,← hl x hx q hq]
   constructor
   ·rintro ⟨h1,h2⟩
    refine ⟨h1,?_⟩
    rw [beq_eq_false_iff_ne]
    intro hb2
    have:=born_inj hst.2.1 hx hem hb2
    subst this
    exact h2 (kx_inj (hq.symm.trans hk))
   ·rintro ⟨h1,h2⟩
    refine ⟨h1,fun e1=>?_⟩
    subst e1
    have:=entry_eq_of_key hst.2.2 hx hem (hq.trans hk.symm)
    subst this
    simp at h2
  ·cases hy
   exact ⟨seen,Z,Z⟩
  ·rcases hal with rfl | rfl <;> exact ⟨rfl,rfl,rfl,by simp [ChangeMaps.setBlock],fun i _ hi=>hset.2 i (fun e1=>hi (by rw [e1]))⟩
theorem itQ.entry {w:World} {b r cnt:Nat} {left:Int×Int→Prop} {x:MapEntry} {o:Obj} {p:Int×Int} (h:SetF P k n S es clock) (hb:w.heap[b]? = some (.map es clock)) (hr:w.heap[r]? = some o) (hi:itQ b es clock left cnt (some x) o) (hx:x∈es.toList) (hk:x.key=kx p) :
  (Instr.entry (.pointer (some ⟨r,0,none⟩))).run P w=.ok (.tuple #[kx p,x.val]) w:=by
 obtain ⟨since,seen,c0,rfl,hold,rfl,hl,hsc,hsk,hc⟩:=hi
 obtain ⟨s0,e1,e2⟩:=hc x rfl
 rw [e1,e2] at hr
 rw [← hk]
 exact run_entry_at w r b since s0 es clock x hr hb hx ((MapKept.stamped_iff es clock).1 h.st).2.1
end
section
variable {P:Program} {ops:Array Oper} {rest:List Oper} {op:Oper} {a:Act} {Q:Exit→Act→World→Prop} {df:List Deferred} {w0 w:World} {ex:Nat→Prop} {L L':List (Nat×BA)} {k e ty:TypeId} {n nn t:Nat} {E:List (Nat×Value)} {K:Act→World→Prop}
theorem Mem.alter {g:Nat} {p p':BA} (M:Mem w0 ex w L) (hu:Upd L g p p' L') (h:p'.holds w g):Mem w0 ex w L':=by
 have hg:=(M.blk _ hu.mem).1
 exact M.write hu ⟨rfl,Z,Z,Z,fun _ _=>Z⟩ h
theorem Mem.openS {g:Nat} {S:Int×Int→Prop} {Lf:Array MapEntry→Nat→List (Nat×BA)} (M:Mem w0 ex w L) (hu:∀ es clock,Upd L g (.any (setQ P k n S)) (mapC es clock) (Lf es clock)):∃ es clock,SetF P k n S es clock∧Mem w0 ex w (Lf es clock):=by
 obtain ⟨o,hb,es,clock,rfl,hS⟩:=M.at (hu #[] 0).mem
 exact ⟨es,clock,hS,M.alter (hu es clock) ⟨_,hb,Z⟩⟩
theorem Mem.chS {g n':Nat} {S S':Int×Int→Prop} (M:Mem w0 ex w L) (hu:Upd L g (.any (setQ P k n S)) (.any (setQ P k n' S')) L') (hS:∀ v,S v↔S' v) (hn:n≤n'):Mem w0 ex w L':=by
 obtain ⟨o,hb,es,clock,rfl,h⟩:=M.at hu.mem
 exact M.alter hu ⟨_,hb,es,clock,Z,h.iff hS hn⟩
theorem rn_indexA {s e : TypeId} {x y : Operand} {g o size m : Nat} (k : Nat) (ho : op.op = .indexAddr s x y) (hx : a.eval x = .pointer (some ⟨g, o, none⟩)) (hy : a.eval y = .int .i64 (k : Int))
   (hu:P.underlying s=some (.array m e)) (he:(P.info? e).map (·.size)=some size) (hk:Nat.blt k m=true):Runs P op a (.pointer (some ⟨g,o+k * size,none⟩)) w:=by
 have hk2:k < m:=by simpa using hk
 unfold Runs execOp
 simp only [ho,hx,hy]
 cases hi:P.info? e with
 | none=>rw [hi] at he;simp at he
 | some inf =>
   rw [hi] at he
   simp at he
   have hm':(k:Int) < (m:Int):=by omega
   simp [Instr.indexAt,asIntOf,Sem.run_bind,run_underlying,hu,sizeOf,typeInfo,hi,he,Addr.add,hk2,Instr.sureAddr,Result.andThen]
theorem ow_mm (M:Mem w0 ex w L) (T:TmD df a nn E) (ho:op.op=.makeMap ty none) (ht:P.underlying ty=some (.map k e)) (hd:op.dst=some t) (hf:freshE E t=true) (hn:Nat.blt t nn=true)
  (h:∀ g w' a',Mem w0 ex w' ((g,.any (setQ P k 0 fun _=>False))::L)→TmD df a' nn ((t,.map (some g))::E)→K a' w'):op.wp P a w K Q:=by
 unfold Oper.wp execOp
 simp only [ho,Option.map_none,run_makeMap,Sem.run_bind,Result.andThen_ok,Sem.run_pure]
 rw [Oper.upon_value,hd]
 exact h _ _ _ (M.newAny _ _ ⟨#[],0,Z,SetF.new P k⟩) (T.put hn hf _)
theorem ow_mu {x y z:Operand} {g:Nat} {S:Int×Int→Prop} {p:Int×Int} {val:Value} {kl:Lit} (Kd:Keyed P k) (ht:P.underlying ty=some (.map k e)) (M:Mem w0 ex w L) (T:TmD df a nn E) (ho:op.op=.mapUpdate ty x y z) (hd:op.dst=none) (hx:a.eval x=.map (some g)) (hy:a.eval y=kx p) (hz:a.eval z=val)
  (hu:Upd L g (.any (setQ P k n S)) (.any (setQ P k (n+1) fun v=>S v∨v=p)) L') (hkey:keyOf P k (kx p)=some kl) (hn:n < maxLen) (h:∀ w' a',Mem w0 ex w' L'→TmD df a' nn E→K a' w'):op.wp P a w K Q:=by
 obtain ⟨o,hb,es,clock,rfl,hS⟩:=M.at hu.mem
 obtain ⟨w',es',clock',hr,hb',hS',hg⟩:=hS.put hb Kd ht hn (val:=val) hkey
 unfold Oper.wp execOp
 simp only [ho,hx,hy,hz,hr,Sem.run_bind,Result.andThen_ok,Sem.run_pure]
 show K (a.put op.dst undef) w'
 rw [hd]
 exact h _ _ (M.callW hu hg ⟨_,hb',es',clock',Z,hS'⟩) (T.put0 _)
theorem rn_lenM {x:Operand} {g:Nat} {es:Array MapEntry} {clock:Nat} (hb:BA.holds w g (mapC es clock)) (ht:P.underlying ty=some (.map k e)) (ho:op.op=.call { callee:=.builtin .len,args:=#[x],argTypes:=#[ty] }) (hx:a.eval x=.map (some g)):Runs P op a (.int .i64 es.size) w:=by
 obtain ⟨o,hb,ho2⟩:=hb
 subst ho2
 unfold Runs execOp
 simp [ho,resolve,invoke,builtin,hx,Sem.run_bind,SetF.len hb ht]
theorem ow_range {x:Operand} {g:Nat} {S:Int×Int→Prop} {es:Array MapEntry} {clock:Nat} (hS:SetF P k n S es clock) (ht:P.underlying ty=some (.map k e)) (M:Mem w0 ex w L) (hm:(g,mapC es clock)∈L) (T:TmD df a nn E) (ho:op.op=.range ty x) (hd:op.dst=some t) (hf:freshE E t=true) (hn:Nat.blt t nn=true) (hx:a.eval x=.map (some g))
  (h:∀ r w' a',Mem w0 ex w' ((r,.any (itQ g es clock (fun _=>True) es.size none))::L)→TmD df a' nn ((t,.pointer (some ⟨r,0,none⟩))::E)→K a' w'):op.wp P a w K Q:=by
 obtain ⟨o,hb,ho2⟩:=M.at hm
 subst ho2
 unfold Oper.wp execOp
 simp only [ho,hx,run_range_map w ty k e g es clock ht hb,Sem.run_bind,Result.andThen_ok,Sem.run_pure]
 rw [Oper.upon_value,hd]
 refine h _ _ _ (M.newAny _ _ ⟨clock,#[],clock,Z,hS.st.1,?_,fun x hx p hp=>by simp,Nat.le_refl _,Nat.le_refl _,fun x h=>by cases h⟩) (T.put hn hf _)
 simp [leftOf]
theorem ow_next {x:Operand} {g r cnt:Nat} {S:Int×Int→Prop} {es:Array MapEntry} {clock:Nat} {left:Int×Int→Prop} {cur:Option MapEntry} {Lf:(Int×Int→Prop)→Nat→Option MapEntry→List (Nat×BA)} (hS:SetF P k n S es clock) (M:Mem w0 ex w L) (hm:(g,mapC es clock)∈L) (T:TmD df a nn E) (ho:op.op=.next x false) (hd:op.dst=some t) (hf:freshE E t=true) (hn:Nat.blt t nn=true)
  (hx:a.eval x=.pointer (some ⟨r,0,none⟩)) (hu:∀ left' cnt' cur',Upd L r (.any (itQ g es clock left cnt cur)) (.any (itQ g es clock left' cnt' cur')) (Lf left' cnt' cur'))
  (h0:(∀ p,S p→¬ left p)→∀ w' a',Mem w0 ex w' L→TmD df a' nn ((t,.tuple #[.bool false])::E)→K a' w')
  (h1:∀ (x:MapEntry) (p0 p1:Int) (xv:Value) (cnt':Nat),x∈es.toList→x.key=kx (p0,p1)→x.val=xv→S (p0,p1)→left (p0,p1)→cnt' < cnt→∀ w' a',Mem w0 ex w' (Lf (fun q=>left q∧q≠(p0,p1)) cnt' (some x))→TmD df a' nn ((t,.tuple #[.bool true,.agg #[.int .i64 p0,.int .i64 p1],xv])::E)→K a' w'):op.wp P a w K Q:=by
 obtain ⟨o,hb,ho2⟩:=M.at hm
 subst ho2
 obtain ⟨oi,hr,hi⟩:=M.at (hu left cnt cur).mem
 unfold Oper.wp execOp
 rcases itQ.next (P:=P) hS hb hr hi op.type with ⟨hno,hrun⟩ | ⟨y,⟨p0,p1⟩,w',o',cnt',hy,hk,hp,hlp,hlt,hrun,hr',hi',hg⟩
 ·simp only [ho,hx,hrun,Sem.run_bind,Result.andThen_ok,Sem.run_pure]
  rw [Oper.upon_value,hd]
  exact h0 hno _ _ M (T.put hn hf _)
 ·simp only [ho,hx,hrun,Sem.run_bind,Result.andThen_ok,Sem.run_pure]
  rw [Oper.upon_value,hd]
  exact h1 y p0 p1 _ cnt' hy hk Z hp hlp hlt _ _ (M.callW (hu _ _ _) hg ⟨_,hr',hi'⟩) (T.put hn hf _)
theorem ow_entry {x:Operand} {g r cnt:Nat} {S:Int×Int→Prop} {es:Array MapEntry} {clock:Nat} {left:Int×Int→Prop} {y:MapEntry} {p0 p1:Int} {xv:Value} (hS:SetF P k n S es clock) (hy:y∈es.toList) (hk:y.key=kx (p0,p1)) (hv:y.val=xv) (M:Mem w0 ex w L) (hm:(g,mapC es clock)∈L) (hm2:(r,BA.any (itQ g es clock left cnt (some y)))∈L) (T:TmD df a nn E) (ho:op.op=.entry x) (hd:op.dst=some t) (hf:freshE E t=true) (hn:Nat.blt t nn=true)
  (hx:a.eval x=.pointer (some ⟨r,0,none⟩)) (h:∀ a',TmD df a' nn ((t,.tuple #[.agg #[.int .i64 p0,.int .i64 p1],xv])::E)→K a' w):op.wp P a w K Q:=by
 obtain ⟨o,hb,ho2⟩:=M.at hm
 subst ho2
 obtain ⟨oi,hr,hi⟩:=M.at hm2
 subst hv
 unfold Oper.wp execOp
 simp only [ho,hx,itQ.entry (P:=P) hS hb hr hi hy hk,Sem.run_bind,Result.andThen_ok,Sem.run_pure]
 rw [Oper.upon_value,hd]
 exact h _ (T.put hn hf _)
end
end
section
open Go.RowKit Go.Shelf
section
variable {F:Fence} {nF:Nat} {P:Program} {ops:Array Oper} {rest:List Oper} {op:Oper} {a:Act} {Q:Exit→Act→World→Prop} {w0 w:World} {ex:Nat→Prop} {L:List (Nat×BA)}
theorem i_ld1 {ty:TypeId} [OneTy P ty] {x:Operand} {g o:Nat} {cs:List Value} {v:Value} (M:Mem w0 ex w L) (hgd:op.guard=none) (ho:op.op=.load ty x) (hx:a.eval x=.pointer (some ⟨g,o,none⟩)) (hm:(g,BA.cells cs)∈L)
  (hv:cs[o]? = some v) (h:wpListIn F nF P ops Q rest (a.put op.dst v) w):wpListIn F nF P ops Q (op::rest) a w :=
 wpListIn_plain hgd fun _ hK=>by
  unfold Oper.wpIn
  refine ⟨by simp [Oper.about,ho],?_⟩
  rw [Oper.semAt_plain F _ _ (by rw [ho];intro c hc';cases hc')]
  unfold execOp
  simp only [ho,hx,Instr.loadAt,Instr.sureAddr,Sem.run_bind,Sem.run_pure,Result.andThen_ok,run_load_one (M.get hm) hv]
  exact hK _ _ h
theorem i_lor {ty:TypeId} {n:Nat} [RowTy P ty n] {x:Operand} {g o:Nat} {cs ds:List Value} (hB:Bk w g cs.toArray) (hgd:op.guard=none) (ho:op.op=.load ty x) (hx:a.eval x=.pointer (some ⟨g,o,none⟩))
  (hd:(cs.drop o).take n=ds) (hn:Nat.ble (o+n) cs.length=true) (h:wpListIn F nF P ops Q rest (a.put op.dst (.agg ds.toArray)) w):wpListIn F nF P ops Q (op::rest) a w :=
 wpListIn_plain hgd fun _ hK=>by
  unfold Oper.wpIn
  refine ⟨by simp [Oper.about,ho],?_⟩
  rw [Oper.semAt_plain F _ _ (by rw [ho];intro c hc';cases hc')]
  unfold execOp
  simp only [ho,hx,Instr.loadAt,Instr.sureAddr,Sem.run_bind,Sem.run_pure,Result.andThen_ok,run_load_row hB hd hn]
  exact hK _ _ h
theorem i_st {ty : TypeId} {x y : Operand} {g o : Nat} {v : Value} {cs ds cs' : List Value} {L' : List (Nat × BA)} (M : Mem w0 ex w L) (hgd : op.guard = none) (ho : op.op = .store ty x y) (hx : a.eval x = .pointer (some ⟨g, o, none⟩)) (hy : a.eval y = v) (hv : v.cells = ds.toArray)
   (hu:Upd L g (.cells cs) (.cells cs') L') (hc:cs.take o++ds++cs.drop (o+ds.length)=cs') (hs:o+ds.length≤cs.length) (h1:ds.all (·.oneCell')=true) (hi:(P.info? ty).map (·.size)=some ds.length)
   (h:∀ w',Mem w0 ex w' L'→Oth w w' g→wpListIn F nF P ops Q rest (a.put op.dst undef) w'):wpListIn F nF P ops Q (op::rest) a w :=
 wpListIn_plain hgd fun _ hK=>by
   have hB:=M.get hu.mem
   unfold Oper.wpIn
   refine ⟨by simp [Oper.about,ho],?_⟩
   rw [Oper.semAt_plain F _ _ (by rw [ho];intro c hc';cases hc')]
   unfold execOp
   simp only [ho,hx,hy,Instr.storeAt,Instr.sureAddr,Sem.run_bind,Sem.run_pure,Result.andThen_ok,run_store_any hi hB hv h1 hs]
   exact hK _ _ (h _ (M.write hu (Oth.setCells g _ _ _) (hB.storeAt o ds cs' (by simpa using hs) (by simpa using hc.symm))) (Oth.setCells g _ _ _))
end
end
abbrev FW (l:Nat):Fence:=Fence.wide.inRound l
section
variable {df:List Deferred} {P:Program} {ops:Array Oper} {rest:List Oper} {op:Oper} {a:Act} {Q:Exit→Act→World→Prop} {w0 w:World} {ex:Nat→Prop} {L:List (Nat×BA)} {K:Act→World→Prop} {n t l nn:Nat} {E:List (Nat×Value)} {v:Value}
theorem opIn (hd:∀ c,op.op≠.defer c) (h:op.wp P a w K Q):op.wpIn (FW l) nn P a w K Q:=by
 refine ⟨fun _ _=>trivial,?_⟩
 rw [Oper.semAt_plain (FW l) _ _ hd]
 unfold Oper.wp at h
 cases hr:(execOp a.eval op).run P w with
 | ok nx w' =>
  rw [hr] at h
  cases nx with
  | value v=>exact h
  | skip=>exact h
  | defer d=>exact h
  | enter f args=>exact ⟨fun h9=>by simp [Fence.wide] at h9,CallsIn.inRound l (callsIn_wide.2 h)⟩
  | row r args=>exact ⟨fun h9=>by simp [Fence.wide] at h9,fun c cs _=>let ⟨v,w2,r2,s2⟩:=h c cs;⟨v,w2,r2,stepsIn_wide.2 s2⟩⟩
  | _=>exact h.elim
 | halt hh w' =>
  rw [hr] at h
  cases hh with
  | panic v=>exact h
  | _=>exact h.elim
end
def noDefer (l:List Oper):Bool:=l.all fun o=>match o.op with | .defer _=>false | _=>true
theorem noDefer_at {l:List Oper} (h:noDefer l=true) {o:Oper} (ho:o∈l) (c:Call):o.op≠.defer c:=fun e=>by
 have h2:=List.all_eq_true.1 h o ho
 rw [e] at h2
 cases h2
section
variable {P:Program} {ops:Array Oper} {a:Act} {Q:Exit→Act→World→Prop} {w0 w:World} {ex:Nat→Prop} {L:List (Nat×BA)} {l nn:Nat}
theorem wpListIn_of (hL:∀ a w,Q .outgrown a w→False):∀ (rest:List Oper),noDefer rest=true→∀ (a:Act) (w:World),wpList P ops Q rest a w→wpListIn (FW l) nn P ops Q rest a w
 | [],_,_,_,h=>h
 | o::rest,hd,a,w,h=>wpListIn_step fun K hK=>by
  have hd2:noDefer rest=true:=by
   unfold noDefer at hd ⊢
   rw [List.all_cons,Bool.and_eq_true] at hd
   exact hd.2
  unfold wpList at h
  split
  ·rename_i hw
   rw [if_pos hw] at h
   rcases h with h | ⟨_,a',w',h'⟩
   ·exact opIn (noDefer_at hd Zz2) (Oper.wp_mono (fun a w h=>hK a w (wpListIn_of hL rest hd2 a w h)) h)
   ·exact (hL _ _ h').elim
  ·rename_i hw
   rw [if_neg hw] at h
   exact ⟨fun _ _=>trivial,hK _ _ (wpListIn_of hL rest hd2 _ _ h)⟩
theorem ri_lit {id:Nat} {os:List Oper} (hL:∀ a w,Q .outgrown a w→False) (hd:noDefer os=true) (h:wpList P os.toArray Q os a w):(Code.region id os.toArray false).wpIn (FW l) nn P Q a w :=
 wpIn_region_lit (wpListIn_of hL os hd a w h)
open Classical in
theorem li_loop_n {F:Fence} {c:Code} (I:Nat→Act→World→Prop) (h₀':∃ m,I m a w)
  (round:∀ m a w,I m a w→c.wpIn F nn P (Exit.then (fun a' w'=>∃ m',m' < m∧I m' a' w') Q) a w):(Code.loop c).wpIn F nn P Q a w:=by
 obtain ⟨m,h₀⟩:=h₀'
 have least:∀ a w,(∃ m,I m a w)→∃ m,I m a w∧∀ k,I k a w→m≤k:=fun a w ⟨m,hm⟩=>by
  induction m using Nat.strongRecOn with
  | _ m ih =>
   by_cases h:∃ k,k < m∧I k a w
   ·obtain ⟨k,hk,hi⟩:=h;exact ih k hk hi
   ·exact ⟨m,hm,fun k hk=>Nat.le_of_not_lt fun hl=>h ⟨k,hl,hk⟩⟩
 refine wpIn_loop (fun a w=>∃ m,I m a w) (fun a w=>if h:∃ m,I m a w then Classical.choose (least a w h) else 0) ⟨m,h₀⟩ fun a w h=>?_
 obtain ⟨h1,h2⟩:=Classical.choose_spec (least a w h)
 refine wpIn_mono (round _ a w h1) fun e a' w' q=>?_
 cases e with
 | normal =>
  obtain ⟨m',hlt,hm'⟩:=q
  refine ⟨⟨m',hm'⟩,?_⟩
  simp only [dif_pos (show ∃ m,I m a w from h),dif_pos (show ∃ m,I m a' w' from ⟨m',hm'⟩)]
  exact Nat.lt_of_le_of_lt ((Classical.choose_spec (least a' w' ⟨m',hm'⟩)).2 m' hm') hlt
 | _=>exact q
end
section
open Go.RowKit Go.Shelf
def BA.isC:BA→Bool
 | .cells (_::_)=>true
 | .row ..=>true
 | _=>false
def farOk (n0:Nat) (L:List (Nat×BA)):Prop:=∀ p∈L,p.1 < n0∨p.2.isC=true
theorem BA.isC_cells {W:World} {g:Nat} {p:BA} (h:p.holds W g) (hc:p.isC=true) {o:Obj} (ho:W.heap[g]? = some o):o.isCells=true:=by
 cases p with
 | cells l =>
  cases l with
  | nil=>simp [BA.isC] at hc
  | cons x l =>
   have h1:=(show Bk W g (x::l).toArray from h).cell 0
   simp only [World.cell?,ho] at h1
   cases o <;> simp_all [Obj.isCells]
 | row e size n xs cap =>
  obtain ⟨h1,h2⟩:=h
  obtain ⟨-,h3⟩:=h1
  rcases h3 with ⟨h3,-⟩ | ⟨g',c',cur,h3,-,hb,-⟩
  ·cases h3
  ·injection h3 with h3 _ _
   injection h3 with h3
   injection h3 with h3 _ _
   subst h3
   rw [ho] at hb
   injection hb with hb
   subst hb
   rfl
 | any Q=>simp [BA.isC] at hc
theorem Mem.far2 {w0 w w':World} {ex:Nat→Prop} {L:List (Nat×BA)} {n0:Nat} {row:Option Nat} (M:Mem w0 ex w L) (hg:w.grownBy w' row)
  (hr:∀ r,row=some r→n0≤r∧∃ o:Obj,w.heap[r]? = some o∧o.isCells=false) (h0:w0.heap.size≤n0) (hL:farOk n0 L):Mem w0 ex w' L :=
 ⟨hg.os.trans M.os,hg.tape.trans M.tape,hg.output.trans M.output,Nat.le_trans M.size hg.size,
  fun b hb hx=>(hg.block b (Nat.lt_of_lt_of_le hb M.size) (fun e=>by have:=(hr b e.symm).1;omega)).trans (M.block b hb hx),
  fun p hp=>⟨(M.blk p hp).1,BA.same (M.blk p hp).2 hg.size (hg.block _ (BA.lt (M.blk p hp).2) (fun e=>by
   obtain ⟨h1,o,ho,hc⟩:=hr _ e.symm
   rcases hL p hp with h | h
   ·omega
   ·have:=BA.isC_cells (M.blk p hp).2 h ho
    rw [hc] at this
    cases this))⟩,M.nd⟩
def inL (L:List (Nat×BA)) (b:Nat):Prop:=b∈L.map (·.1)
theorem Mem.rebase {w0 w:World} {ex:Nat→Prop} {L:List (Nat×BA)} (M:Mem w0 ex w L):Mem w (inL L) w L :=
 ⟨rfl,rfl,rfl,Nat.le_refl _,fun _ _ _=>rfl,fun p hp=>⟨.inr (List.mem_map.2 ⟨p,hp,rfl⟩),(M.blk p hp).2⟩,M.nd⟩
theorem Mem.back {w0 w w':World} {ex:Nat→Prop} {L L':List (Nat×BA)} (M:Mem w0 ex w L) (M':Mem w (inL L) w' L'):Mem w0 ex w' L' :=
 ⟨M'.os.trans M.os,M'.tape.trans M.tape,M'.output.trans M.output,Nat.le_trans M.size M'.size,
  fun b hb hx=>(M'.block b (Nat.lt_of_lt_of_le hb M.size) (fun h=>by
   obtain ⟨p,hp,rfl⟩:=List.mem_map.1 h
   rcases (M.blk p hp).1 with h | h
   ·omega
   ·exact hx h)).trans (M.block b hb hx),
  fun p hp=>⟨by
   rcases (M'.blk p hp).1 with h | h
   ·exact .inl (Nat.le_trans M.size h)
   ·obtain ⟨q,hq,e⟩:=List.mem_map.1 h
    rw [← e]
    exact (M.blk q hq).1,(M'.blk p hp).2⟩,M'.nd⟩
theorem Mem.lt {w0 w:World} {ex:Nat→Prop} {L:List (Nat×BA)} (M:Mem w0 ex w L) {g:Nat} {p:BA} (h:(g,p)∈L):g < w.heap.size:=BA.lt (M.blk _ h).2
def KpE (n0:Nat) (eb:Nat→Prop) (W W':World):Prop:=W.heap.size≤W'.heap.size∧∀ b,b < n0→¬ eb b→W'.heap[b]? = W.heap[b]?
theorem KpE.t {n0:Nat} {eb:Nat→Prop} {A B C:World} (h:KpE n0 eb A B) (k:KpE n0 eb B C):KpE n0 eb A C:=⟨Nat.le_trans h.1 k.1,fun b hb hx=>(k.2 b hb hx).trans (h.2 b hb hx)⟩
theorem KpE.bk {n0 g:Nat} {eb:Nat→Prop} {W W':World} {cs:Array Value} (h:KpE n0 eb W W') (hB:Bk W g cs) (hg:g < n0) (hx : ¬ eb g):Bk W' g cs :=
 ⟨Nat.lt_of_lt_of_le hB.lt h.1,fun o=>(World.cell?_of_block (w:=W) (a:=⟨g,o,none⟩) (h.2 g hg hx)).trans (hB.cell o),fun o=>(World.frozen?_of_block (w:=W) (a:=⟨g,o,none⟩) (h.2 g hg hx)).trans (hB.frozen o)⟩
def rPost {α:Type} (W:World) (exb:Nat→Prop) (J:List α→List (Nat×BA)→Prop) (Jx:Code→List α→List (Nat×BA)→Prop) (xs:List α):Exit→Act→World→Prop
 | .normal,_,W'=>∃ L,J xs L∧Mem W exb W' L
 | .ret,_,W'=>∃ L,Jx .ret xs L∧Mem W exb W' L
 | .exit id,_,W'=>∃ L,Jx (.exit id) xs L∧Mem W exb W' L
 | _,_,_=>False
def dfA:BA:=.any fun o=>o=.deferred (some [])
abbrev dfD (D:Nat):Deferred:={ target:=.collected D,args:=#[] }
section
variable {P:Program} {df:List Deferred} {a:Act} {w0 w:World} {ex:Nat→Prop} {n:Nat} {E:List (Nat×Value)}
theorem TmD.marks (T:TmD df a n E) (D:Nat):TmD (dfD D::df) { a with defers:=dfD D::a.defers } n E:=⟨by simp only [T.defers],T.size,fun p hp=>T.get p hp⟩
theorem px_range {α γ:Type} {g:Operand} {ps:Array Tmp} {assign body:Code} {Q:Exit→Act→World→Prop} (T:TmD df a n E)
  {gf:Nat} {lb:Array Value} (hg:a.eval g=.func (.func gf) #[] lb) (eg:∀ args w,(callFunc gf args).run P w=.ok (.enter gf args) w)
  {encs:α→Array Value} {S Sp:List α→Prop} {N:Nat} (eb:Nat→Prop) (hseq:SeqStopsK Fence.wide 7 P gf lb encs (KpE w.heap.size eb) S Sp N w) (hps:∀ x,(encs x).size=ps.size)
  (J:List α→List (Nat×BA)→Prop) (Jx:Code→List α→List (Nat×BA)→Prop)
  (EP:α→List (Nat×Value)) (EA:α→γ→List (Nat×Value)) (LB:α→γ→List (Nat×BA))
  (hf:∀ pre L,J pre L→farOk w.heap.size L) (hfx:∀ c pre L,Jx c pre L→farOk w.heap.size L)
  (heb:∀ pre L,J pre L→∀ p∈L,p.1 < w.heap.size→eb p.1)
  {L0:List (Nat×BA)} (M:Mem w0 ex w L0) (hJ0:J [] L0)
  (hEP:∀ x,TmD [] { tmps:=(ps.zip (encs x)).foldl (fun t (p,v)=>t.setIfInBounds p v) a.tmps,defers:=[] } n (EP x))
  (hLB:∀ x c,∀ p∈LB x c,p.2.isC=true)
  (hap:(∀ x c,LB x c=[])∨∀ pre L,J pre L→∀ p∈L,p.1 < w.heap.size)
  (hass:∀ (l:Nat) (x:α) (W:World) (K:Act→World→Prop) (a1:Act),TmD [] a1 n (EP x)→(∀ c a' W',TmD [] a' n (EA x c)→Mem W noEx W' (LB x c)→K a' W')→assign.wpIn (FW l) 6 P (Exit.then K (fun _ _ _=>False)) a1 W)
  (hbody:∀ (l:Nat) (pre:List α) (x:α) (c:γ) (L:List (Nat×BA)) (a':Act) (W:World),J pre L→w.heap.size≤W.heap.size→(∃ r,W.heap[l]? = some (.loop r))→w.heap.size≤l→pre.length < N →
   Mem w0 ex W (LB x c++L)→∀ (exb:Nat→Prop) (Wc:World),exb=inL (LB x c++L)→Wc=W→TmD [] a' n (EA x c)→Mem W exb Wc (LB x c++L)→body.wpIn (FW l) 6 P (rPost W exb J Jx (pre++[x])) a' Wc)
  (hdone:∀ (D:Nat) (xs:List α) (L:List (Nat×BA)) (a':Act) (W:World),S xs→J xs L→w.heap.size≤W.heap.size→TmD (dfD D::df) a' n E→Mem w0 ex W ((D,dfA)::L)→Q .normal a' W)
  (hstop:∀ (D:Nat) (c:Code) (pre:List α) (L:List (Nat×BA)) (a':Act) (W:World),Sp pre→Jx c pre L→w.heap.size≤W.heap.size→TmD (dfD D::df) a' n E→Mem w0 ex W ((D,dfA)::L)→c.wp P Q a' W) :
  (Code.rangeFunc g ps assign body).wp P Q a w:=by
 have hz0:=M.size
 have addD:∀ {D:Nat} {W:World} {L:List (Nat×BA)},w.heap.size≤D→W.heap[D]? = some (.deferred (some []))→farOk w.heap.size L→Mem w0 ex W L→Mem w0 ex W ((D,dfA)::L):=fun {D W L} hD hk hL M=>by
  refine M.add (by omega) ⟨_,hk,Z⟩ (fun q hq e=>?_)
  rcases hL q hq with h | h
  ·omega
  ·have h2:=BA.isC_cells (M.blk q hq).2 h (e ▸ hk)
   simp [Obj.isCells] at h2
 have keeps:∀ {x:α} {c:γ} {L L'':List (Nat×BA)} {pre:List α} {W W':World},J pre L→(∀ p∈LB x c,w.heap.size≤p.1)→w.heap.size≤W.heap.size→Mem w0 ex W (LB x c++L)→Mem W (inL (LB x c++L)) W' L''→KeepsFrom w.heap.size W W'∧KpE w.heap.size eb W W':=fun {x c L L'' pre W W'} hj hl hz M0 M=>by
  refine ⟨⟨M.size,fun k o hk ho hc=>(M.block k (Array.getElem?_eq_some_iff.1 ho).1 (fun hi=>?_)).trans ho⟩,M.size,fun b hb hx=>M.block b (by omega) (fun hi=>?_)⟩
  ·obtain ⟨p,hp,rfl⟩:=List.mem_map.1 hi
   have h2:p.2.isC=true:=by
    rcases List.mem_append.1 hp with h | h
    ·exact hLB _ _ p h
    ·rcases hf _ _ hj p h with h | h
     ·omega
     ·exact h
   rw [BA.isC_cells (M0.blk p hp).2 h2 ho] at hc
   cases hc
  ·obtain ⟨p,hp,rfl⟩:=List.mem_map.1 hi
   rcases List.mem_append.1 hp with h | h
   ·have:=hl p h
    omega
   ·exact hx (heb _ _ hj p h hb)
 refine (wpIn_wide (n:=8)).1 (wpIn_rangeFunc_ownH (α:=α) Z (by omega) hg trivial eg hseq
  (fun h k=>KpE.t h k) (fun W l o o' hl h _ _=>⟨by simp,fun b hb _=>World.putObj_heap_other (by omega)⟩) (Below.refl _ _) hps
  (fun pre W=>∃ L,J pre L∧Mem w0 ex W L∧w.heap.size≤W.heap.size)
  (fun c pre W=>∃ L,Jx c pre L∧Mem w0 ex W L∧w.heap.size≤W.heap.size)
  (fun s W W' row hs hg hr=>by
   obtain ⟨L,hj,M1,hz⟩:=hs
   exact ⟨L,hj,M1.far2 hg hr hz0 (hf _ _ hj),Nat.le_trans hz hg.size⟩)
  (fun c s W W' row hs hg hr=>by
   obtain ⟨L,hj,M1,hz⟩:=hs
   exact ⟨L,hj,M1.far2 hg hr hz0 (hfx _ _ _ hj),Nat.le_trans hz hg.size⟩)
  ⟨L0,hJ0,M,Nat.le_refl _⟩
  (fun x a' W=>∃ c,TmD [] a' n (EA x c)∧Mem w0 ex W (LB x c)∧∀ p∈LB x c,w.heap.size≤p.1)
  (fun x a' _ W W' row hs hg hr=>by
   obtain ⟨c,T',M1,hl⟩:=hs
   exact ⟨c,T',M1.far2 hg hr hz0 (fun p hp=>.inr (hLB _ _ p hp)),hl⟩)
  ?assign ?body ?done ?stop)
 case assign =>
  rintro l pre x W K ⟨L,hj,M1,hz⟩ hK
  refine hass l x W K _ (hEP x) fun c a' W' T' N1=>?_
  have hb:=N1.below
  refine hK a' W' ⟨hb.size,fun k o hk ho hc=>(hb.block k (Array.getElem?_eq_some_iff.1 ho).1).trans ho⟩ ⟨hb.size,fun b hb2 _=>hb.block b (by omega)⟩ ⟨L,hj,M1.call hb,Nat.le_trans hz hb.size⟩ ⟨c,T',?_,fun p hp=>?_⟩
  ·have h2:=M1.join N1
   exact h2.sub (Zsl _ _)
  ·rcases (N1.blk p hp).1 with h | h
   ·omega
   ·exact h.elim
 case body =>
  rintro l pre x a' W hl hrec ⟨L,hj,M1,hz⟩ ⟨c,T',M2,hl2⟩ hlt
  have M3:Mem w0 ex W (LB x c++L):=by
   rcases hap with h | h
   ·rw [h];exact M1
   ·refine ⟨M1.os,M1.tape,M1.output,M1.size,M1.block,fun p hp=>?_,?_⟩
    ·rcases List.mem_append.1 hp with h2 | h2
     ·exact M2.blk p h2
     ·exact M1.blk p h2
    ·rw [List.map_append]
     refine List.nodup_append.2 ⟨M2.nd,M1.nd,?_⟩
     intro i hi j hk e
     obtain ⟨p,hp,rfl⟩:=List.mem_map.1 hi
     obtain ⟨q,hq,rfl⟩:=List.mem_map.1 hk
     have:=hl2 p hp
     have:=h _ _ hj q hq
     omega
  refine wpIn_mono (hbody l pre x c L a' W hj hz hrec hl hlt M3 _ _ Z Z T' M3.rebase) fun e a2 W2 h=>?_
  cases e with
  | normal =>
   obtain ⟨L2,hj2,M4⟩:=h
   obtain ⟨k1,k2⟩:=keeps hj hl2 hz M3 M4
   exact ⟨k1,k2,L2,hj2,M3.back M4,Nat.le_trans hz M4.size⟩
  | ret =>
   obtain ⟨L2,hj2,M4⟩:=h
   obtain ⟨k1,k2⟩:=keeps hj hl2 hz M3 M4
   exact ⟨k1,L2,hj2,M3.back M4,Nat.le_trans hz M4.size⟩
  | exit id =>
   obtain ⟨L2,hj2,M4⟩:=h
   obtain ⟨k1,k2⟩:=keeps hj hl2 hz M3 M4
   exact ⟨k1,L2,hj2,M3.back M4,Nat.le_trans hz M4.size⟩
  | _=>exact h.elim
 case done =>
  rintro D xs W hD hS ⟨L,hj,M1,hz⟩ hK
  exact hdone D xs L _ W hS hj hz (T.marks D) (addD hD hK (hf _ _ hj) M1)
 case stop =>
  rintro D c pre W hD hSp ⟨L,hj,M1,hz⟩ hK
  exact wpIn_wide.2 (hstop D c pre L _ W hSp hj hz (T.marks D) (addD hD hK (hfx _ _ _ hj) M1))
end
theorem rn_makeFunc {P:Program} {op:Oper} {a:Act} {w:World} {f:FuncId} {xs ys:List Operand} {vs us:List Value} (ho:op.op=.makeFunc (.func f) xs.toArray ys.toArray) (hx:EvL a xs vs) (hy:EvL a ys us):Runs P op a (.func (.func f) vs.toArray us.toArray) w:=by
 unfold Runs execOp
 simp only [ho,List.map_toArray,hx.map,hy.map,Instr.makeFunc,Sem.run_bind,Sem.run_pure,Result.andThen_ok]
section
variable {P:Program} {F:Fence} {n:Nat} {b:Frame} {a:Act} {k:List Item} {cs:List Frame} {w:World} {Q:Exit→Act→World→Prop}
theorem stepR_scope {c:Code}:step P (lone (b.atR a (.code (.scope c)::k)) cs w)=.next (lone (b.atR a (.code c :: .inScope c::k)) cs w) :=
 step_lone_go (by simp [stepG,stepG.exec,Frame.atR])
theorem stepR_inScope {c:Code}:step P (lone (b.atR a (.inScope c::k)) cs w)=.next (lone (b.atR a k) cs w) :=
 step_lone_go (by simp [stepG,stepG.exec,Frame.atR])
theorem wpIn_scope_straight {c:Code} (h:c.wpIn F n P (Exit.noGoto Q) a w):(Code.scope c).wpIn F n P Q a w:=by
 intro b k cs hro hb hr
 have h0:(lone (b.atR a (.code (.scope c)::k)) cs w).fenced P F:=fenced_calm hb hr rfl
 obtain ⟨e,a₁,w₁,hq,harr⟩:=h b (.inScope c::k) cs hro hb hr
 cases e with
 | normal=>exact ⟨.normal,a₁,w₁,hq,.head h0 stepR_scope (StepsIn.trans harr (.one (fenced_calm hb hr rfl) stepR_inScope))⟩
 | exit id =>
  have hx:exitTo id (.inScope c::k)=exitTo id k:=by simp [exitTo]
  exact ⟨.exit id,a₁,w₁,hq,fun k' hk=>.head h0 stepR_scope (harr.1 k' (by rw [hx];exact hk)),
   fun hr' hk=>let ⟨k₁,h1,h2⟩:=harr.2 hr' (by rw [hx];exact hk);⟨k₁,h1,.head h0 stepR_scope h2⟩⟩
 | goto l=>exact hq.elim
 | ret=>exact ⟨_,a₁,w₁,hq,.of_steps (.one h0 stepR_scope) harr⟩
 | panic ch=>exact ⟨_,a₁,w₁,hq,.of_steps (.one h0 stepR_scope) harr⟩
 | outgrown=>exact ⟨_,a₁,w₁,hq,.of_steps (.one h0 stepR_scope) harr⟩
theorem nm_ng (h:Q .normal a w):Exit.noGoto Q .normal a w:=h
theorem rt_ng (h:Q .ret a w):Exit.noGoto Q .ret a w:=h
end
section
variable {α:Type} {W:World} {exb:Nat→Prop} {J:List α→List (Nat×BA)→Prop} {Jx:Code→List α→List (Nat×BA)→Prop} {xs:List α} {a:Act} {w:World} {L:List (Nat×BA)}
theorem rp_nm (h:J xs L) (M:Mem W exb w L):rPost W exb J Jx xs .normal a w:=⟨L,h,M⟩
end
section
variable {df:List Deferred} {a:Act} {n:Nat} {E:List (Nat×Value)}
theorem TmD.round1 (T:TmD df a n E) {p:Tmp} (v:Value) (hf:freshE E p=true) (hn:Nat.blt p n=true):TmD [] { tmps:=((#[p]:Array Tmp).zip (#[v]:Array Value)).foldl (fun t (p,v)=>t.setIfInBounds p v) a.tmps,defers:=[] } n ((p,v)::E):=by
 have h:=T.put hn hf v
 have e:((#[p]:Array Tmp).zip (#[v]:Array Value)).foldl (fun t (p,v)=>t.setIfInBounds p v) a.tmps=(a.put (some p) v).tmps:=by simp [Act.put]
 rw [e]
 exact ⟨rfl,h.size,h.get⟩
end
def bpM (P:Program) (fn:Func) (R:Ending→World→Prop):Exit→Act→World→Prop
 | .normal,a,w=>bodyPostM Fence.wide 8 P fn R .normal a w
 | .ret,a,w=>bodyPostM Fence.wide 8 P fn R .ret a w
 | _,_,_=>False
def dfT (Ds:List Nat):List (Nat×BA):=Ds.map fun D=>(D,dfA)
section
variable {P:Program} {a:Act} {w0 w:World} {ex:Nat→Prop} {n:Nat} {E:List (Nat×Value)} {L:List (Nat×BA)}
theorem px_enterM {f:FuncId} {fn:Func} {c:Code} {args:Array Value} {R:Ending→World→Prop} (ex:Nat→Prop) (hf:P.funcs[f]? = some fn) (hb:fn.body=some c) (n:Nat) (hn:fn.ntmps=n) (vs:List Value) (ha:args=vs.toArray) (hle:Nat.ble vs.length n=true)
  {L:List (Nat×BA)} (M:Mem w ex w L)
  (h:∀ a w',TmD [] a n (numE 0 vs)→Mem w ex w' L→c.wp P (bpM P fn R) a w'):Calls P f args w R:=by
 subst ha
 have hle:=Nat.le_of_ble_eq_true hle
 refine (callsIn_wide (n:=8)).1 (callsIn_of_wp_marks hf hb trivial (wpIn_wide.2 (wp_mono (h _ _ ⟨rfl,?_,fun p hp=>?_⟩ M) fun e a w h=>by cases e <;> first | exact h | exact h.elim)) Z)
 ·simp [hn];omega
 ·obtain ⟨i,h1,h2⟩:=numE_get vs 0 p hp
  have hi:i < vs.length:=(List.getElem?_eq_some_iff.1 h2).1
  have e:p.1=i:=by omega
  rw [e]
  have h3:(vs.toArray++Array.replicate (fn.ntmps - vs.toArray.size) undef)[i]? = some p.2:=by
   rw [Array.getElem?_append_left (by simpa using hi)]
   simpa using h2
  show (vs.toArray++Array.replicate (fn.ntmps - vs.toArray.size) undef).getD i undef=p.2
  simp only [Array.getD_eq_getD_getElem?,h3,Option.getD_some]
theorem leavesM {fn:Func} {R:Ending→World→Prop} {tmps:Array Value}:∀ (Ds:List Nat) (w:World),Mem w0 ex w (L++dfT Ds)→(∀ w',Mem w0 ex w' L→∃ v,(results fn tmps).run P w'=.ok v w'∧R (.returned v) w')→LeavesInM Fence.wide 8 P fn tmps R (Ds.map dfD) .returning w
 | [],w,M,h=>h w (by simpa [dfT] using M)
 | D::Ds,w,M,h=>by
  have hm:(D,dfA)∈L++dfT (D::Ds):=List.mem_append_right _ Zz2
  obtain ⟨o,hD,ho⟩:=M.at hm
  subst ho
  refine ⟨by simp,.inl ⟨D,_,Z,run_takeDeferred hD,leavesM Ds _ ?_ h⟩⟩
  have hu:Upd (L++dfT (D::Ds)) D dfA (.any fun _=>True) (L++(D,.any fun _=>True)::dfT Ds):=by
   clear M h hD hm
   induction L with
   | nil=>exact .head
   | cons q L ih=>exact .tail ih
  have M2:=M.callW hu (grownBy_putObj' w D (.deferred none)) ⟨.deferred none,by
   have h2:=(Array.getElem?_eq_some_iff.1 hD).1
   simp [World.putObj,h2],trivial⟩
  exact M2.sub (List.Sublist.append (List.Sublist.refl L) (List.sublist_cons_self _ _))
theorem rtM {fn:Func} {R:Ending→World→Prop} (Ds:List Nat) (T:TmD (Ds.map dfD) a n E) (M:Mem w0 ex w (L++dfT Ds)) (h:∀ w' a',Tm a' n E→Mem w0 ex w' L→bodyPost P fn R .ret a' w'):bpM P fn R .ret a w:=by
 show LeavesInM Fence.wide 8 P fn a.tmps R a.defers .returning w
 rw [T.defers]
 refine leavesM Ds w M fun w' M'=>?_
 obtain ⟨_,v,h1,h2⟩:=h w' { a with defers:=[] } ⟨rfl,T.size,T.get⟩ M'
 exact ⟨v,h1,h2⟩
end
end
section
open Go.RowKit Go.Shelf
section
variable {P:Program} {ops:Array Oper} {Q:Exit→Act→World→Prop} {S:Array Bool→World→Prop} {nn:Nat}
end
section
variable {df:List Deferred} {P:Program} {ops:Array Oper} {rest:List Oper} {op oi:Oper} {a:Act} {Q:Exit→Act→World→Prop} {w0 w:World} {ex:Nat→Prop} {L:List (Nat×BA)} {K:Act→World→Prop} {n t i fuel nn:Nat} {E:List (Nat×Value)} {v:Value} {S:Array Bool→World→Prop} {l l':Array Bool}
end
end
section
open Go.RowKit Go.Shelf
section
variable {P:Program} {df:List Deferred} {a:Act} {w0 w:World} {ex:Nat→Prop} {n:Nat} {E:List (Nat×Value)}
end
end
section
open Go.RowKit Go.Shelf
section
variable {α:Type} {W:World} {exb:Nat→Prop} {J:List α→List (Nat×BA)→World→Prop} {Jx:Code→List α→List (Nat×BA)→World→Prop} {xs:List α} {a:Act} {w:World} {L:List (Nat×BA)}
end
section
variable {P:Program} {df:List Deferred} {a:Act} {w0 w:World} {ex:Nat→Prop} {n:Nat} {E:List (Nat×Value)}
end
end
section
open Go.RowKit Go.Shelf
section
variable {P:Program} {ops:Array Oper} {op:Oper} {a:Act} {Q:Exit→Act→World→Prop} {K:Act→World→Prop} {w0 w:World} {ex:Nat→Prop} {L:List (Nat×BA)} {l:Nat}
end
section
variable {P:Program} {a:Act} {w0 w:World} {ex:Nat→Prop} {n B m:Nat} {E:List (Nat×Value)} {L:List (Nat×BA)}
end
end
section
open Go.RowKit
open Go.Maps (Keyed)
section
variable {P:Program} {op:Oper} {a:Act} {w:World} {t t':TypeId} {x y:Operand} {p q:Int}
theorem rn_cvt {s d:TypeId} {k k':IntKind} {ds:TypeDesc} (ho:op.op=.convert s d x) (hs:P.underlying s=some ds) (hd:P.underlying d=some (.int k')) (hx:a.eval x=.int k p):Runs P op a (.int k' (k'.wrap p)) w:=by
 unfold Runs execOp
 simp only [ho,hx,convert,Sem.run_bind,run_underlying hs,run_underlying hd,Result.andThen_ok,Conv.intToInt,Sem.run_pure]
end
section
variable {P:Program} {ops:Array Oper} {op:Oper} {a:Act} {Q:Exit→Act→World→Prop} {df:List Deferred} {w0 w:World} {ex:Nat→Prop} {L L':List (Nat×BA)} {k e ty:TypeId} {nn t:Nat} {E:List (Nat×Value)} {K:Act→World→Prop} {okv:Value→Value→Prop}
end
end
abbrev sv (l:List UInt8):Value:=.string ⟨l.toArray⟩
theorem sv_size (l:List UInt8):(⟨l.toArray⟩:ByteArray).size=l.length:=by simp [ByteArray.size]
theorem sv_data (l:List UInt8):(⟨l.toArray⟩:ByteArray).data.toList=l:=by simp
theorem sv_app (l r:List UInt8):(⟨l.toArray⟩:ByteArray)++⟨r.toArray⟩=⟨(l++r).toArray⟩:=by
 apply ByteArray.ext
 simp
section
variable {P:Program} {op:Oper} {a:Act} {w:World} {t t' ty:TypeId} {x y:Operand} {l r:List UInt8}
theorem rn_sadd (ho:op.op=.binOp .add t x y t') (hx:a.eval x=sv l) (hy:a.eval y=sv r) (hb:l.length+r.length≤9223372036854775807):Runs P op a (sv (l++r)) w :=
 rn_bin ho hx hy (by
  rw [eqGuard_add,binOp_string_add]
  show (Op.stringOp .add _ _).run P w=_
  unfold Op.stringOp
  simp only
  rw [if_neg (by rw [sv_size,sv_size,show IntKind.i64.max=9223372036854775807 from rfl];omega),sv_app]
  rfl)
theorem rn_seql (ho:op.op=.binOp .eql t x y t') (hx:a.eval x=sv l) (hy:a.eval y=sv r):Runs P op a (.bool (decide (l=r))) w :=
 rn_bin ho hx hy (by
  rw [eqGuard_at_string,binOp_string_eql,ByteArray.toList_mk,ByteArray.toList_mk]
  show Result.ok (Value.bool (l == r)) w=_
  rw [show (l == r)=decide (l=r) by by_cases h:l=r <;> simp [h]])
theorem rn_sneq (ho:op.op=.binOp .neq t x y t') (hx:a.eval x=sv l) (hy:a.eval y=sv r):Runs P op a (.bool (!decide (l=r))) w :=
 rn_bin ho hx hy (by
  rw [eqGuard_at_string,binOp_string_neq,ByteArray.toList_mk,ByteArray.toList_mk]
  show Result.ok (Value.bool !(l == r)) w=_
  rw [show (l == r)=decide (l=r) by by_cases h:l=r <;> simp [h]])
theorem rn_slen (ho:op.op=.call { callee:=.builtin .len,args:=#[x],argTypes:=#[ty] }) (hu:P.underlying ty=some .string) (hx:a.eval x=sv l):Runs P op a (.int .i64 (l.length:Int)) w:=by
 have h:=rn_lenT (P:=P) (w:=w) ho hu hx
 rwa [sv_size] at h
theorem rn_sidx {i:Int} (k:Nat) {b:UInt8} (ho:op.op=.index t x y) (hu:P.underlying t=some .string) (hx:a.eval x=sv l) (hy:a.eval y=.int .i64 i) (hi:i=(k:Int)) (hb:l[k]? = some b):Runs P op a (.int .u8 (b.toNat:Int)) w:=by
 subst hi
 have hk:=(List.getElem?_eq_some_iff.1 hb).1
 have hr:(Instr.index t (sv l) (.int .i64 (k:Int))).run P w=.ok (.int .u8 (b.toNat:Int)) w:=by
  rw [run_index_string w t _ .i64 _ hu,dif_pos ⟨by omega,by rw [sv_size];omega⟩]
  have he:(⟨l.toArray⟩:ByteArray)[((k:Int)).toNat]'(by rw [sv_size];omega)=b:=by
   have h1:(⟨l.toArray⟩:ByteArray)[((k:Int)).toNat]'(by rw [sv_size];omega)=l[k]:=rfl
   rw [h1]
   exact (List.getElem?_eq_some_iff.1 hb).2
  rw [he]
 unfold Runs execOp
 simp only [ho,hx,hy,hr,Sem.run_bind,Result.andThen_ok,Sem.run_pure]
theorem rn_sub8 {p q:Int} (ho:op.op=.binOp .sub t x y t') (hx:a.eval x=.int .u8 p) (hy:a.eval y=.int .u8 q) (hb:0≤p - q∧p - q≤255):Runs P op a (.int .u8 (p - q)) w :=
 rn_bin ho hx hy (by
  show Result.ok (Value.int .u8 (IntKind.u8.wrap (p - q))) w=_
  have e:IntKind.u8.wrap (p - q)=p - q:=by show (p - q) % 256=_;omega
  rw [e])
theorem rn_cvt8 {s d:TypeId} {p:Int} (ho:op.op=.convert s d x) (hs:P.underlying s=some (.int .u8)) (hd:P.underlying d=some (.int .i64)) (hx:a.eval x=.int .u8 p) (hb:0≤p∧p≤255):Runs P op a (.int .i64 p) w:=by
 have h:=rn_cvt (P:=P) (w:=w) ho hs hd hx
 rwa [IntWalk.i64_in _ (by omega)] at h
def cutS (l:List UInt8) (a b:Nat):List UInt8:=(l.drop a).take (b - a)
theorem rn_sslice {lo hi:Option Operand} {p q:Nat} (ho:op.op=.slice ty x lo hi none) (hu:P.underlying ty=some .string) (hx:a.eval x=sv l) (hl:Bd a lo 0 p) (hh:Bd a hi l.length q) (h1:p≤q) (h2:q≤l.length):Runs P op a (sv (cutS l p q)) w:=by
 have q1:(p:Int)≤(q:Int):=by omega
 have q2:(q:Int)≤(l.length:Int):=by omega
 have hz:(⟨l.toArray⟩:ByteArray).size=l.length:=sv_size l
 have he:(⟨l.toArray⟩:ByteArray).extract p q=⟨(cutS l p q).toArray⟩:=ByteArray.extract_mk l p q
 unfold Runs execOp
 cases lo with
 | none =>
  have hl:p=0:=hl
  subst hl
  cases hi with
  | none =>
   have hh:q=l.length:=hh
   subst hh
   simp [ho,hx,Instr.sliceAt,Instr.slice,Instr.sliceBounds,Sem.run_bind,run_underlying,hu,hz,he,cutS]
  | some y =>
   have hh:a.eval y=.int .i64 (q:Int):=hh
   simp [ho,hx,hh,Instr.sliceAt,Instr.slice,Instr.sliceBounds,Instr.sliceBound,asIntOf,Sem.run_bind,run_underlying,hu,hz,he,h2,q2]
 | some x =>
  have hl:a.eval x=.int .i64 (p:Int):=hl
  cases hi with
  | none =>
   have hh:q=l.length:=hh
   subst hh
   simp [ho,hx,hl,Instr.sliceAt,Instr.slice,Instr.sliceBounds,Instr.sliceBound,asIntOf,Sem.run_bind,run_underlying,hu,hz,he,h1,q1]
  | some y =>
   have hh:a.eval y=.int .i64 (q:Int):=hh
   simp [ho,hx,hl,hh,Instr.sliceAt,Instr.slice,Instr.sliceBounds,Instr.sliceBound,asIntOf,Sem.run_bind,run_underlying,hu,hz,he,h1,h2,q1,q2]
end
def Sl (e size:Nat) (v:Value) (n:Nat) (xs:List Value) (I:List (Nat×BA)):Prop :=
 (v=.slice none 0 0∧n=0∧xs=[]∧I=[])∨∃ g cap,v=.slice (some ⟨g,0,none⟩) n cap∧I=[(g,.row e size n xs cap)]
theorem Sl.nil (e size:Nat):Sl e size (.slice none 0 0) 0 [] []:=.inl ⟨rfl,rfl,rfl,rfl⟩
section
variable {w0 w w':World} {ex:Nat→Prop} {L I:List (Nat×BA)} {e size n:Nat} {v:Value} {xs:List Value}
theorem own_rebase {base g cap:Nat} (h:w.ownsRow base e size (.slice (some ⟨g,0,none⟩) n cap) n xs) (hn:0 < n):BA.holds w g (.row e size n xs cap):=by
 refine ⟨⟨h.1,?_⟩,hn⟩
 rcases h.2 with ⟨h2,_⟩ | ⟨g',c',cur,h2,_,hg,hr⟩
 ·cases h2
 ·injection h2 with h2 _ hc
  injection h2 with h2
  injection h2 with h2 _ _
  subst h2
  exact .inr ⟨g,c',cur,by rw [hc],Nat.le_refl _,hg,hr⟩
theorem Sl.row (e size g n:Nat) (xs:List Value) (cap:Nat):Sl e size (.slice (some ⟨g,0,none⟩) n cap) n xs [(g,.row e size n xs cap)]:=.inr ⟨g,cap,rfl,rfl⟩
theorem app_wp {P : Program} {o : Oper} {a : Act} {K : Act → World → Prop} {Q : Exit → Act → World → Prop} {s x : Operand} {t : TypeId} {z : Value} {bytes b c : Nat} {cs : List Value}
   (ht:P.underlying t=some (.slice e)) (hinfo:(P.info? e).map (fun i=>(i.zero,i.size,i.bytes))=some (some z,size,bytes)) (hzs:z.cells.size=size) (hsz:0 < size) (hby:bytes≤1000)
   (M:Mem w0 ex w (I++L)) (hS:Sl e size v n xs I) (hn:n≤1000000)
   (ho:o.op=.call { callee:=.builtin .append,args:=#[s,x],argTypes:=#[t,t] }) (hs:a.eval s=v) (hx:a.eval x=.slice (some ⟨b,0,none⟩) 1 c) (hm:(b,BA.cells cs)∈L) (hl:cs.length=size) (h1:cs.all (·.oneCell')=true)
   (h:∀ g cap w',Mem w0 ex w' ((g,.row e size (n+1) (xs++cs) cap)::L)→K (a.put o.dst (.slice (some ⟨g,0,none⟩) (n+1) cap)) w'):o.wp P a w K Q:=by
 obtain ⟨i,hi,hz0,hz1,hz2⟩:=info_parts hinfo
 have hb:Bk w b cs.toArray:=M.get (List.mem_append_right _ hm)
 have hnews:∀ j u,cs[j]? = some u→w.cell? ((⟨b,0,none⟩:Addr).add j)=some u:=fun j u hu=>by
   rw [Addr.add_mid,hb.cell,Zxa];simpa using hu
 have h1':∀ u∈cs,u.oneCell'=true:=fun u hu=>List.all_eq_true.1 h1 u hu
 have hbb:(n+1) * bytes≤140737488355328:=by
   have:(n+1) * bytes≤1000001 * 1000:=Nat.mul_le_mul (by omega) hby
   omega
 rcases hS with ⟨rfl,rfl,rfl,rfl⟩ | ⟨g0,cap0,rfl,rfl⟩
 · refine wp_append_lies w s x t ho w.heap.size e i z size bytes ht hi hz0 hz1 hz2 hzs hsz (.slice none 0 0) 0 [] hs ⟨by simp,.inl ⟨rfl,Z⟩⟩ ⟨b,0,none⟩ 1 c cs hx (by omega) hnews h1' (by omega) (by unfold maxLen;omega) (by simpa using hbb) (Nat.le_refl _) w.heap.size Z ?_
   intro g cap w' hown hgr hat hlt
   have hg:g=w.heap.size:=by
     rcases hat with h | h
     · cases h
     · exact h
   have M1:Mem w0 ex w' L:=M.call ⟨hgr.os,hgr.tape,hgr.output,hgr.size,fun k hk=>hgr.block k hk (fun e=>by cases e)⟩
   exact h g cap w' (M1.add (by rw [hg];exact M.size) (own_rebase hown (by omega)) (fun q hq e=>by have:=BA.lt (M.blk q hq).2;omega))
 · have hrow:=(M.blk (g0,.row e size n xs cap0) (by simp)).2
   have hnp:0 < n:=hrow.2
   refine wp_append_lies w s x t ho g0 e i z size bytes ht hi hz0 hz1 hz2 hzs hsz _ n xs hs hrow.1 ⟨b,0,none⟩ 1 c cs hx (by omega) hnews h1' (by omega) (by unfold maxLen;omega) hbb (Nat.le_of_lt (BA.lt hrow)) w.heap.size Z ?_
   intro g cap w' hown hgr hat hlt
   have hgr:w.grownBy w' (some g0):=hgr
   rcases hat with h2 | h2
   · have h2:some g0=some g:=h2
     injection h2 with h2
     subst h2
     exact h g0 cap w' (M.callW (L':=(g0,.row e size (n+1) (xs++cs) cap)::L) .head hgr (own_rebase hown (by omega)))
   · have M1:=M.callW (L':=(g0,.any (fun _=>True))::L) .head hgr (by
       have hl0:g0 < w'.heap.size:=Nat.lt_of_lt_of_le (BA.lt hrow) hgr.size
       exact ⟨w'.heap[g0],Array.getElem?_eq_getElem hl0,trivial⟩)
     exact h g cap w' (M1.forget.add (by rw [h2];exact M.size) (own_rebase hown (by omega)) (fun q hq e=>by have:=BA.lt (M.blk q (List.mem_append_right _ hq)).2;omega))
end
open Go.RowKit
set_option maxHeartbeats 400000 in
theorem plus_any (a b c d:Int) (w:World) (ha : -1000000≤a∧a≤1000000) (hb : -1000000≤b∧b≤1000000) (hc : -1000000≤c∧c≤1000000) (hd : -1000000≤d∧d≤1000000) :
  Calls prog 264 #[R2 a b,R2 c d] w fun e w'=>e=.returned (R2 (a+c) (b+d))∧Below w.heap.size w w':=by
 go_enter func264,Tryz.ntmps264
 go_wp2
 go_returns;refine ⟨rfl,?_⟩;(repeat' (first | (with_reducible exact Below.refl _ _) | (with_reducible refine Below.alloc ?_ ?_ _) | (with_reducible refine Below.setCell ?_ ?_ _) | (with_reducible refine Below.drew ?_) | ((with_reducible refine Below.trans ?_ (Below.mono (by assumption) ?_))) | go_size))
set_option maxHeartbeats 400000 in
theorem less_any (a b c d:Int) (w:World) (ha : -1000000≤a∧a≤1000000) (hb : -1000000≤b∧b≤1000000) (hc : -1000000≤c∧c≤1000000) (hd : -1000000≤d∧d≤1000000) :
  Calls prog 257 #[R2 a b,R2 c d] w fun e w'=>e=.returned (R2 (a - d) (b - c))∧Below w.heap.size w w':=by
 go_enter func257,Tryz.ntmps257
 go_wp2
 go_returns;refine ⟨rfl,?_⟩;(repeat' (first | (with_reducible exact Below.refl _ _) | (with_reducible refine Below.alloc ?_ ?_ _) | (with_reducible refine Below.setCell ?_ ?_ _) | (with_reducible refine Below.drew ?_) | ((with_reducible refine Below.trans ?_ (Below.mono (by assumption) ?_))) | go_size))
def hasB (a b c d:Int):Bool:=decide (a≤c∧d≤b)
theorem hasB_no {a b c d:Int} (h : ¬ a≤c):hasB a b c d=false:=by unfold hasB;simp;intro;omega
theorem hasB_yes {a b c d:Int} (h:a≤c):hasB a b c d=decide (d≤b):=by unfold hasB;simp [h]
set_option maxHeartbeats 400000 in
theorem has_any (a b c d:Int) (w:World) :
  Calls prog 207 #[R2 a b,R2 c d] w fun e w'=>e=.returned (.bool (hasB a b c d))∧Below w.heap.size w w':=by
 by_cases h1:a≤c
 ·rw [hasB_yes h1]
  go_enter func207,Tryz.ntmps207
  go_wp2
  go_returns;refine ⟨rfl,?_⟩;(repeat' (first | (with_reducible exact Below.refl _ _) | (with_reducible refine Below.alloc ?_ ?_ _) | (with_reducible refine Below.setCell ?_ ?_ _) | (with_reducible refine Below.drew ?_) | ((with_reducible refine Below.trans ?_ (Below.mono (by assumption) ?_))) | go_size))
 ·have h2:decide (a≤c)=false:=by simpa using h1
  rw [hasB_no h1]
  go_enter func207,Tryz.ntmps207
  go_wp2
  go_returns;refine ⟨rfl,?_⟩;(repeat' (first | (with_reducible exact Below.refl _ _) | (with_reducible refine Below.alloc ?_ ?_ _) | (with_reducible refine Below.setCell ?_ ?_ _) | (with_reducible refine Below.drew ?_) | ((with_reducible refine Below.trans ?_ (Below.mono (by assumption) ?_))) | go_size))
structure St where
 p0:Int
 p1:Int
 t0:Int
 t1:Int
 r0:Int
 r1:Int
 u0:Int
 u1:Int
 d0:Int
 d1:Int
 a0:Int
 a1:Int
 b0:Int
 b1:Int
 le:Int
abbrev stV (s:St):Value:=.agg #[.int .i64 s.p0,.int .i64 s.p1,.int .i64 s.t0,.int .i64 s.t1,.int .i64 s.r0,.int .i64 s.r1,.int .i64 s.u0,.int .i64 s.u1,.int .i64 s.d0,.int .i64 s.d1,.int .i64 s.a0,.int .i64 s.a1,.int .i64 s.b0,.int .i64 s.b1,.int .i64 s.le]
structure St.ok (s:St):Prop where
 p0 : -1000000≤s.p0∧s.p0≤1000000
 p1 : -1000000≤s.p1∧s.p1≤1000000
 t0 : -1000000≤s.t0∧s.t0≤1000000
 t1 : -1000000≤s.t1∧s.t1≤1000000
 r0 : -1000000≤s.r0∧s.r0≤1000000
 r1 : -1000000≤s.r1∧s.r1≤1000000
 u0 : -1000000≤s.u0∧s.u0≤1000000
 u1 : -1000000≤s.u1∧s.u1≤1000000
 d0 : -1000000≤s.d0∧s.d0≤1000000
 d1 : -1000000≤s.d1∧s.d1≤1000000
 a0 : -1000000≤s.a0∧s.a0≤1000000
 a1 : -1000000≤s.a1∧s.a1≤1000000
 b0 : -1000000≤s.b0∧s.b0≤1000000
 b1 : -1000000≤s.b1∧s.b1≤1000000
def St.tip (s:St):St:={ s with p0:=s.p0+s.u0,p1:=s.p1+s.u1,t0:=s.t0 - s.a1,t1:=s.t1 - s.a0 }
def St.root (s:St):St:={ s with p0:=s.p0 - s.d1,p1:=s.p1 - s.d0,r0:=s.r0 - s.b1,r1:=s.r1 - s.b0 }
theorem filed_tip (s:St) (w:World) (h:s.ok) :
   Calls prog 256 #[stV s,.int .i64 1] w fun e w'=>e=.returned (stV s.tip)∧Below w.heap.size w w':=by
 obtain ⟨h1,h2,h3,h4,h5,h6,h7,h8,h9,h10,h11,h12,h13,h14⟩:=h
 have q0:=(Bk.new w 346 #[.int .i64 s.p0,.int .i64 s.p1,.int .i64 s.t0,.int .i64 s.t1,.int .i64 s.r0,.int .i64 s.r1,.int .i64 s.u0,.int .i64 s.u1,.int .i64 s.d0,.int .i64 s.d1,.int .i64 s.a0,.int .i64 s.a1,.int .i64 s.b0,.int .i64 s.b1,.int .i64 s.le]).alloc (.cells #[.int .i64 0,.int .i64 0,.int .i64 0,.int .i64 0,.int .i64 0,.int .i64 0,.int .i64 0,.int .i64 0,.int .i64 0,.int .i64 0,.int .i64 0,.int .i64 0,.int .i64 0,.int .i64 0,.int .i64 0] 346)
 have q1:=Bk.new (w.alloc (.cells #[.int .i64 s.p0,.int .i64 s.p1,.int .i64 s.t0,.int .i64 s.t1,.int .i64 s.r0,.int .i64 s.r1,.int .i64 s.u0,.int .i64 s.u1,.int .i64 s.d0,.int .i64 s.d1,.int .i64 s.a0,.int .i64 s.a1,.int .i64 s.b0,.int .i64 s.b1,.int .i64 s.le] 346)) 346 #[.int .i64 0,.int .i64 0,.int .i64 0,.int .i64 0,.int .i64 0,.int .i64 0,.int .i64 0,.int .i64 0,.int .i64 0,.int .i64 0,.int .i64 0,.int .i64 0,.int .i64 0,.int .i64 0,.int .i64 0]
 rw [World.size_alloc] at q1
 go_enter func256,Tryz.ntmps256
 go_wp2
 refine wp_region_G (fun L W=>(L.getD 16 true=false→Bk W w.heap.size #[.int .i64 s.p0,.int .i64 s.p1,.int .i64 s.t0,.int .i64 s.t1,.int .i64 s.r0,.int .i64 s.r1,.int .i64 s.u0,.int .i64 s.u1,.int .i64 s.d0,.int .i64 s.d1,.int .i64 s.a0,.int .i64 s.a1,.int .i64 s.b0,.int .i64 s.b1,.int .i64 s.le])∧(L.getD 16 true=true→L.getD 19 true=false→Bk W w.heap.size #[.int .i64 (s.p0+s.u0),.int .i64 (s.p1+s.u1),.int .i64 s.t0,.int .i64 s.t1,.int .i64 s.r0,.int .i64 s.r1,.int .i64 s.u0,.int .i64 s.u1,.int .i64 s.d0,.int .i64 s.d1,.int .i64 s.a0,.int .i64 s.a1,.int .i64 s.b0,.int .i64 s.b1,.int .i64 s.le])∧(L.getD 19 true=true→Bk W w.heap.size #[.int .i64 (s.p0+s.u0),.int .i64 (s.p1+s.u1),.int .i64 (s.t0 - s.a1),.int .i64 (s.t1 - s.a0),.int .i64 s.r0,.int .i64 s.r1,.int .i64 s.u0,.int .i64 s.u1,.int .i64 s.d0,.int .i64 s.d1,.int .i64 s.a0,.int .i64 s.a1,.int .i64 s.b0,.int .i64 s.b1,.int .i64 s.le])∧Bk W (w.heap.size+1) #[.int .i64 0,.int .i64 0,.int .i64 0,.int .i64 0,.int .i64 0,.int .i64 0,.int .i64 0,.int .i64 0,.int .i64 0,.int .i64 0,.int .i64 0,.int .i64 0,.int .i64 0,.int .i64 0,.int .i64 0]∧Below w.heap.size w W) 20 (by kernel_rfl) (by kernel_rfl) ?s0 ?r0
 case s0=>(exact ⟨fun _=>q0.drew,fun h=>(no_of h (by kernel_rfl)).elim,fun h=>(no_of h (by kernel_rfl)).elim,q1.drew,by (repeat' (first | (with_reducible exact Below.refl _ _) | (with_reducible refine Below.alloc ?_ ?_ _) | (with_reducible refine Below.setCell ?_ ?_ _) | (with_reducible refine Below.drew ?_) | ((with_reducible refine Below.trans ?_ (Below.mono (by assumption) ?_))) | go_size))⟩)
 intro W0
 refine ZT 0 Z ?r1
 (try simp only [Act.put,Zz3,Zz4,Zz5,Zz6,Zz7,Zz8])
 refine ZT 1 Z ?r2
 (try simp only [Act.put,Zz3,Zz4,Zz5,Zz6,Zz7,Zz8])
 refine wpG_take (i:=2) (v:=?v3) Z (by kernel_rfl) (by intro L w;simp only [getD_set_ne true (show (2:Nat)≠16 from by decide),getD_set_ne true (show (2:Nat)≠19 from by decide)]) (fun _ _ _ h=>h) (Or.inl ⟨by rfl,?y3⟩) ?r3
 case y3=>(intro w' hy;obtain ⟨L,hD,hl,hS⟩:=hy;have qc:=(hS.1 (hD.wait (by kernel_rfl) hl)).cell;clear hS hD hl;go_simp;(try with_reducible rfl))
 (try simp only [Act.put,Zz3,Zz4,Zz5,Zz6,Zz7,Zz8])
 refine ZT 3 Z ?r4
 (try simp only [Act.put,Zz3,Zz4,Zz5,Zz6,Zz7,Zz8])
 refine ZT 4 Z ?r5
 (try simp only [Act.put,Zz3,Zz4,Zz5,Zz6,Zz7,Zz8])
 refine wpG_take (i:=5) (v:=?v6) Z (by kernel_rfl) (by intro L w;simp only [getD_set_ne true (show (5:Nat)≠16 from by decide),getD_set_ne true (show (5:Nat)≠19 from by decide)]) (fun _ _ _ h=>h) (Or.inl ⟨by rfl,?y6⟩) ?r6
 case y6=>(intro w' hy;obtain ⟨L,hD,hl,hS⟩:=hy;have qc:=(hS.1 (hD.wait (by kernel_rfl) hl)).cell;clear hS hD hl;go_simp;(try with_reducible rfl))
 (try simp only [Act.put,Zz3,Zz4,Zz5,Zz6,Zz7,Zz8])
 refine ZT 7 Z ?r7
 (try simp only [Act.put,Zz3,Zz4,Zz5,Zz6,Zz7,Zz8])
 refine ZT 8 Z ?r8
 (try simp only [Act.put,Zz3,Zz4,Zz5,Zz6,Zz7,Zz8])
 refine wpG_take (i:=9) (v:=?v9) Z (by kernel_rfl) (by intro L w;simp only [getD_set_ne true (show (9:Nat)≠16 from by decide),getD_set_ne true (show (9:Nat)≠19 from by decide)]) (fun _ _ _ h=>h) (Or.inl ⟨by rfl,?y9⟩) ?r9
 case y9=>(intro w' hy;obtain ⟨L,hD,hl,hS⟩:=hy;have qc:=(hS.1 (hD.wait (by kernel_rfl) hl)).cell;clear hS hD hl;go_simp;(try with_reducible rfl))
 (try simp only [Act.put,Zz3,Zz4,Zz5,Zz6,Zz7,Zz8])
 refine ZT 10 Z ?r10
 (try simp only [Act.put,Zz3,Zz4,Zz5,Zz6,Zz7,Zz8])
 refine ZT 11 Z ?r11
 (try simp only [Act.put,Zz3,Zz4,Zz5,Zz6,Zz7,Zz8])
 refine wpG_take (i:=12) (v:=?v12) Z (by kernel_rfl) (by intro L w;simp only [getD_set_ne true (show (12:Nat)≠16 from by decide),getD_set_ne true (show (12:Nat)≠19 from by decide)]) (fun _ _ _ h=>h) (Or.inl ⟨by rfl,?y12⟩) ?r12
 case y12=>(intro w' hy;obtain ⟨L,hD,hl,hS⟩:=hy;have qc:=(hS.1 (hD.wait (by kernel_rfl) hl)).cell;clear hS hD hl;go_simp;(try with_reducible rfl))
 (try simp only [Act.put,Zz3,Zz4,Zz5,Zz6,Zz7,Zz8])
 refine wpG_step (i:=6) (by kernel_rfl) Z (by rfl) ?r13
 intro hS K hK
 (have hq:=hS.1 (by kernel_rfl);have hz:=hS.2.2.2.1;have hb:=hS.2.2.2.2;clear hS;go_simp;refine (plus_any _ _ _ _ _ h1 h2 h7 h8).mono ?_;rintro e w1 ⟨rfl,hb1⟩;refine hK.out _ _ ⟨fun _=>hq.below hb1,fun h=>(no_of h (by kernel_rfl)).elim,fun h=>(no_of h (by kernel_rfl)).elim,hz.below hb1,hb.trans (hb1.mono hb.size)⟩ ?_;clear hq hz hb hb1)
 clear hK K;intro W13
 (try simp only [Act.put,Zz3,Zz4,Zz5,Zz6,Zz7,Zz8])
 refine ZT 14 Z ?r14
 (try simp only [Act.put,Zz3,Zz4,Zz5,Zz6,Zz7,Zz8])
 refine ZT 15 Z ?r15
 (try simp only [Act.put,Zz3,Zz4,Zz5,Zz6,Zz7,Zz8])
 refine wpG_step (i:=13) (by kernel_rfl) Z (by rfl) ?r16
 intro hS K hK
 (have hq:=hS.1 (by kernel_rfl);have hz:=hS.2.2.2.1;have hb:=hS.2.2.2.2;clear hS;go_simp;refine (less_any _ _ _ _ _ h3 h4 h11 h12).mono ?_;rintro e w2 ⟨rfl,hb1⟩;refine hK.out _ _ ⟨fun _=>hq.below hb1,fun h=>(no_of h (by kernel_rfl)).elim,fun h=>(no_of h (by kernel_rfl)).elim,hz.below hb1,hb.trans (hb1.mono hb.size)⟩ ?_;clear hq hz hb hb1)
 clear hK K;intro W16
 (try simp only [Act.put,Zz3,Zz4,Zz5,Zz6,Zz7,Zz8])
 refine wpG_step (i:=16) (by kernel_rfl) Z (by rfl) ?r17
 intro hS K hK
 (have hq:=hS.1 (by kernel_rfl);have qc:=hq.cell;have qf:=hq.frozen;have hz:=hS.2.2.2.1;have hb:=hS.2.2.2.2;clear hS;go_simp;refine hK.out _ _ ⟨fun h=>(no_of (by kernel_rfl) h).elim,fun _ _=>(hq.put 0 _ (by simp)).put 1 _ (by simp),fun h=>(no_of h (by kernel_rfl)).elim,(hz.far (by simp) _).far (by simp) _,(hb.setCell (Nat.le_refl _) _).setCell (Nat.le_refl _) _⟩ ?_;clear qc qf hz hb hq)
 clear hK K;intro W17
 (try simp only [Act.put,Zz3,Zz4,Zz5,Zz6,Zz7,Zz8])
 refine ZT 17 Z ?r18
 (try simp only [Act.put,Zz3,Zz4,Zz5,Zz6,Zz7,Zz8])
 refine ZT 18 Z ?r19
 (try simp only [Act.put,Zz3,Zz4,Zz5,Zz6,Zz7,Zz8])
 refine wpG_step (i:=19) (by kernel_rfl) Z (by rfl) ?r20
 intro hS K hK
 (have hq:=hS.2.1 (by kernel_rfl) (by kernel_rfl);have qc:=hq.cell;have qf:=hq.frozen;have hz:=hS.2.2.2.1;have hb:=hS.2.2.2.2;clear hS;go_simp;refine hK.out _ _ ⟨fun h=>(no_of (by kernel_rfl) h).elim,fun _ h=>(no_of (by kernel_rfl) h).elim,fun _=>(hq.put 2 _ (by simp)).put 3 _ (by simp),(hz.far (by simp) _).far (by simp) _,(hb.setCell (Nat.le_refl _) _).setCell (Nat.le_refl _) _⟩ ?_;clear qc qf hz hb hq)
 clear hK K;intro W20
 (try simp only [Act.put,Zz3,Zz4,Zz5,Zz6,Zz7,Zz8])
 refine wpG_end (by kernel_rfl) ?_
 intro W
  hS
 have hq:=hS.2.2.1 (by kernel_rfl)
 have hz:=hS.2.2.2.1
 have hb:=hS.2.2.2.2
 clear hS q0 q1
 go_wp2_with (first
   | (refine wpList_load_blk (by rfl) 346 (.tmp 2) (by rfl) _ (by rfl) _ hq _ underlying346 (by rfl) (by kernel_rfl) ?_)
   | (refine wpList_store_blk (by rfl) 346 (.tmp 4) (.tmp 46) (by rfl) _ _ _ (by rfl) (by rfl) hz (by rfl) (by kernel_rfl) (by simp [Value.oneCell']) ?_;intro w3 hz3 ho3))
 refine ret_blk 4 346 (by rfl) (by rfl) _ (by rfl) _ hz3 _ underlying346 (by rfl) (by kernel_rfl) ?_
 exact ⟨rfl,bl_oth hb ho3 (by omega)⟩
theorem filed_root (s:St) (w:World) (h:s.ok) :
   Calls prog 256 #[stV s,.int .i64 2] w fun e w'=>e=.returned (stV s.root)∧Below w.heap.size w w':=by
 obtain ⟨h1,h2,h3,h4,h5,h6,h7,h8,h9,h10,h11,h12,h13,h14⟩:=h
 have q0:=(Bk.new w 346 #[.int .i64 s.p0,.int .i64 s.p1,.int .i64 s.t0,.int .i64 s.t1,.int .i64 s.r0,.int .i64 s.r1,.int .i64 s.u0,.int .i64 s.u1,.int .i64 s.d0,.int .i64 s.d1,.int .i64 s.a0,.int .i64 s.a1,.int .i64 s.b0,.int .i64 s.b1,.int .i64 s.le]).alloc (.cells #[.int .i64 0,.int .i64 0,.int .i64 0,.int .i64 0,.int .i64 0,.int .i64 0,.int .i64 0,.int .i64 0,.int .i64 0,.int .i64 0,.int .i64 0,.int .i64 0,.int .i64 0,.int .i64 0,.int .i64 0] 346)
 have q1:=Bk.new (w.alloc (.cells #[.int .i64 s.p0,.int .i64 s.p1,.int .i64 s.t0,.int .i64 s.t1,.int .i64 s.r0,.int .i64 s.r1,.int .i64 s.u0,.int .i64 s.u1,.int .i64 s.d0,.int .i64 s.d1,.int .i64 s.a0,.int .i64 s.a1,.int .i64 s.b0,.int .i64 s.b1,.int .i64 s.le] 346)) 346 #[.int .i64 0,.int .i64 0,.int .i64 0,.int .i64 0,.int .i64 0,.int .i64 0,.int .i64 0,.int .i64 0,.int .i64 0,.int .i64 0,.int .i64 0,.int .i64 0,.int .i64 0,.int .i64 0,.int .i64 0]
 rw [World.size_alloc] at q1
 go_enter func256,Tryz.ntmps256
 go_wp2
 refine wp_region_G (fun L W=>(L.getD 16 true=false→Bk W w.heap.size #[.int .i64 s.p0,.int .i64 s.p1,.int .i64 s.t0,.int .i64 s.t1,.int .i64 s.r0,.int .i64 s.r1,.int .i64 s.u0,.int .i64 s.u1,.int .i64 s.d0,.int .i64 s.d1,.int .i64 s.a0,.int .i64 s.a1,.int .i64 s.b0,.int .i64 s.b1,.int .i64 s.le])∧(L.getD 16 true=true→L.getD 19 true=false→Bk W w.heap.size #[.int .i64 (s.p0 - s.d1),.int .i64 (s.p1 - s.d0),.int .i64 s.t0,.int .i64 s.t1,.int .i64 s.r0,.int .i64 s.r1,.int .i64 s.u0,.int .i64 s.u1,.int .i64 s.d0,.int .i64 s.d1,.int .i64 s.a0,.int .i64 s.a1,.int .i64 s.b0,.int .i64 s.b1,.int .i64 s.le])∧(L.getD 19 true=true→Bk W w.heap.size #[.int .i64 (s.p0 - s.d1),.int .i64 (s.p1 - s.d0),.int .i64 s.t0,.int .i64 s.t1,.int .i64 (s.r0 - s.b1),.int .i64 (s.r1 - s.b0),.int .i64 s.u0,.int .i64 s.u1,.int .i64 s.d0,.int .i64 s.d1,.int .i64 s.a0,.int .i64 s.a1,.int .i64 s.b0,.int .i64 s.b1,.int .i64 s.le])∧Bk W (w.heap.size+1) #[.int .i64 0,.int .i64 0,.int .i64 0,.int .i64 0,.int .i64 0,.int .i64 0,.int .i64 0,.int .i64 0,.int .i64 0,.int .i64 0,.int .i64 0,.int .i64 0,.int .i64 0,.int .i64 0,.int .i64 0]∧Below w.heap.size w W) 20 (by kernel_rfl) (by kernel_rfl) ?s0 ?r0
 case s0=>(exact ⟨fun _=>q0.drew,fun h=>(no_of h (by kernel_rfl)).elim,fun h=>(no_of h (by kernel_rfl)).elim,q1.drew,by (repeat' (first | (with_reducible exact Below.refl _ _) | (with_reducible refine Below.alloc ?_ ?_ _) | (with_reducible refine Below.setCell ?_ ?_ _) | (with_reducible refine Below.drew ?_) | ((with_reducible refine Below.trans ?_ (Below.mono (by assumption) ?_))) | go_size))⟩)
 intro W0
 refine ZT 0 Z ?r1
 (try simp only [Act.put,Zz3,Zz4,Zz5,Zz6,Zz7,Zz8])
 refine ZT 1 Z ?r2
 (try simp only [Act.put,Zz3,Zz4,Zz5,Zz6,Zz7,Zz8])
 refine wpG_take (i:=2) (v:=?v3) Z (by kernel_rfl) (by intro L w;simp only [getD_set_ne true (show (2:Nat)≠16 from by decide),getD_set_ne true (show (2:Nat)≠19 from by decide)]) (fun _ _ _ h=>h) (Or.inl ⟨by rfl,?y3⟩) ?r3
 case y3=>(intro w' hy;obtain ⟨L,hD,hl,hS⟩:=hy;have qc:=(hS.1 (hD.wait (by kernel_rfl) hl)).cell;clear hS hD hl;go_simp;(try with_reducible rfl))
 (try simp only [Act.put,Zz3,Zz4,Zz5,Zz6,Zz7,Zz8])
 refine ZT 3 Z ?r4
 (try simp only [Act.put,Zz3,Zz4,Zz5,Zz6,Zz7,Zz8])
 refine ZT 4 Z ?r5
 (try simp only [Act.put,Zz3,Zz4,Zz5,Zz6,Zz7,Zz8])
 refine wpG_take (i:=5) (v:=?v6) Z (by kernel_rfl) (by intro L w;simp only [getD_set_ne true (show (5:Nat)≠16 from by decide),getD_set_ne true (show (5:Nat)≠19 from by decide)]) (fun _ _ _ h=>h) (Or.inl ⟨by rfl,?y6⟩) ?r6
 case y6=>(intro w' hy;obtain ⟨L,hD,hl,hS⟩:=hy;have qc:=(hS.1 (hD.wait (by kernel_rfl) hl)).cell;clear hS hD hl;go_simp;(try with_reducible rfl))
 (try simp only [Act.put,Zz3,Zz4,Zz5,Zz6,Zz7,Zz8])
 refine ZT 7 Z ?r7
 (try simp only [Act.put,Zz3,Zz4,Zz5,Zz6,Zz7,Zz8])
 refine ZT 8 Z ?r8
 (try simp only [Act.put,Zz3,Zz4,Zz5,Zz6,Zz7,Zz8])
 refine wpG_take (i:=9) (v:=?v9) Z (by kernel_rfl) (by intro L w;simp only [getD_set_ne true (show (9:Nat)≠16 from by decide),getD_set_ne true (show (9:Nat)≠19 from by decide)]) (fun _ _ _ h=>h) (Or.inl ⟨by rfl,?y9⟩) ?r9
 case y9=>(intro w' hy;obtain ⟨L,hD,hl,hS⟩:=hy;have qc:=(hS.1 (hD.wait (by kernel_rfl) hl)).cell;clear hS hD hl;go_simp;(try with_reducible rfl))
 (try simp only [Act.put,Zz3,Zz4,Zz5,Zz6,Zz7,Zz8])
 refine ZT 10 Z ?r10
 (try simp only [Act.put,Zz3,Zz4,Zz5,Zz6,Zz7,Zz8])
 refine ZT 11 Z ?r11
 (try simp only [Act.put,Zz3,Zz4,Zz5,Zz6,Zz7,Zz8])
 refine wpG_take (i:=12) (v:=?v12) Z (by kernel_rfl) (by intro L w;simp only [getD_set_ne true (show (12:Nat)≠16 from by decide),getD_set_ne true (show (12:Nat)≠19 from by decide)]) (fun _ _ _ h=>h) (Or.inl ⟨by rfl,?y12⟩) ?r12
 case y12=>(intro w' hy;obtain ⟨L,hD,hl,hS⟩:=hy;have qc:=(hS.1 (hD.wait (by kernel_rfl) hl)).cell;clear hS hD hl;go_simp;(try with_reducible rfl))
 (try simp only [Act.put,Zz3,Zz4,Zz5,Zz6,Zz7,Zz8])
 refine wpG_step (i:=6) (by kernel_rfl) Z (by rfl) ?r13
 intro hS K hK
 (have hq:=hS.1 (by kernel_rfl);have hz:=hS.2.2.2.1;have hb:=hS.2.2.2.2;clear hS;go_simp;refine (less_any _ _ _ _ _ h1 h2 h9 h10).mono ?_;rintro e w1 ⟨rfl,hb1⟩;refine hK.out _ _ ⟨fun _=>hq.below hb1,fun h=>(no_of h (by kernel_rfl)).elim,fun h=>(no_of h (by kernel_rfl)).elim,hz.below hb1,hb.trans (hb1.mono hb.size)⟩ ?_;clear hq hz hb hb1)
 clear hK K;intro W13
 (try simp only [Act.put,Zz3,Zz4,Zz5,Zz6,Zz7,Zz8])
 refine ZT 14 Z ?r14
 (try simp only [Act.put,Zz3,Zz4,Zz5,Zz6,Zz7,Zz8])
 refine ZT 15 Z ?r15
 (try simp only [Act.put,Zz3,Zz4,Zz5,Zz6,Zz7,Zz8])
 refine wpG_step (i:=13) (by kernel_rfl) Z (by rfl) ?r16
 intro hS K hK
 (have hq:=hS.1 (by kernel_rfl);have hz:=hS.2.2.2.1;have hb:=hS.2.2.2.2;clear hS;go_simp;refine (less_any _ _ _ _ _ h5 h6 h13 h14).mono ?_;rintro e w2 ⟨rfl,hb1⟩;refine hK.out _ _ ⟨fun _=>hq.below hb1,fun h=>(no_of h (by kernel_rfl)).elim,fun h=>(no_of h (by kernel_rfl)).elim,hz.below hb1,hb.trans (hb1.mono hb.size)⟩ ?_;clear hq hz hb hb1)
 clear hK K;intro W16
 (try simp only [Act.put,Zz3,Zz4,Zz5,Zz6,Zz7,Zz8])
 refine wpG_step (i:=16) (by kernel_rfl) Z (by rfl) ?r17
 intro hS K hK
 (have hq:=hS.1 (by kernel_rfl);have qc:=hq.cell;have qf:=hq.frozen;have hz:=hS.2.2.2.1;have hb:=hS.2.2.2.2;clear hS;go_simp;refine hK.out _ _ ⟨fun h=>(no_of (by kernel_rfl) h).elim,fun _ _=>(hq.put 0 _ (by simp)).put 1 _ (by simp),fun h=>(no_of h (by kernel_rfl)).elim,(hz.far (by simp) _).far (by simp) _,(hb.setCell (Nat.le_refl _) _).setCell (Nat.le_refl _) _⟩ ?_;clear qc qf hz hb hq)
 clear hK K;intro W17
 (try simp only [Act.put,Zz3,Zz4,Zz5,Zz6,Zz7,Zz8])
 refine ZT 17 Z ?r18
 (try simp only [Act.put,Zz3,Zz4,Zz5,Zz6,Zz7,Zz8])
 refine ZT 18 Z ?r19
 (try simp only [Act.put,Zz3,Zz4,Zz5,Zz6,Zz7,Zz8])
 refine wpG_step (i:=19) (by kernel_rfl) Z (by rfl) ?r20
 intro hS K hK
 (have hq:=hS.2.1 (by kernel_rfl) (by kernel_rfl);have qc:=hq.cell;have qf:=hq.frozen;have hz:=hS.2.2.2.1;have hb:=hS.2.2.2.2;clear hS;go_simp;refine hK.out _ _ ⟨fun h=>(no_of (by kernel_rfl) h).elim,fun _ h=>(no_of (by kernel_rfl) h).elim,fun _=>(hq.put 4 _ (by simp)).put 5 _ (by simp),(hz.far (by simp) _).far (by simp) _,(hb.setCell (Nat.le_refl _) _).setCell (Nat.le_refl _) _⟩ ?_;clear qc qf hz hb hq)
 clear hK K;intro W20
 (try simp only [Act.put,Zz3,Zz4,Zz5,Zz6,Zz7,Zz8])
 refine wpG_end (by kernel_rfl) ?_
 intro W
  hS
 have hq:=hS.2.2.1 (by kernel_rfl)
 have hz:=hS.2.2.2.1
 have hb:=hS.2.2.2.2
 clear hS q0 q1
 go_wp2_with (first
   | (refine wpList_load_blk (by rfl) 346 (.tmp 2) (by rfl) _ (by rfl) _ hq _ underlying346 (by rfl) (by kernel_rfl) ?_)
   | (refine wpList_store_blk (by rfl) 346 (.tmp 4) (.tmp 46) (by rfl) _ _ _ (by rfl) (by rfl) hz (by rfl) (by kernel_rfl) (by simp [Value.oneCell']) ?_;intro w3 hz3 ho3))
 refine ret_blk 4 346 (by rfl) (by rfl) _ (by rfl) _ hz3 _ underlying346 (by rfl) (by kernel_rfl) ?_
 exact ⟨rfl,bl_oth hb ho3 (by omega)⟩
theorem take_eq_succ {k l:List Int} {p:Nat} {x y:Int} (h1:k.drop p=x::k.drop (p+1)) (h2:l.drop p=y::l.drop (p+1)):decide (k.take (p+1)=l.take (p+1))=(decide (k.take p=l.take p) && decide (x=y)):=by
 have a:∀ {m:List Int} {z:Int},m.drop p=z::m.drop (p+1)→m.take (p+1)=m.take p++[z]:=by
  intro m z h
  have hk:p < m.length:=by
   rcases Nat.lt_or_ge p m.length with h' | h'
   ·exact h'
   ·rw [List.drop_of_length_le h'] at h;cases h
  rw [List.drop_eq_getElem_cons hk] at h
  injection h with h _
  rw [List.take_succ_eq_append_getElem hk,h]
 rw [a h1,a h2]
 rw [Bool.eq_iff_iff]
 simp only [Bool.and_eq_true,decide_eq_true_eq]
 constructor
 ·intro h
  have:=List.append_inj' h rfl
  exact ⟨this.1,by simpa using this.2⟩
 ·rintro ⟨h,rfl⟩;rw [h]
theorem sameInts_any (A B:Option Addr) (n m c d:Nat) (k l:List Int) (w:World) (ha:Rd w w.heap.size 1 A n (ic k)) (hb:Rd w w.heap.size 1 B m (ic l)) (hn:n≤9223372036854775807) (hm:m≤9223372036854775807) :
   Calls prog 33 #[.slice A n c,.slice B m d] w fun e w'=>e=.returned (.bool (decide (k=l)))∧Below w.heap.size w w':=by
 have HA:=Lib.hid ha
 have HB:=Lib.hid hb
 have HK:=Lib.hid ha.len1
 have HL:=Lib.hid hb.len1
 clear ha hb
 by_cases hnm:n=m
 · subst hnm
   have e0:((n:Int) == (n:Int))=true:=by simp
   have e1:(n == n)=true:=by simp
   go_enter func33,Tryz.ntmps33
   go_wp2
   go_loopw [5,6] (fun s i wr=>∃ (p:Nat) (b:Bool),p≤n∧i=.int .i64 p∧s=.bool b∧Hid (b=decide (k.take p=l.take p))∧Below w.heap.size w wr) (fun _ i _=>n - (intOf i).toNat)
   case atStart=>exact ⟨0,true,by omega,rfl,rfl,by show _=_;simp,Below.refl _ _⟩
   case round =>
     obtain ⟨p,b,hp,rfl,rfl,he,hbw⟩:=hrel
     cases b with
     | false =>
       go_wp2
       go_ret
       have h:=he.out
       exact ⟨ret_bool (by symm;simp;rintro rfl;simp at h),hbw⟩
     | true =>
       by_cases hlt:p < n
       · obtain ⟨b1,o1,x,rfl,hb1,hd1,d1⟩:=(HA.out.below hbw).at1 hlt
         obtain ⟨b2,o2,y,rfl,hb2,hd2,d2⟩:=(HB.out.below hbw).at1 hlt
         have HD1:=Lib.hid hd1
         have HD2:=Lib.hid hd2
         clear hd1 hd2
         have i0:(0:Int)≤(p:Int):=by omega
         have i1:(p:Int) < (n:Int):=by omega
         go_wp2
         refine wp_region_G (fun _ W=>W.cell? ⟨b1,o1+p,none⟩=some (.int .i64 x)∧W.cell? ⟨b2,o2+p,none⟩=some (.int .i64 y)∧Below w.heap.size w W) 10 (by kernel_rfl) (by kernel_rfl) ?s0 ?r0
         case s0=>(exact ⟨d1,d2,hbw.drew⟩)
         intro W0
         refine ZT 0 Z ?r1
         (try simp only [Act.put,Zz3,Zz4,Zz5,Zz6,Zz7,Zz8])
         refine ZT 1 Z ?r2
         (try simp only [Act.put,Zz3,Zz4,Zz5,Zz6,Zz7,Zz8])
         refine ZT 2 Z ?r3
         (try simp only [Act.put,Zz3,Zz4,Zz5,Zz6,Zz7,Zz8])
         refine wpG_take (i:=3) (v:=?v4) Z (by kernel_rfl) (by exact fun _ _=>Iff.rfl) (fun _ _ _ h=>h) (Or.inl ⟨by rfl,?y4⟩) ?r4
         case y4=>(intro w' hy;obtain ⟨L,hD,hl,hS⟩:=hy;obtain ⟨s1,s2,_⟩:=hS;clear hD hl;go_simp;(try with_reducible rfl))
         (try simp only [Act.put,Zz3,Zz4,Zz5,Zz6,Zz7,Zz8])
         refine ZT 4 Z ?r5
         (try simp only [Act.put,Zz3,Zz4,Zz5,Zz6,Zz7,Zz8])
         refine ZT 5 Z ?r6
         (try simp only [Act.put,Zz3,Zz4,Zz5,Zz6,Zz7,Zz8])
         refine ZT 6 Z ?r7
         (try simp only [Act.put,Zz3,Zz4,Zz5,Zz6,Zz7,Zz8])
         refine wpG_take (i:=7) (v:=?v8) Z (by kernel_rfl) (by exact fun _ _=>Iff.rfl) (fun _ _ _ h=>h) (Or.inl ⟨by rfl,?y8⟩) ?r8
         case y8=>(intro w' hy;obtain ⟨L,hD,hl,hS⟩:=hy;obtain ⟨s1,s2,_⟩:=hS;clear hD hl;go_simp;(try with_reducible rfl))
         (try simp only [Act.put,Zz3,Zz4,Zz5,Zz6,Zz7,Zz8])
         refine ZT 8 Z ?r9
         (try simp only [Act.put,Zz3,Zz4,Zz5,Zz6,Zz7,Zz8])
         refine ZT 9 Z ?r10
         (try simp only [Act.put,Zz3,Zz4,Zz5,Zz6,Zz7,Zz8])
         refine wpG_end (by kernel_rfl) ?_
         intro W
          hS
         have hbz:=hS.2.2
         clear hS
         go_wp2
         go_roundw
         case rel=>exact ⟨p+1,(x == y),by omega,by go_num,rfl,by (show _=_;rw [take_eq_succ HD1.out HD2.out,← he.out];rw [Bool.eq_iff_iff];simp),hbz⟩
         case measure=>simp [intOf];omega
       · go_wp2
         go_ret
         have e1:k.take p=k:=List.take_of_length_le (by have:=HK.out;omega)
         have e2:l.take p=l:=List.take_of_length_le (by have:=HL.out;omega)
         have h:=he.out
         rw [e1,e2] at h
         exact ⟨ret_bool h,hbw⟩
 · have e0:((n:Int) == (m:Int))=false:=by simp;omega
   have e1:(n == m)=false:=by simp;omega
   have HE:Hid (decide (k=l)=false):=by show _=_;simp;intro h;have h1:=HK.out;have h2:=HL.out;rw [h] at h1;omega
   generalize decide (k=l)=dk at *
   go_enter func33,Tryz.ntmps33
   go_wp2
   go_loopw [5,6] (fun s i wr=>s=.bool false∧Below w.heap.size w wr) (fun _ _ _=>0)
   case atStart=>exact ⟨rfl,Below.refl _ _⟩
   case round =>
     obtain ⟨rfl,hbw⟩:=hrel
     go_wp2
     go_ret
     exact ⟨ret_bool HE.out.symm,hbw⟩
def u64ok (s:Int):Prop:=0≤s∧s < 18446744073709551616
theorem u64_wrap (n:Int):u64ok (IntKind.u64.wrap n):=by
 unfold u64ok IntKind.wrap
 simp [IntKind.signed,IntKind.bits]
 omega
theorem u64_bits (a b:Int):u64ok (bits .xor .u64 a b):=by unfold bits;exact u64_wrap _
theorem Mem.callC {w0 w w':World} {ex:Nat→Prop} {L L':List (Nat×BA)} {g:Nat} {cs cs':List Value} (M:Mem w0 ex w L) (hu:Upd L g (.cells cs) (.cells cs') L') (h:w.grownBy w' (some g)) (hp:Bk w' g cs'.toArray):Mem w0 ex w' L':=M.callW hu h hp
def PotPost (bp:Nat) (R:Int→Prop) (k:IntKind) (w:World) (e:Ending) (w':World):Prop :=
 ∃ n s:Int,R n∧u64ok s∧e=.returned (.int k n)∧w.grownBy w' (some bp)∧Bk w' bp #[.int .u64 s]
theorem step_any (s:Int) (bp:Nat) (w:World) (hp:Bk w bp #[.int .u64 s]) :
  Calls prog 96 #[.pointer (some ⟨bp,0,none⟩)] w (PotPost bp u64ok .u64 w):=by
 have M:=Mem.initEx (p:=.cells [.int .u64 s]) hp
 clear hp
 go_enter func96,Tryz.ntmps96
 refine m_start M ?_
 clear M
 intro wc M
 go_wp2_with (first | (refine Zm1 M rfl rfl rfl ?_) | (refine Zm2 M rfl rfl rfl ?_) | (refine Zm3 M rfl rfl rfl ?_;clear M;(try clear wc);intro wc M) | (refine m_al M rfl rfl ?_;clear M;(try clear wc);intro g wc M) | (refine Zm4 M rfl rfl ?_;clear M;(try clear wc);intro g wc M))
 go_ret
 exact ⟨_,_,u64_bits _ _,u64_wrap _,Z,M.grown,M.get (by (repeat' (first | exact Zz2 | refine Zz1 ?_)))⟩
theorem upto_any (s:Int) (bp:Nat) (most:Int) (w:World) (hm:most≤1000000) (hm0:0≤most) (hp:Bk w bp #[.int .u64 s]) (hs:u64ok s) :
  Calls prog 35 #[.pointer (some ⟨bp,0,none⟩),.int .i64 most] w (PotPost bp (fun n=>0≤n∧n≤most) .i64 w):=by
 have M:=Mem.initEx (p:=.cells [.int .u64 s]) hp
 have HS:=Lib.hid hs
 clear hp hs
 by_cases h1:most < 1
 ·go_enter func35,Tryz.ntmps35
  refine m_start M ?_
  clear M
  intro wc M
  go_wp2_with (first | (refine Zm1 M rfl rfl rfl ?_) | (refine Zm2 M rfl rfl rfl ?_) | (refine Zm3 M rfl rfl rfl ?_;clear M;(try clear wc);intro wc M) | (refine m_al M rfl rfl ?_;clear M;(try clear wc);intro g wc M) | (refine Zm4 M rfl rfl ?_;clear M;(try clear wc);intro g wc M))
  go_ret
  exact ⟨0,s,⟨by omega,by omega⟩,HS.out,Z,M.grown,M.get (by (repeat' (first | exact Zz2 | refine Zz1 ?_)))⟩
 ·go_enter func35,Tryz.ntmps35
  refine m_start M ?_
  clear M
  intro wc M
  go_wp2_with (first | (refine Zm1 M rfl rfl rfl ?_) | (refine Zm2 M rfl rfl rfl ?_) | (refine Zm3 M rfl rfl rfl ?_;clear M;(try clear wc);intro wc M) | (refine m_al M rfl rfl ?_;clear M;(try clear wc);intro g wc M) | (refine Zm4 M rfl rfl ?_;clear M;(try clear wc);intro g wc M) | (go_at_call 96;refine (step_any s bp _ (M.get (by (repeat' (first | exact Zz2 | refine Zz1 ?_))))).mono ?_;rintro e wc ⟨v,s',hv,hs',rfl,hgr,hb⟩;have HV:=Lib.hid hv;have HS':=Lib.hid hs';have v0:0≤v:=hv.1;clear hv hs';replace M:=M.callC (cs':=[.int .u64 s']) (by (repeat (first | exact Upd.head | apply Upd.tail))) hgr hb;clear hgr hb))
  go_ret
  have r0:0≤v / 2048 % (most+1):=Int.emod_nonneg _ (by omega)
  have r1:v / 2048 % (most+1) < most+1:=Int.emod_lt_of_pos _ (by omega)
  generalize v / 2048 % (most+1)=rr at *
  have e:wrap64 rr=rr:=IntWalk.wrap64_in rr (by omega)
  rw [e]
  exact ⟨rr,s',⟨r0,by omega⟩,HS'.out,Z,M.grown,M.get (by (repeat' (first | exact Zz2 | refine Zz1 ?_)))⟩
theorem within_pot (s:Int) (bp:Nat) (lo hi:Int) (w:World) (hl : -1000≤lo) (hh:hi≤1000) (hlh:lo≤hi) (hp:Bk w bp #[.int .u64 s]) (hs:u64ok s) :
  Calls prog 36 #[.pointer (some ⟨bp,0,none⟩),.int .i64 lo,.int .i64 hi] w (PotPost bp (fun n=>lo≤n∧n≤hi) .i64 w):=by
 have M:=Mem.initEx (p:=.cells [.int .u64 s]) hp
 have HS:=Lib.hid hs
 clear hp hs
 go_enter func36,Tryz.ntmps36
 refine m_start M ?_
 clear M
 intro wc M
 go_wp2_with (first | (refine Zm1 M rfl rfl rfl ?_) | (refine Zm2 M rfl rfl rfl ?_) | (refine Zm3 M rfl rfl rfl ?_;clear M;(try clear wc);intro wc M) | (refine m_al M rfl rfl ?_;clear M;(try clear wc);intro g wc M) | (refine Zm4 M rfl rfl ?_;clear M;(try clear wc);intro g wc M) | (go_at_call 35;refine (upto_any s bp (hi - lo) _ (by omega) (by omega) (M.get (by (repeat' (first | exact Zz2 | refine Zz1 ?_)))) HS.out).mono ?_;rintro e wc ⟨v,s,hv,hs,rfl,hgr,hb⟩;have HS:=Lib.hid hs;clear hs;replace M:=M.callC (cs':=[.int .u64 s]) (by (repeat (first | exact Upd.head | apply Upd.tail))) hgr hb;clear hgr hb;skip))
 go_ret
 exact ⟨_,_,⟨by omega,by omega⟩,HS.out,Z,M.grown,M.get (by (repeat' (first | exact Zz2 | refine Zz1 ?_)))⟩
theorem three {v:Int} (h:0≤v∧v≤2):v=0∨v=1∨v=2:=by omega
theorem of_pot (s:Int) (bp g:Nat) (a b c:Int) (w:World) (hg:g≠bp) (hl:Bk w g #[.int .i64 a,.int .i64 b,.int .i64 c]) (hp:Bk w bp #[.int .u64 s]) (hs:u64ok s) :
  Calls prog 97 #[.pointer (some ⟨bp,0,none⟩),.slice (some ⟨g,0,none⟩) 3 3] w (PotPost bp (fun n=>n=a∨n=b∨n=c) .i64 w):=by
 have M:=Mem.initEx (p:=.cells [.int .u64 s]) hp
 have HS:=Lib.hid hs
 have HL:=Lib.hid hl
 clear hp hs hl
 go_enter func97,Tryz.ntmps97
 refine m_start M ?_
 clear M
 intro wc M
 go_wp2_with (first | (refine Zm1 M rfl rfl rfl ?_) | (refine Zm2 M rfl rfl rfl ?_) | (refine Zm3 M rfl rfl rfl ?_;clear M;(try clear wc);intro wc M) | (refine m_al M rfl rfl ?_;clear M;(try clear wc);intro g wc M) | (refine Zm4 M rfl rfl ?_;clear M;(try clear wc);intro g wc M) | (refine lo_one (M.old HL.out hg) rfl rfl rfl (by rfl) ?_) | (go_at_call 35;refine (upto_any s bp 2 _ (by omega) (by omega) (M.get (by (repeat' (first | exact Zz2 | refine Zz1 ?_)))) HS.out).mono ?_;rintro e wc ⟨v,s,hv,hs,rfl,hgr,hb⟩;have HS:=Lib.hid hs;clear hs;replace M:=M.callC (cs':=[.int .u64 s]) (by (repeat (first | exact Upd.head | apply Upd.tail))) hgr hb;clear hgr hb;rcases three hv with rfl | rfl | rfl))
 all_goals
  go_ret
  exact ⟨_,_,by simp,HS.out,Z,M.grown,M.get (by (repeat' (first | exact Zz2 | refine Zz1 ?_)))⟩
def NearPost (bp:Nat) (n lo hi wd:Int) (w:World) (e:Ending) (w':World):Prop:=∃ x y s':Int,(lo≤x∧n - wd≤x∧x≤n∧n≤y∧y≤n+wd∧y≤hi)∧u64ok s'∧e=.returned (R2 x y)∧w.grownBy w' (some bp)∧Bk w' bp #[.int .u64 s']
theorem near_pot (s:Int) (bp:Nat) (n lo hi wd:Int) (w:World) (hl : -1000≤lo) (hh:hi≤1000) (h1:lo≤n) (h2:n≤hi) (hw0:0≤wd) (hw1:wd≤1000) (hp:Bk w bp #[.int .u64 s]) (hs:u64ok s) :
  Calls prog 64 #[.pointer (some ⟨bp,0,none⟩),.int .i64 n,.int .i64 lo,.int .i64 hi,.int .i64 wd] w (NearPost bp n lo hi wd w):=by
 have M:=Mem.initEx (p:=.cells [.int .u64 s]) hp
 have HS:=Lib.hid hs
 clear hp hs
 go_enter func64,Tryz.ntmps64
 refine m_start M ?_
 clear M
 intro wc M
 go_wp2_with (first | (refine Zm1 M rfl rfl rfl ?_) | (refine Zm2 M rfl rfl rfl ?_) | (refine Zm3 M rfl rfl rfl ?_;clear M;(try clear wc);intro wc M) | (refine m_al M rfl rfl ?_;clear M;(try clear wc);intro g wc M) | (refine Zm4 M rfl rfl ?_;clear M;(try clear wc);intro g wc M) | (refine absorb M ?_;intro M';clear M;(obtain ⟨M,-⟩:_∧True:=⟨M',trivial⟩);clear M';revert M;generalize World.alloc _ _=wn;generalize wc.heap.size=g;(try clear wc);intro M;(obtain ⟨wc,rfl⟩:∃ x:World,x=wn:=⟨_,rfl⟩)) | (go_at_call 35;refine (upto_any _ bp _ _ (by omega) (by omega) (M.get (by (repeat' (first | exact Zz2 | refine Zz1 ?_)))) HS.out).mono ?_;rintro e wc ⟨v,s,hv,hs,rfl,hgr,hb⟩;have HS:=Lib.hid hs;clear hs;replace M:=M.callC (cs':=[.int .u64 s]) (by (repeat (first | exact Upd.head | apply Upd.tail))) hgr hb;clear hgr hb;skip) | (go_at_call 36;refine (within_pot _ bp _ _ _ (by omega) (by omega) (by omega) (M.get (by (repeat' (first | exact Zz2 | refine Zz1 ?_)))) HS.out).mono ?_;rintro e wc ⟨v,s,hv,hs,rfl,hgr,hb⟩;have HS:=Lib.hid hs;clear hs;replace M:=M.callC (cs':=[.int .u64 s]) (by (repeat (first | exact Upd.head | apply Upd.tail))) hgr hb;clear hgr hb;skip) | (go_at_call 97;refine (of_pot _ bp _ _ _ _ _ (by have hnd:=M.nd;simp only [List.map_cons,List.map_nil,List.nodup_cons,Zx7,not_or] at hnd;omega) (M.get (by (repeat' (first | exact Zz2 | refine Zz1 ?_)))) (M.get (by (repeat' (first | exact Zz2 | refine Zz1 ?_)))) HS.out).mono ?_;rintro e wc ⟨v,s,hv,hs,rfl,hgr,hb⟩;have HS:=Lib.hid hs;clear hs;replace M:=M.callC (cs':=[.int .u64 s]) (by (repeat (first | exact Upd.head | apply Upd.tail))) hgr hb;clear hgr hb;skip))
 all_goals
  refine ret_M (t:=10) (ty:=26) M (by rfl) (by rfl) (by rfl) (by (repeat' (first | exact Zz2 | refine Zz1 ?_))) (by rfl) ?_
  refine ⟨_,_,s,⟨?_,?_,?_,?_,?_,?_⟩,HS.out,Z,M.grown,M.get (by (repeat' (first | exact Zz2 | refine Zz1 ?_)))⟩ <;> (split <;> omega)
theorem newPot_any (A:Option Addr) (n c:Nat) (l:List Int) (w:World) (hr:Rd w w.heap.size 1 A n (ic l)) (hn:n≤9223372036854775807) :
   Calls prog 9 #[.slice A n c] w fun e w'=>∃ (bp:Nat) (s:Int),u64ok s∧e=.returned (.pointer (some ⟨bp,0,none⟩))∧Mem w noEx w' [(bp,.cells [.int .u64 s])]:=by
 have HR:=Lib.hid hr
 clear hr
 go_enter func9,Tryz.ntmps9
 refine start noEx ?_
 intro wc M
 go_wp2_with (first | (refine Zm1 M rfl rfl rfl ?_) | (refine Zm2 M rfl rfl rfl ?_) | (refine Zm3 M rfl rfl rfl ?_;clear M;(try clear wc);intro wc M) | (refine m_al M rfl rfl ?_;clear M;(try clear wc);intro g wc M) | (refine Zm4 M rfl rfl ?_;clear M;(try clear wc);intro g wc M))
 rename_i K0 hK0
 go_loopw [4] (fun v wr=>∃ (k:Nat) (s:Int),k≤n∧v=.int .i64 k∧Hid (u64ok s)∧Mem w noEx wr [(g,.cells [.int .u64 s])]) (fun v _=>n - (intOf v).toNat)
 case atStart=>exact ⟨0,_,by omega,rfl,by (show u64ok _;unfold u64ok;decide),M⟩
 case round =>
   clear M wc
   obtain ⟨k,s,hk,rfl,hs,M⟩:=hrel
   obtain ⟨wc,rfl⟩:∃ x:World,x=wr:=⟨_,rfl⟩
   by_cases hlt:k < n
   · obtain ⟨b,o,x,rfl,hbb,hd,d0⟩:=HR.out.at1 hlt
     clear hd
     have D0:=Lib.hid d0
     clear d0
     have i0:(0:Int)≤(k:Int):=by omega
     have i1:(k:Int) < (n:Int):=by omega
     go_wp2
     refine wp_region_G (fun L W=>(L.getD 14 true=false→Mem w noEx W [(g,.cells [.int .u64 s])])∧(L.getD 14 true=true→∃ s1,u64ok s1∧Mem w noEx W [(g,.cells [.int .u64 s1])])) 15 (by kernel_rfl) (by kernel_rfl) ?s0 ?r0
     case s0=>(exact ⟨fun _=>M.drew,fun h=>(no_of h (by kernel_rfl)).elim⟩)
     intro W0
     refine ZT 0 Z ?r1
     (try simp only [Act.put,Zz3,Zz4,Zz5,Zz6,Zz7,Zz8])
     refine ZT 1 Z ?r2
     (try simp only [Act.put,Zz3,Zz4,Zz5,Zz6,Zz7,Zz8])
     refine ZT 2 Z ?r3
     (try simp only [Act.put,Zz3,Zz4,Zz5,Zz6,Zz7,Zz8])
     refine ZT 3 Z ?r4
     (try simp only [Act.put,Zz3,Zz4,Zz5,Zz6,Zz7,Zz8])
     refine wpG_take (i:=4) (v:=?v5) Z (by kernel_rfl) (by intro L w;simp only [getD_set_ne true (show (4:Nat)≠14 from by decide)]) (fun _ _ _ h=>h) (Or.inl ⟨by rfl,?y5⟩) ?r5
     case y5=>(intro w' hy;obtain ⟨L,hD,hl,hS⟩:=hy;have M0:=hS.1 (hD.wait (by kernel_rfl) hl);clear hS;first | (refine Eq.trans (Zro (Mem.get M0 (by (repeat' (first | exact Zz2 | refine Zz1 ?_)))) rfl rfl (by rfl)) ?_;with_reducible rfl) | (refine Eq.trans (rn_row (Mem.get M0 (by (repeat' (first | exact Zz2 | refine Zz1 ?_)))) rfl rfl (by (try simp only [Zy2,List.take_zero,List.take_nil,Zy1,List.drop_zero,List.drop_nil,Zx6,Zx5,Zx4,Zx1,Zx2,Nat.reduceAdd,Zxa,Zx0]);rfl) (by rfl)) ?_;with_reducible rfl);(try with_reducible rfl))
     (try simp only [Act.put,Zz3,Zz4,Zz5,Zz6,Zz7,Zz8])
     refine ZT 5 Z ?r6
     (try simp only [Act.put,Zz3,Zz4,Zz5,Zz6,Zz7,Zz8])
     refine ZT 6 Z ?r7
     (try simp only [Act.put,Zz3,Zz4,Zz5,Zz6,Zz7,Zz8])
     refine ZT 7 Z ?r8
     (try simp only [Act.put,Zz3,Zz4,Zz5,Zz6,Zz7,Zz8])
     refine wpG_take (i:=8) (v:=?v9) Z (by kernel_rfl) (by intro L w;simp only [getD_set_ne true (show (8:Nat)≠14 from by decide)]) (fun _ _ _ h=>h) (Or.inl ⟨by rfl,?y9⟩) ?r9
     case y9=>(intro w' hy;obtain ⟨L,hD,hl,hS⟩:=hy;have M0:=hS.1 (hD.wait (by kernel_rfl) hl);clear hS hD hl;have cc:w'.cell? ⟨b,o+k,none⟩=some (.int .i64 x):=(World.cell?_of_block (w:=w) (a:=⟨b,o+k,none⟩) (M0.block b hbb (fun h=>h))).trans D0.out;clear M0;go_simp;(try with_reducible rfl))
     (try simp only [Act.put,Zz3,Zz4,Zz5,Zz6,Zz7,Zz8])
     refine ZT 9 Z ?r10
     (try simp only [Act.put,Zz3,Zz4,Zz5,Zz6,Zz7,Zz8])
     refine ZT 10 Z ?r11
     (try simp only [Act.put,Zz3,Zz4,Zz5,Zz6,Zz7,Zz8])
     refine ZT 11 Z ?r12
     (try simp only [Act.put,Zz3,Zz4,Zz5,Zz6,Zz7,Zz8])
     refine ZT 12 Z ?r13
     (try simp only [Act.put,Zz3,Zz4,Zz5,Zz6,Zz7,Zz8])
     refine ZT 13 Z ?r14
     (try simp only [Act.put,Zz3,Zz4,Zz5,Zz6,Zz7,Zz8])
     refine wpG_step (i:=14) (by kernel_rfl) Z (by rfl) ?r15
     intro hS K hK
     (have M0:=hS.1 (by kernel_rfl);clear hS;refine m_stw M0 rfl rfl (by first | exact (rfl:_=Value.agg _) | exact (rfl:_=Value.int _ _) | exact (rfl:_=Value.bool _) | exact (rfl:_=Value.slice _ _ _) | exact (rfl:_=Value.pointer _) | exact (rfl:_=Value.map _) | exact (rfl:_=Value.func _ _ _) | exact (rfl:_=Value.string _)) (by rfl) (by (repeat (first | exact Upd.head | apply Upd.tail))) (by (try simp only [Zy2,List.take_zero,List.take_nil,Zy1,List.drop_zero,List.drop_nil,Zx6,Zx5,Zx4,Zx1,Zx2,Nat.reduceAdd,Zxa,Zx0]);rfl) (by simp) (by simp [Value.oneCell']) (by kernel_rfl) ?_;intro V2 M2;refine hK.out _ _ ⟨fun h=>(no_of (by kernel_rfl) h).elim,fun _=>⟨_,u64_wrap _,M2⟩⟩ ?_;clear M0 M2)
     clear hK K;intro W15
     (try simp only [Act.put,Zz3,Zz4,Zz5,Zz6,Zz7,Zz8])
     refine wpG_end (by kernel_rfl) ?_
     intro W
      hS
     obtain ⟨s2,hs2,M⟩:=hS.2 (by kernel_rfl)
     have HS2:=Lib.hid hs2
     clear hS hs2
     obtain ⟨wc,rfl⟩:∃ x:World,x=W:=⟨_,rfl⟩
     go_wp2
     refine wp_region_G (fun L W=>(L.getD 13 true=false→Mem w noEx W [(g,.cells [.int .u64 s2])])∧(L.getD 13 true=true→∃ s1,u64ok s1∧Mem w noEx W [(g,.cells [.int .u64 s1])])) 14 (by kernel_rfl) (by kernel_rfl) ?s0b ?r0b
     case s0b=>(exact ⟨fun _=>M.drew,fun h=>(no_of h (by kernel_rfl)).elim⟩)
     intro W0
     refine ZT 0 Z ?r1b
     (try simp only [Act.put,Zz3,Zz4,Zz5,Zz6,Zz7,Zz8])
     refine ZT 1 Z ?r2b
     (try simp only [Act.put,Zz3,Zz4,Zz5,Zz6,Zz7,Zz8])
     refine ZT 2 Z ?r3b
     (try simp only [Act.put,Zz3,Zz4,Zz5,Zz6,Zz7,Zz8])
     refine ZT 3 Z ?r4b
     (try simp only [Act.put,Zz3,Zz4,Zz5,Zz6,Zz7,Zz8])
     refine wpG_take (i:=4) (v:=?v5b) Z (by kernel_rfl) (by intro L w;simp only [getD_set_ne true (show (4:Nat)≠13 from by decide)]) (fun _ _ _ h=>h) (Or.inl ⟨by rfl,?y5b⟩) ?r5b
     case y5b=>(intro w' hy;obtain ⟨L,hD,hl,hS⟩:=hy;have M0:=hS.1 (hD.wait (by kernel_rfl) hl);clear hS;first | (refine Eq.trans (Zro (Mem.get M0 (by (repeat' (first | exact Zz2 | refine Zz1 ?_)))) rfl rfl (by rfl)) ?_;with_reducible rfl) | (refine Eq.trans (rn_row (Mem.get M0 (by (repeat' (first | exact Zz2 | refine Zz1 ?_)))) rfl rfl (by (try simp only [Zy2,List.take_zero,List.take_nil,Zy1,List.drop_zero,List.drop_nil,Zx6,Zx5,Zx4,Zx1,Zx2,Nat.reduceAdd,Zxa,Zx0]);rfl) (by rfl)) ?_;with_reducible rfl);(try with_reducible rfl))
     (try simp only [Act.put,Zz3,Zz4,Zz5,Zz6,Zz7,Zz8])
     refine ZT 5 Z ?r6b
     (try simp only [Act.put,Zz3,Zz4,Zz5,Zz6,Zz7,Zz8])
     refine ZT 6 Z ?r7b
     (try simp only [Act.put,Zz3,Zz4,Zz5,Zz6,Zz7,Zz8])
     refine ZT 7 Z ?r8b
     (try simp only [Act.put,Zz3,Zz4,Zz5,Zz6,Zz7,Zz8])
     refine wpG_take (i:=8) (v:=?v9b) Z (by kernel_rfl) (by intro L w;simp only [getD_set_ne true (show (8:Nat)≠13 from by decide)]) (fun _ _ _ h=>h) (Or.inl ⟨by rfl,?y9b⟩) ?r9b
     case y9b=>(intro w' hy;obtain ⟨L,hD,hl,hS⟩:=hy;have M0:=hS.1 (hD.wait (by kernel_rfl) hl);clear hS;first | (refine Eq.trans (Zro (Mem.get M0 (by (repeat' (first | exact Zz2 | refine Zz1 ?_)))) rfl rfl (by rfl)) ?_;with_reducible rfl) | (refine Eq.trans (rn_row (Mem.get M0 (by (repeat' (first | exact Zz2 | refine Zz1 ?_)))) rfl rfl (by (try simp only [Zy2,List.take_zero,List.take_nil,Zy1,List.drop_zero,List.drop_nil,Zx6,Zx5,Zx4,Zx1,Zx2,Nat.reduceAdd,Zxa,Zx0]);rfl) (by rfl)) ?_;with_reducible rfl);(try with_reducible rfl))
     (try simp only [Act.put,Zz3,Zz4,Zz5,Zz6,Zz7,Zz8])
     refine ZT 9 Z ?r10b
     (try simp only [Act.put,Zz3,Zz4,Zz5,Zz6,Zz7,Zz8])
     refine ZT 10 Z ?r11b
     (try simp only [Act.put,Zz3,Zz4,Zz5,Zz6,Zz7,Zz8])
     refine ZT 11 Z ?r12b
     (try simp only [Act.put,Zz3,Zz4,Zz5,Zz6,Zz7,Zz8])
     refine ZT 12 Z ?r13b
     (try simp only [Act.put,Zz3,Zz4,Zz5,Zz6,Zz7,Zz8])
     refine wpG_step (i:=13) (by kernel_rfl) Z (by rfl) ?r14b
     intro hS K hK
     (have M0:=hS.1 (by kernel_rfl);clear hS;refine m_stw M0 rfl rfl (by first | exact (rfl:_=Value.agg _) | exact (rfl:_=Value.int _ _) | exact (rfl:_=Value.bool _) | exact (rfl:_=Value.slice _ _ _) | exact (rfl:_=Value.pointer _) | exact (rfl:_=Value.map _) | exact (rfl:_=Value.func _ _ _) | exact (rfl:_=Value.string _)) (by rfl) (by (repeat (first | exact Upd.head | apply Upd.tail))) (by (try simp only [Zy2,List.take_zero,List.take_nil,Zy1,List.drop_zero,List.drop_nil,Zx6,Zx5,Zx4,Zx1,Zx2,Nat.reduceAdd,Zxa,Zx0]);rfl) (by simp) (by simp [Value.oneCell']) (by kernel_rfl) ?_;intro V2 M2;refine hK.out _ _ ⟨fun h=>(no_of (by kernel_rfl) h).elim,fun _=>⟨_,u64_bits _ _,M2⟩⟩ ?_;clear M0 M2)
     clear hK K;intro W14
     (try simp only [Act.put,Zz3,Zz4,Zz5,Zz6,Zz7,Zz8])
     refine wpG_end (by kernel_rfl) ?_
     intro W
      hS
     obtain ⟨s3,hs3,M⟩:=hS.2 (by kernel_rfl)
     have HS3:=Lib.hid hs3
     clear hS hs3
     go_wp2
     go_roundw
     case rel=>exact ⟨k+1,s3,by omega,by go_num,HS3,M⟩
     case measure=>simp [intOf];omega
   · go_wp2_with (first | (refine Zm1 M rfl rfl rfl ?_) | (refine Zm2 M rfl rfl rfl ?_) | (refine Zm3 M rfl rfl rfl ?_;clear M;(try clear wc);intro wc M) | (refine m_al M rfl rfl ?_;clear M;(try clear wc);intro g wc M) | (refine Zm4 M rfl rfl ?_;clear M;(try clear wc);intro g wc M))
     go_ret
     exact ⟨g,s,hs.out,Z,M⟩
def St.spoiled (s:St):Int:=if s.t1 < s.le∨s.r1 < s.le then 1 else if s.le≤s.t0∧s.le≤s.r0 then 2 else 3
theorem spoiled_any (s:St) (w:World) :
  Calls prog 258 #[stV s] w fun e w'=>e=.returned (.int .i64 s.spoiled)∧Below w.heap.size w w':=by
 go_enter func258,Tryz.ntmps258
 go_wp2
 all_goals
  go_ret
  refine ⟨ret_int ?_,by (repeat' (first | (with_reducible exact Below.refl _ _) | (with_reducible refine Below.alloc ?_ ?_ _) | (with_reducible refine Below.setCell ?_ ?_ _) | (with_reducible refine Below.drew ?_) | ((with_reducible refine Below.trans ?_ (Below.mono (by assumption) ?_))) | go_size))⟩
  unfold St.spoiled
  (repeat' split)
  all_goals first | rfl | contradiction | omega | (simp_all;done) | (simp_all;omega)
open Go.RowKit
open Go.RowKit
open Go.RowKit
end Go.Proofs.YtaikhendogcflaaGreatDoor


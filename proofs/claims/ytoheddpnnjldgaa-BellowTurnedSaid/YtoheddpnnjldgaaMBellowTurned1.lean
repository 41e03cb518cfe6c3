/-
  Walks of functions,and plain laws (texts put together). No condition.
-/
import Derived.Conc.Beside
import Derived.DyingOn
import Derived.Lone
import Derived.Conc.CrowdComm
import Derived.Calls
import Derived.Conc.CompanyCalls
import Derived.Conc.CompanyDraw
set_option maxRecDepth 100000
set_option maxHeartbeats 1000000
set_option linter.unusedSimpArgs false
set_option linter.unusedVariables false
set_option linter.unusedSectionVars false
namespace Go.Proofs.Ytoheddpnnjldgaa
open Go.RowKit
end Go.Proofs.Ytoheddpnnjldgaa
section
namespace Go.Proofs.Ytoheddpnnjldgaa.Bq
open Go
def bad:Obj:=.coro none
def junk:Obj→Bool
 | .loop _ | .deferred _ | .coro _=>true
 | _=>false
def NoBad {α:Type} (k:Obj→Sem α):Prop:=(∃ s,k bad=.halt (.stuck s))∨∀ o,junk o=true→k o=k bad
def haltOk:Halt→Bool
 | .blocked | .waiting=>false
 | _=>true
def markOk:Mark→Prop
 | .acquire _ | .release _ | .releaseMerge _ | .disable | .enable | .read _ | .write _=>False
 | _=>True
def TameQ (P:Program) (ok:Obj→Prop) {α:Type} (Q:α→Prop):Sem α→Prop
 | .pure a=>Q a
 | .load _ _ k=>∀ v,TameQ P ok Q (k v)
 | .store _ _ _ k=>TameQ P ok Q k
 | .new o k=>ok o∧∀ r,TameQ P ok Q (k r)
 | .shape _ k=>∀ s,TameQ P ok Q (k s)
 | .freeze _ _ k=>TameQ P ok Q k
 | .frozen _ k=>∀ b,TameQ P ok Q (k b)
 | .getObj _ k=>NoBad k∧∀ o,ok o→TameQ P ok Q (k o)
 | .setObj _ o k=>ok o∧TameQ P ok Q k
 | .choose _ k=>∀ n,TameQ P ok Q (k n)
 | .sys c k=>c=.env∧∀ r,TameQ P ok Q (k r)
 | .program k=>TameQ P ok Q (k P)
 | .mark m k=>markOk m∧TameQ P ok Q k
 | .halt h=>haltOk h=true
variable {P:Program} {ok:Obj→Prop} {α β:Type}
theorem TameQ.bind {Q:α→Prop} {R:β→Prop} {f:α→Sem β}:∀ {s:Sem α},TameQ P ok Q s→(∀ a,Q a→TameQ P ok R (f a))→TameQ P ok R (s.bind f)
 | .pure a,h,hf=>hf a h
 | .load _ _ k,h,hf=>fun v=>TameQ.bind (s:=k v) (h v) hf
 | .store _ _ _ k,h,hf=>TameQ.bind (s:=k) h hf
 | .new o k,h,hf=>⟨h.1,fun r=>TameQ.bind (s:=k r) (h.2 r) hf⟩
 | .shape _ k,h,hf=>fun v=>TameQ.bind (s:=k v) (h v) hf
 | .freeze _ _ k,h,hf=>TameQ.bind (s:=k) h hf
 | .frozen _ k,h,hf=>fun v=>TameQ.bind (s:=k v) (h v) hf
 | .getObj _ k,h,hf=>⟨h.1.elim (fun ⟨s,e⟩=>.inl ⟨s,by show (k bad).bind f=_;rw [e];rfl⟩) (fun e=>.inr fun o ho=>by show (k o).bind f=(k bad).bind f;rw [e o ho]),fun o ho=>TameQ.bind (s:=k o) (h.2 o ho) hf⟩
 | .setObj _ o k,h,hf=>⟨h.1,TameQ.bind (s:=k) h.2 hf⟩
 | .choose _ k,h,hf=>fun v=>TameQ.bind (s:=k v) (h v) hf
 | .sys _ k,h,hf=>⟨h.1,fun v=>TameQ.bind (s:=k v) (h.2 v) hf⟩
 | .program k,h,hf=>TameQ.bind (s:=k P) h hf
 | .mark _ k,h,hf=>⟨h.1,TameQ.bind (s:=k) h.2 hf⟩
 | .halt _,h,_=>h
abbrev Tame (P:Program) (ok:Obj→Prop) {α:Type} (s:Sem α):Prop:=TameQ P ok (fun _=>True) s
theorem TameQ.bind' {Q:α→Prop} {R:β→Prop} {f:α→Sem β} {s:Sem α} (h:TameQ P ok Q s) (hf:∀ a,Q a→TameQ P ok R (f a)):TameQ P ok R (s >>= f):=TameQ.bind h hf
theorem TameQ.bindT {R:β→Prop} {f:α→Sem β} {s:Sem α} (h:Tame P ok s) (hf:∀ a,TameQ P ok R (f a)):TameQ P ok R (s >>= f):=TameQ.bind h fun a _=>hf a
theorem TameQ.prog {R:β→Prop} {f:Program→Sem β} (h:TameQ P ok R (f P)):TameQ P ok R (program >>= f):=h
theorem Tame.bind {f:α→Sem β} {s:Sem α} (h:Tame P ok s) (hf:∀ a,Tame P ok (f a)):Tame P ok (s.bind f):=TameQ.bind h fun a _=>hf a
theorem Tame.bind' {f:α→Sem β} {s:Sem α} (h:Tame P ok s) (hf:∀ a,Tame P ok (f a)):Tame P ok (s >>= f):=Tame.bind h hf
theorem TameQ.getObj' {R:β→Prop} {r:Nat} {f:Obj→Sem β} (h:NoBad f) (hf:∀ o,ok o→TameQ P ok R (f o)):TameQ P ok R (getObj r >>= f):=⟨h,hf⟩
theorem Tame.map {f:α→β} {s:Sem α} (h:Tame P ok s):Tame P ok (Functor.map f s):=Tame.bind h fun _=>trivial
theorem Tame.ite {c:Prop} [Decidable c] {s t:Sem α} (h:Tame P ok s) (k:Tame P ok t):Tame P ok (if c then s else t):=by split <;> assumption
theorem Tame.forInL {γ:Type} {f:γ→β→Sem (ForInStep β)} (hf:∀ x b,Tame P ok (f x b)):∀ (l:List γ) (b:β),Tame P ok (forIn l b f)
 | [],b=>trivial
 | x::l,b=>by
  rw [List.forIn_cons]
  refine Tame.bind' (hf x b) fun r=>?_
  cases r with
  | done c=>exact trivial
  | yield c=>exact Tame.forInL hf l c
theorem Tame.forInA {γ:Type} {f:γ→β→Sem (ForInStep β)} (hf:∀ x b,Tame P ok (f x b)) (l:Array γ) (b:β):Tame P ok (forIn l b f):=by
 rw [← Array.forIn_toList]
 exact Tame.forInL hf _ _
theorem Tame.forInR {f:Nat→β→Sem (ForInStep β)} (hf:∀ x b,Tame P ok (f x b)) (l:Std.Legacy.Range) (b:β):Tame P ok (forIn l b f):=by
 rw [Std.Legacy.Range.forIn_eq_forIn_range']
 exact Tame.forInL hf _ _
theorem Tame.mapML {γ:Type} {f:γ→Sem β} (hf:∀ x,Tame P ok (f x)):∀ l:List γ,Tame P ok (l.mapM f)
 | []=>trivial
 | x::l=>by
  rw [List.mapM_cons]
  exact Tame.bind' (hf x) fun _=>Tame.bind' (Tame.mapML hf l) fun _=>trivial
theorem Tame.mapMA {γ:Type} {f:γ→Sem β} (hf:∀ x,Tame P ok (f x)) (l:Array γ):Tame P ok (l.mapM f):=by
 rw [Array.mapM_eq_mapM_toList]
 exact Tame.map (Tame.mapML hf _)
class TameC (P:Program) (ok:Obj→Prop) {α:Type} (s:Sem α):Prop where
 h:Tame P ok s
class OkO (ok:Obj→Prop):Prop where
 cells:∀ c t f,ok (.cells c t f)
 map:∀ a t,ok (.map a t)
 chan:∀ a b c d e f,ok (.chan a b c d e f)
 sit:∀ a t,ok (.stringIter a t)
 mit:∀ a b c d,ok (.mapIter a b c d)
 num:∀ a t,ok (.number a t)
 view:∀ a t,ok (.view a t)
theorem tame_h {p:Prop} (h:p:=by repeat' (first | exact trivial | exact (Eq.refl true) | exact ⟨_,rfl⟩ | exact Or.inl rfl | exact Or.inr ⟨_,rfl⟩ | exact TameC.h | assumption | exact OkO.cells _ _ _ | exact OkO.map _ _ | exact OkO.chan _ _ _ _ _ _ | exact OkO.sit _ _ | exact OkO.mit _ _ _ _ | exact OkO.num _ _ | exact OkO.view _ _ | (refine TameQ.getObj' ?_ fun _ _=>?_) | exact Or.inl ⟨_,rfl⟩ | exact Or.inr (fun o h=>by cases o <;> first | rfl | cases h) | (refine Tame.forInA (fun _ _=>?_) _ _) | (refine Tame.forInL (fun _ _=>?_) _ _) | (refine Tame.forInR (fun _ _=>?_) _ _) | (refine Tame.mapMA (fun _=>?_) _) | (refine Tame.mapML (fun _=>?_) _) | (refine Tame.ite ?_ ?_) | (refine Tame.bind' ?_ fun _=>?_) | (refine Tame.map ?_) | (intro _) | (split) | (dsimp only) | (apply And.intro))):p:=h
end Go.Proofs.Ytoheddpnnjldgaa.Bq
end
namespace Go.Proofs.Ytoheddpnnjldgaa
open Go.RowKit
end Go.Proofs.Ytoheddpnnjldgaa
section
namespace Go.Proofs.Ytoheddpnnjldgaa.Bq
open Go
variable {P:Program} {ok:Obj→Prop} [OkO ok] {α β:Type}
instance i_stuck (s:String):TameC P ok (stuck s:Sem α):=⟨Eq.refl true⟩
instance i_unsup (s:Unsupported):TameC P ok (unsupported s:Sem α):=⟨Eq.refl true⟩
instance i_rp (s:RuntimeError):TameC P ok (runtimePanic s:Sem α):=⟨by unfold runtimePanic;all_goals exact tame_h⟩
instance i_prog:TameC P ok program:=⟨by unfold program;all_goals exact tame_h⟩
instance i_under (t:TypeId):TameC P ok (underlying t):=⟨by unfold underlying;all_goals exact tame_h⟩
instance i_info (t:TypeId):TameC P ok (typeInfo t):=⟨by unfold typeInfo;all_goals exact tame_h⟩
instance i_isAgg (t:TypeId):TameC P ok (isAgg t):=⟨by unfold isAgg;all_goals exact tame_h⟩
instance i_size (t:TypeId):TameC P ok (sizeOf t):=⟨by unfold sizeOf;all_goals exact tame_h⟩
instance i_zero (t:TypeId):TameC P ok (zeroValue t):=⟨by unfold zeroValue;all_goals exact tame_h⟩
instance i_asBool (v:Value):TameC P ok (asBool v):=⟨by unfold asBool;all_goals exact tame_h⟩
instance i_asIntOf (v:Value):TameC P ok (asIntOf v):=⟨by unfold asIntOf;all_goals exact tame_h⟩
instance i_asAddr (v:Value):TameC P ok (asAddr v):=⟨by unfold asAddr;all_goals exact tame_h⟩
instance i_load (a:Addr):TameC P ok (load a):=⟨by unfold load;all_goals exact tame_h⟩
instance i_store (a:Addr) (v:Value):TameC P ok (store a v):=⟨by unfold store;all_goals exact tame_h⟩
instance i_newVar (e:TypeId) (v:Value):TameC P ok (newVar e v):=⟨by unfold newVar;all_goals exact tame_h⟩
theorem t_lcf (a:Addr):∀ (n i:Nat) (acc:Array Value),Tame P ok (loadCellsFrom a i n acc)
 | 0,_,_=>trivial
 | n+1,i,acc=>by
  unfold loadCellsFrom
  exact Tame.bind' TameC.h fun _=>t_lcf a n _ _
instance i_lc (a:Addr) (n:Nat):TameC P ok (loadCells a n):=⟨t_lcf a n 0 #[]⟩
theorem t_sc (a:Addr):∀ (vs:List Value) (i:Nat),Tame P ok (storeCells a vs i)
 | [],_=>trivial
 | v::vs,i=>by
  unfold storeCells
  exact Tame.bind' TameC.h fun _=>t_sc a vs _
instance i_sc (a:Addr) (vs:List Value) (i:Nat):TameC P ok (storeCells a vs i):=⟨t_sc a vs i⟩
instance i_lv (t:TypeId) (a:Addr):TameC P ok (loadVar t a):=⟨by unfold loadVar;all_goals exact tame_h⟩
instance i_sv (t:TypeId) (a:Addr) (v:Value):TameC P ok (storeVar t a v):=⟨by unfold storeVar;all_goals exact tame_h⟩
instance i_alloc (e:TypeId) (b:Bool) (z:Value):TameC P ok (Instr.alloc e b z):=⟨by unfold Instr.alloc;all_goals exact tame_h⟩
instance i_box (e:TypeId) (z:Value):TameC P ok (Instr.box e z):=⟨by unfold Instr.box;all_goals exact tame_h⟩
instance i_build (e:TypeId) (z:Array (Nat×Value)):TameC P ok (Instr.build e z):=⟨by unfold Instr.build;all_goals exact tame_h⟩
instance i_bs (e:TypeId) (n:Nat) (z:Array (Nat×Value)):TameC P ok (Instr.buildSlice e n z):=⟨by unfold Instr.buildSlice;all_goals exact tame_h⟩
instance i_sure (z:Value):TameC P ok (Instr.sureAddr z):=⟨by unfold Instr.sureAddr;all_goals exact tame_h⟩
instance i_loadAt (e:TypeId) (z:Value):TameC P ok (Instr.loadAt e z):=⟨by unfold Instr.loadAt;all_goals exact tame_h⟩
instance i_storeAt (e:TypeId) (z v:Value):TameC P ok (Instr.storeAt e z v):=⟨by unfold Instr.storeAt;all_goals exact tame_h⟩
instance i_mkf (fn:Fn) (a b:Array Value):TameC P ok (Instr.makeFunc fn a b):=⟨by unfold Instr.makeFunc;all_goals exact tame_h⟩
instance i_mm (t:TypeId) (r:Option Value):TameC P ok (Instr.makeMap t r):=⟨by unfold Instr.makeMap;all_goals exact tame_h⟩
instance i_mch (t:TypeId) (r:Value):TameC P ok (Instr.makeChan t r):=⟨by unfold Instr.makeChan;all_goals exact tame_h⟩
instance i_ask (n:Nat):TameC P ok (askRoom n):=⟨by unfold askRoom;all_goals exact tame_h⟩
instance i_agg (r:Value):TameC P ok (asAgg r):=⟨by unfold asAgg;all_goals exact tame_h⟩
instance i_bp (k:IntKind) (a b:Int) (c:BoundsCode):TameC P ok (boundsPanic k a b c:Sem α):=⟨by unfold boundsPanic;all_goals exact tame_h⟩
instance i_slb (b:Bool) (n m:Nat) (x y z:Option Value):TameC P ok (Instr.sliceBounds b n m x y z):=⟨by unfold Instr.sliceBounds;all_goals exact tame_h⟩
instance i_ms (t:TypeId) (r s:Value):TameC P ok (Instr.makeSlice t r s):=⟨by unfold Instr.makeSlice;all_goals exact tame_h⟩
instance i_sl (t:TypeId) (r:Value) (a b c:Option Value):TameC P ok (Instr.sliceAt t r a b c):=⟨by unfold Instr.sliceAt;all_goals exact tame_h⟩
instance i_ia (t:TypeId) (r s:Value):TameC P ok (Instr.indexAt t r s):=⟨by unfold Instr.indexAt;all_goals exact tame_h⟩
instance i_shape (r:Nat):TameC P ok (shape r):=⟨by unfold shape;all_goals exact tame_h⟩
instance i_frozen (a:Addr):TameC P ok (frozen a):=⟨by unfold frozen;all_goals exact tame_h⟩
instance i_freeze (a:Addr) (n:Nat):TameC P ok (freeze a n):=⟨by unfold freeze;all_goals exact tame_h⟩
instance i_choose (q:Question):TameC P ok (choose q):=⟨by unfold choose;all_goals exact tame_h⟩
instance i_va (r:Nat):TameC P ok (viewAt r):=⟨by unfold viewAt;all_goals exact tame_h⟩
instance i_nv (a:Addr):TameC P ok (noView a):=⟨by unfold noView;all_goals exact tame_h⟩
instance i_bo (a:Addr):TameC P ok (byteOf a):=⟨by
 unfold byteOf
 split
 ·first | exact trivial | exact Eq.refl true
 ·exact Tame.bind' TameC.h fun p=>Tame.bind' TameC.h fun _=>Tame.bind' TameC.h fun z=>by
   match z with
   | none=>exact Eq.refl true
   | some (e,_)=>
    dsimp only
    split
    ·exact trivial
    ·split <;> first | exact trivial | exact Eq.refl true⟩
instance i_pa (a:Addr) (n m:Nat):TameC P ok (partAt a n m):=⟨by unfold partAt;all_goals exact tame_h⟩
instance i_fp (a:Addr) (f:Field):TameC P ok (fieldPlace a f):=⟨by unfold fieldPlace;all_goals exact tame_h⟩
instance i_fa (t:TypeId) (r:Value) (f:Nat):TameC P ok (Instr.fieldAt t r f):=⟨by unfold Instr.fieldAt;all_goals exact tame_h⟩
instance i_f (t:TypeId) (r:Value) (f:Nat):TameC P ok (Instr.field t r f):=⟨by unfold Instr.field;all_goals exact tame_h⟩
instance i_i (t:TypeId) (r s:Value):TameC P ok (Instr.index t r s):=⟨by unfold Instr.index;all_goals exact tame_h⟩
instance i_ex (r:Value) (i:Nat):TameC P ok (Instr.extract r i):=⟨by unfold Instr.extract;all_goals exact tame_h⟩
instance i_na (r:Nat):TameC P ok (numberAt r):=⟨by unfold numberAt;all_goals exact tame_h⟩
instance i_an (a:Addr) (b:Bool):TameC P ok (asNumber a b):=⟨by unfold asNumber;all_goals exact tame_h⟩
instance i_bn (a:Addr):TameC P ok (behindNumber a):=⟨by unfold behindNumber;all_goals exact tame_h⟩
instance i_shift (o:BinOp) (k:IntKind) (a:Int) (q:IntKind) (b:Int):TameC P ok (Op.shift o k a q b):=⟨by unfold Op.shift;all_goals exact tame_h⟩
instance i_ar (o:BinOp) (k:IntKind) (a b:Int):TameC P ok (Op.intArith o k a b):=⟨by unfold Op.intArith;all_goals exact tame_h⟩
instance i_dv (o:BinOp) (k:IntKind) (a b:Int):TameC P ok (Op.intDiv o k a b):=⟨by unfold Op.intDiv;all_goals exact tame_h⟩
instance i_bt (o:BinOp) (k:IntKind) (a b:Int):TameC P ok (Op.intBits o k a b):=⟨by unfold Op.intBits;all_goals exact tame_h⟩
instance i_cm (o:BinOp) (a b:Int):TameC P ok (Op.intCmp o a b):=⟨by unfold Op.intCmp;all_goals exact tame_h⟩
instance i_so (o:BinOp) (a b:ByteArray):TameC P ok (Op.stringOp o a b):=⟨by unfold Op.stringOp;all_goals exact tame_h⟩
instance i_part (t:TypeId) (cs:Array Value) (o:Nat):TameC P ok (part t cs o):=⟨by unfold part;all_goals exact tame_h⟩
instance i_tstr (t:TypeId):TameC P ok (typeStr t):=⟨by unfold typeStr;all_goals exact tame_h⟩
instance i_strg (a:Addr):TameC P ok (stringish a):=⟨by unfold stringish;all_goals exact tame_h⟩
instance i_mbo (a b:Addr):TameC P ok (mayBeOne a b):=⟨by unfold mayBeOne;all_goals exact tame_h⟩
instance i_sa (a b:Addr):TameC P ok (sameAddr a b):=⟨by unfold sameAddr;all_goals exact tame_h⟩
instance i_sp (a b:Option Addr):TameC P ok (samePointer a b):=⟨by unfold samePointer;all_goals exact tame_h⟩
instance i_mst (a:Addr):TameC P ok (markStringish a):=⟨by unfold markStringish;all_goals exact tame_h⟩
end Go.Proofs.Ytoheddpnnjldgaa.Bq
end
namespace Go.Proofs.Ytoheddpnnjldgaa
open Go.RowKit
end Go.Proofs.Ytoheddpnnjldgaa
section
namespace Go.Proofs.Ytoheddpnnjldgaa.Bq
open Go
variable {P:Program} {ok:Obj→Prop} [OkO ok] {α β:Type}
set_option maxHeartbeats 2000000
theorem t_equalIn:∀ (d:Nat) (t:TypeId) (x y:Value),Tame P ok (Op.equalIn d t x y)
 | 0,_,_,_=>Eq.refl true
 | d+1,t,x,y=>by
  have ih:=t_equalIn d
  unfold Op.equalIn
  refine Tame.bind' TameC.h fun u=>?_
  split <;> first
   | exact trivial
   | exact (Eq.refl true)
   | exact TameC.h
   | exact ih _ _ _
   | (split <;> first | exact trivial | exact (Eq.refl true) | exact TameC.h)
   | skip
  ·refine Tame.bind' TameC.h fun _=>Tame.bind' TameC.h fun _=>?_
   all_goals exact tame_h
  ·all_goals exact tame_h
  ·refine Tame.ite (by first | exact trivial | exact (Eq.refl true)) ?_
   refine Tame.bind' TameC.h fun _=>?_
   split
   ·all_goals exact tame_h
   ·exact ih _ _ _
  ·refine Tame.bind' TameC.h fun _=>?_
   split
   ·all_goals exact tame_h
   ·refine Tame.bind' (Tame.forInA (fun f b=>?_) _ _) fun _=>?_
    ·split
     ·refine Tame.bind' TameC.h fun _=>Tame.bind' TameC.h fun _=>Tame.bind' (ih _ _ _) fun _=>?_
      all_goals exact tame_h
     ·all_goals exact tame_h
    ·all_goals exact tame_h
  ·refine Tame.bind' TameC.h fun _=>Tame.bind' (Tame.forInR (fun f b=>?_) _ _) fun _=>?_
   ·refine Tame.bind' TameC.h fun _=>Tame.bind' TameC.h fun _=>Tame.bind' (ih _ _ _) fun _=>?_
    all_goals exact tame_h
   ·all_goals exact tame_h
instance i_equal (t:TypeId) (x y:Value):TameC P ok (Op.equal t x y):=⟨t_equalIn _ _ _ _⟩
theorem t_eqGuardIn:∀ (d:Nat) (t:TypeId) (x y:Value),Tame P ok (Op.eqGuardIn d t x y)
 | 0,_,_,_=>Eq.refl true
 | d+1,t,x,y=>by
  have ih:=t_eqGuardIn d
  unfold Op.eqGuardIn
  refine Tame.bind' TameC.h fun u=>?_
  split
  ·first | exact trivial | exact (Eq.refl true)
  ·refine Tame.bind' (Tame.forInA (fun f b=>?_) _ _) fun _=>?_
   ·split
    ·refine Tame.bind' TameC.h fun _=>Tame.bind' TameC.h fun _=>Tame.bind' (ih _ _ _) fun _=>?_
     all_goals exact tame_h
    ·all_goals exact tame_h
   ·all_goals exact tame_h
  ·refine Tame.bind' TameC.h fun _=>Tame.bind' (Tame.forInR (fun f b=>?_) _ _) fun _=>?_
   ·refine Tame.bind' TameC.h fun _=>Tame.bind' TameC.h fun _=>Tame.bind' (ih _ _ _) fun _=>?_
    all_goals exact tame_h
   ·all_goals exact tame_h
  ·first | exact trivial | exact (Eq.refl true)
instance i_eqGuardIn (d:Nat) (t:TypeId) (x y:Value):TameC P ok (Op.eqGuardIn d t x y):=⟨t_eqGuardIn _ _ _ _⟩
instance i_eg (o:BinOp) (t:TypeId) (x y:Operand) (a b:Value):TameC P ok (eqGuard o t x y a b):=⟨by unfold eqGuard;all_goals exact tame_h⟩
instance i_un (o:UnOp) (a:Value):TameC P ok (Op.unary o a):=⟨by unfold Op.unary;all_goals exact tame_h⟩
theorem t_checkKey (e:Bool):∀ (d:Nat) (t:TypeId) (x:Value),Tame P ok (Instr.checkKey e d t x)
 | 0,_,_=>Eq.refl true
 | d+1,t,x=>by
  have ih:=t_checkKey e d
  unfold Instr.checkKey
  refine Tame.bind' TameC.h fun u=>?_
  split <;> first
   | exact trivial
   | exact (Eq.refl true)
   | skip
  ·have ihC:∀ t v,TameC P ok (Instr.checkKey e d t v):=fun t v=>⟨ih t v⟩
   all_goals exact tame_h
  ·refine Tame.bind' (Tame.forInR (fun f b=>?_) _ _) fun _=>trivial
   refine Tame.bind' TameC.h fun _=>Tame.bind' TameC.h fun _=>Tame.bind' (ih _ _) fun _=>?_
   all_goals exact tame_h
  ·refine Tame.bind' (Tame.forInA (fun f b=>?_) _ _) fun _=>trivial
   split
   ·refine Tame.bind' TameC.h fun _=>Tame.bind' (ih _ _) fun _=>?_
    all_goals exact tame_h
   ·all_goals exact tame_h
instance i_checkKey (e:Bool) (d:Nat) (t:TypeId) (x:Value):TameC P ok (Instr.checkKey e d t x):=⟨t_checkKey _ _ _ _⟩
theorem t_findAsking (t:TypeId) (k:Value):∀ (l:List MapEntry) (i:Nat),Tame P ok (Instr.findAsking t k l i)
 | [],_=>trivial
 | e::es,i=>by
  unfold Instr.findAsking
  refine Tame.bind' TameC.h fun b=>?_
  split
  ·first | exact trivial | exact (Eq.refl true)
  ·exact t_findAsking t k es _
instance i_findKey (t:TypeId) (k:Value) (l:List MapEntry):TameC P ok (Instr.findKey t k l):=⟨by
 unfold Instr.findKey
 refine Tame.bind' TameC.h fun b=>?_
 split
 · first | exact trivial | exact (Eq.refl true)
 · exact t_findAsking t k l _⟩
instance i_newMap (a:Array MapEntry) (t:Nat):TameC P ok (newObj (.map a t)):=⟨⟨OkO.map _ _,fun _=>trivial⟩⟩
instance i_setMap (r:Nat) (a:Array MapEntry) (t:Nat):TameC P ok (setObj r (.map a t)):=⟨⟨OkO.map _ _,trivial⟩⟩
instance i_lk (t:TypeId) (a b:Value) (o:Bool):TameC P ok (Instr.lookup t a b o):=⟨by unfold Instr.lookup;all_goals exact tame_h⟩
instance i_kts (a b:Value):TameC P ok (Instr.keyThatStays a b):=⟨by unfold Instr.keyThatStays;all_goals exact tame_h⟩
instance i_mu (t:TypeId) (a b c:Value):TameC P ok (Instr.mapUpdate t a b c):=⟨by unfold Instr.mapUpdate;all_goals exact tame_h⟩
instance i_nx (a:Value) (b:Bool) (t:TypeId):TameC P ok (Instr.next a b t):=⟨by unfold Instr.next;all_goals exact tame_h⟩
instance i_en (a:Value):TameC P ok (Instr.entry a):=⟨by unfold Instr.entry;all_goals exact tame_h⟩
end Go.Proofs.Ytoheddpnnjldgaa.Bq
end
namespace Go.Proofs.Ytoheddpnnjldgaa
open Go.RowKit
end Go.Proofs.Ytoheddpnnjldgaa
section
namespace Go.Proofs.Ytoheddpnnjldgaa.Bq
open Go
variable {P:Program} {ok:Obj→Prop} [OkO ok] {α β:Type}
set_option maxHeartbeats 2000000
instance i_fa' (o:BinOp) (k:FloatKind) (x y:Nat):TameC P ok (Op.floatArith o k x y):=⟨by unfold Op.floatArith;all_goals exact tame_h⟩
instance i_fc (o:BinOp) (k:FloatKind) (x y:Nat):TameC P ok (Op.floatCmp o k x y):=⟨by unfold Op.floatCmp;all_goals exact tame_h⟩
instance i_nanbits (q:Question):TameC P ok (choose q):=⟨fun _=>trivial⟩
instance i_asInt (v:Value):TameC P ok (asInt v):=⟨by unfold asInt;all_goals exact tame_h⟩
instance i_ua (x:Array TypeId) (t:TypeId) (y:Array Value):TameC P ok (Builtin.unsafeAdd_ x t y):=⟨by
 unfold Builtin.unsafeAdd_
 obtain ⟨l⟩:=y
 rcases l with _ | ⟨a,_ | ⟨b,_ | ⟨c,l⟩⟩⟩
 · first | exact trivial | exact (Eq.refl true)
 · cases a <;> first | exact trivial | exact (Eq.refl true)
 · cases a <;> first | first | exact trivial | exact (Eq.refl true) | (dsimp only;(repeat' (first | exact trivial | exact (Eq.refl true) | exact ⟨_,rfl⟩ | exact Or.inl rfl | exact Or.inr ⟨_,rfl⟩ | exact TameC.h | assumption | exact OkO.cells _ _ _ | exact OkO.map _ _ | exact OkO.chan _ _ _ _ _ _ | exact OkO.sit _ _ | exact OkO.mit _ _ _ _ | exact OkO.num _ _ | exact OkO.view _ _ | (refine TameQ.getObj' ?_ fun _ _=>?_) | exact Or.inl ⟨_,rfl⟩ | exact Or.inr (fun o h=>by cases o <;> first | rfl | cases h) | (refine Tame.forInA (fun _ _=>?_) _ _) | (refine Tame.forInL (fun _ _=>?_) _ _) | (refine Tame.forInR (fun _ _=>?_) _ _) | (refine Tame.mapMA (fun _=>?_) _) | (refine Tame.mapML (fun _=>?_) _) | (refine Tame.ite ?_ ?_) | (refine Tame.bind' ?_ fun _=>?_) | (refine Tame.map ?_) | (intro _) | (split) | (dsimp only) | (apply And.intro))))
 · cases a <;> first | exact trivial | exact (Eq.refl true)⟩
instance i_mvn (t:TypeId) (x y:Value):TameC P ok (movedNumber t x y):=⟨by unfold movedNumber;all_goals exact tame_h⟩
instance i_mvp (t:TypeId) (x y:Value):TameC P ok (movedPointer t x y):=⟨by unfold movedPointer;all_goals exact tame_h⟩
instance i_tp (a b:Addr):TameC P ok (Op.twoPlaces a b):=⟨by unfold Op.twoPlaces;all_goals exact tame_h⟩
instance i_as (k:IntKind) (a b:Addr):TameC P ok (Op.addrSub k a b):=⟨by unfold Op.addrSub;all_goals exact tame_h⟩
instance i_ac (k:BinOp) (a b:Addr):TameC P ok (Op.addrCmp k a b):=⟨by unfold Op.addrCmp;all_goals exact tame_h⟩
instance i_am (k:IntKind) (a:Addr) (b:Int):TameC P ok (Op.addrMod k a b):=⟨by unfold Op.addrMod;all_goals exact tame_h⟩
instance i_lcap (t:Array TypeId) (u:TypeId) (x:Array Value):TameC P ok (Builtin.cap_ t u x):=⟨by unfold Builtin.cap_;all_goals exact tame_h⟩
instance i_llen (t:Array TypeId) (u:TypeId) (x:Array Value):TameC P ok (Builtin.len_ t u x):=⟨by unfold Builtin.len_;all_goals exact tame_h⟩
instance i_hc (a:Addr) (n:Nat):TameC P ok (Builtin.holdsCells a n):=⟨by unfold Builtin.holdsCells;all_goals exact tame_h⟩
instance i_msh (a b c:Nat) (d:Option Addr) (x:Value):TameC P ok (Builtin.mayShare a b c d x):=⟨by unfold Builtin.mayShare;all_goals exact tame_h⟩
instance i_lenOf (x:Value):TameC P ok (Builtin.lenOf x):=⟨by unfold Builtin.lenOf;all_goals exact tame_h⟩
instance i_fcl (a b:Nat) (x:Value):TameC P ok (Builtin.firstCells a b x):=⟨by unfold Builtin.firstCells;(repeat' (first | exact trivial | exact (Eq.refl true) | exact ⟨_,rfl⟩ | exact Or.inl rfl | exact Or.inr ⟨_,rfl⟩ | exact TameC.h | assumption | exact OkO.cells _ _ _ | exact OkO.map _ _ | exact OkO.chan _ _ _ _ _ _ | exact OkO.sit _ _ | exact OkO.mit _ _ _ _ | exact OkO.num _ _ | exact OkO.view _ _ | (refine TameQ.getObj' ?_ fun _ _=>?_) | exact Or.inl ⟨_,rfl⟩ | exact Or.inr (fun o h=>by cases o <;> first | rfl | cases h) | (refine Tame.forInA (fun _ _=>?_) _ _) | (refine Tame.forInL (fun _ _=>?_) _ _) | (refine Tame.forInR (fun _ _=>?_) _ _) | (refine Tame.mapMA (fun _=>?_) _) | (refine Tame.mapML (fun _=>?_) _) | (refine Tame.ite ?_ ?_) | (refine Tame.bind' ?_ fun _=>?_) | (refine Tame.map ?_) | (intro _) | (split) | (dsimp only) | (apply And.intro)))⟩
instance i_newRow (e:TypeId) (c:Array Value):TameC P ok (newRow e c):=⟨by unfold newRow newObj;all_goals exact tame_h⟩
instance i_mark:TameC P ok (mark .noRoom):=⟨by unfold mark;all_goals exact tame_h⟩
instance i_copy (t:Array TypeId) (u:TypeId) (x:Array Value):TameC P ok (Builtin.copy_ t u x):=⟨by unfold Builtin.copy_;all_goals exact tame_h⟩
instance i_clear (t:Array TypeId) (u:TypeId) (x:Array Value):TameC P ok (Builtin.clear_ t u x):=⟨by unfold Builtin.clear_;all_goals exact tame_h⟩
instance i_delete (t:Array TypeId) (u:TypeId) (x:Array Value):TameC P ok (Builtin.delete_ t u x):=⟨by unfold Builtin.delete_;all_goals exact tame_h⟩
instance i_min2 (x y:Value):TameC P ok (Builtin.min2 x y):=⟨by unfold Builtin.min2;all_goals exact tame_h⟩
instance i_max2 (x y:Value):TameC P ok (Builtin.max2 x y):=⟨by unfold Builtin.max2;all_goals exact tame_h⟩
instance i_app (t:Array TypeId) (u:TypeId) (x:Array Value):TameC P ok (Builtin.append_ t u x):=⟨by unfold Builtin.append_;all_goals exact tame_h⟩
end Go.Proofs.Ytoheddpnnjldgaa.Bq
end
namespace Go.Proofs.Ytoheddpnnjldgaa
open Go.RowKit
end Go.Proofs.Ytoheddpnnjldgaa
section
namespace Go.Proofs.Ytoheddpnnjldgaa.Bq
open Go
variable {P:Program} {ok:Obj→Prop} [OkO ok] {α β:Type}
set_option maxHeartbeats 2000000
instance i_env:TameC P ok (sys .env):=⟨rfl,fun _=>trivial⟩
instance i_shift' (o:BinOp) (k:IntKind) (a:Int) (q:IntKind) (b:Int):TameC P ok (Op.shift o k a q b):=⟨by unfold Op.shift;all_goals exact tame_h⟩
instance i_cplx (o:BinOp) (k:FloatKind) (a b c d:Nat):TameC P ok (Op.complexOp o k a b c d):=⟨by unfold Op.complexOp;all_goals exact tame_h⟩
instance i_bin (op:BinOp) (t:TypeId) (x y:Value):TameC P ok (binOp op t x y):=⟨by unfold binOp;all_goals exact tame_h⟩
instance i_b2s (x:Value):TameC P ok (Conv.bytesToString x):=⟨by unfold Conv.bytesToString;all_goals exact tame_h⟩
instance i_r2s (x:Value):TameC P ok (Conv.runesToString x):=⟨by unfold Conv.runesToString;all_goals exact tame_h⟩
instance i_f2i (s:FloatKind) (b:Nat) (k:IntKind):TameC P ok (Conv.floatToInt s b k):=⟨by unfold Conv.floatToInt;all_goals exact tame_h⟩
instance i_f2f (s:FloatKind) (b:Nat) (k:FloatKind):TameC P ok (Conv.floatToFloat s b k):=⟨by unfold Conv.floatToFloat;all_goals exact tame_h⟩
instance i_c2c (s:FloatKind) (a b:Nat) (k:FloatKind):TameC P ok (Conv.complexToComplex s a b k):=⟨by unfold Conv.complexToComplex;all_goals exact tame_h⟩
instance i_i2i (k:IntKind) (n:Int):TameC P ok (Conv.intToInt k n):=⟨by unfold Conv.intToInt;all_goals exact tame_h⟩
instance i_i2f (k:FloatKind) (n:Int):TameC P ok (Conv.intToFloat k n):=⟨by unfold Conv.intToFloat;all_goals exact tame_h⟩
instance i_i2s (n:Int):TameC P ok (Conv.intToString n):=⟨by unfold Conv.intToString;all_goals exact tame_h⟩
instance i_s2b (e:TypeId) (s:ByteArray):TameC P ok (Conv.stringToBytes e s):=⟨by unfold Conv.stringToBytes;all_goals exact tame_h⟩
instance i_s2r (e:TypeId) (s:ByteArray):TameC P ok (Conv.stringToRunes e s):=⟨by unfold Conv.stringToRunes;all_goals exact tame_h⟩
instance i_up (a b:TypeId) (x:Value):TameC P ok (Conv.unsafePointer a b x):=⟨by unfold Conv.unsafePointer;all_goals exact tame_h⟩
instance i_cv (a b:TypeId) (x:Value):TameC P ok (convert a b x):=⟨by unfold convert;all_goals exact tame_h⟩
instance i_gl (l:Nat):TameC P ok (Instr.getLoop l):=⟨by unfold Instr.getLoop;all_goals exact tame_h⟩
instance i_yl (l:Nat) (a:Array Value):TameC P ok (Instr.yield l a):=⟨by unfold Instr.yield;all_goals exact tame_h⟩
instance i_throw {α:Type} (s:String):TameC P ok (throw s:Sem α):=⟨by unfold throw;all_goals exact tame_h⟩
instance i_ov (f:Value) (a:Array Value):TameC P ok (Deferred.ofValue f a):=⟨by unfold Deferred.ofValue;all_goals exact tame_h⟩
instance i_rs (ρ:Operand→Value) (c:Call) (t:TypeId):TameC P ok (resolve ρ c t):=⟨by unfold resolve;all_goals exact tame_h⟩
instance i_waits (g:Nat):TameC P ok (Instr.waits g):=⟨by unfold Instr.waits;all_goals exact tame_h⟩
instance i_ready (g:Nat):TameC P ok (Instr.ready g):=⟨by unfold Instr.ready;all_goals exact tame_h⟩
instance i_me (t:TypeId) (a b:Value):TameC P ok (Instr.mapEntry t a b):=⟨by unfold Instr.mapEntry;all_goals exact tame_h⟩
instance i_es (t:TypeId) (a b c:Value):TameC P ok (Instr.entryStore t a b c):=⟨by unfold Instr.entryStore;all_goals exact tame_h⟩
instance i_mi (t:TypeId) (a:Value):TameC P ok (Instr.makeInterface t a):=⟨by unfold Instr.makeInterface;all_goals exact tame_h⟩
instance i_ta (x:Value) (a b:TypeId) (c:Bool):TameC P ok (Instr.typeAssert x a b c):=⟨by unfold Instr.typeAssert;all_goals exact tame_h⟩
instance i_aa (a:TypeId) (x:Value):TameC P ok (Instr.arrayAt a x):=⟨by unfold Instr.arrayAt;all_goals exact tame_h⟩
instance i_gp {α:Type} (x:Value):TameC P ok (goPanic x:Sem α):=⟨by unfold goPanic;all_goals exact tame_h⟩
instance i_pn:TameC P ok Instr.panicnil:=⟨by unfold Instr.panicnil;all_goals exact tame_h⟩
instance i_pan (x:Value):TameC P ok (Instr.panic x):=⟨by unfold Instr.panic;all_goals exact tame_h⟩
end Go.Proofs.Ytoheddpnnjldgaa.Bq
end
namespace Go.Proofs.Ytoheddpnnjldgaa
open Go.RowKit
end Go.Proofs.Ytoheddpnnjldgaa
section
namespace Go.Proofs.Ytoheddpnnjldgaa.Bq
open Go
set_option maxHeartbeats 2000000
def builtinOk:Builtin→Bool
 | .print | .println | .complex | .unsafeSliceData=>false
 | _=>true
def tgtOk:Target→Bool
 | .builtin b _ _ _=>builtinOk b
 | .coroexit _=>false
 | _=>true
def calleeOk:Callee→Bool
 | .builtin b=>builtinOk b
 | _=>true
def opOk:Op→Bool
 | .call c | .go c | .defer c=>calleeOk c.callee
 | _=>true
def codeOk:Code→Bool
 | .region _ ops _=>ops.all fun o=>opOk o.op
 | .seq a b | .cond _ a b | .rangeFunc _ _ a b=>codeOk a && codeOk b
 | .block _ b | .loop b | .scope b=>codeOk b
 | _=>true
def okC:Obj→Prop
 | .loop r=>codeOk r.assign=true∧codeOk r.body=true∧∀ c,r.pending=some c→codeOk c=true
 | .deferred (some ds)=>∀ d∈ds,tgtOk d.target=true
 | .coro _=>False
 | _=>True
instance:OkO okC:=⟨fun _ _ _=>trivial,fun _ _=>trivial,fun _ _ _ _ _ _=>trivial,fun _ _=>trivial,fun _ _ _ _=>trivial,fun _ _=>trivial,fun _ _=>trivial⟩
def nextOk:Next→Prop
 | .value _ | .skip | .enter _ _ | .recover | .comm _ _ _=>True
 | .round _ _ _ a b=>codeOk a=true∧codeOk b=true
 | .defer d | .spawn d=>tgtOk d.target=true
 | _=>False
structure FuncsOk (P:Program):Prop where
 none_:∀ (f:FuncId) (fn:Func),P.funcs[f]? = some fn→fn.body=none→Extern.findNext fn=none∧∀ e,Extern.find fn=some e→∀ args,Tame P okC (e args)
 some_:∀ (f:FuncId) (fn:Func) (c:Code),P.funcs[f]? = some fn→fn.body=some c→codeOk c=true
 num : ∀ (f : FuncId) (fn : Func), P.funcs[f]? = some fn → fn.name ≠ "runtime.NumGoroutine"
variable {P:Program} {α β:Type}
theorem q_v {s:Sem Value} (h:Tame P okC s):TameQ P okC nextOk (do pure (.value (← s))):=TameQ.bindT h fun _=>trivial
theorem q_u {s:Sem Unit} (h:Tame P okC s):TameQ P okC nextOk (do s;pure .skip):=TameQ.bindT h fun _=>trivial
instance i_elemOf {ok:Obj→Prop} [OkO ok] (t:TypeId):TameC P ok (elemOf t):=⟨by unfold elemOf;all_goals exact tame_h⟩
theorem q_rp {Q:α→Prop} (e:RuntimeError):TameQ P okC Q (runtimePanic e:Sem α):=by
 unfold runtimePanic
 refine TameQ.prog ?_
 dsimp only
 split <;> first
  | exact trivial
  | exact (Eq.refl true)
  | exact TameQ.bindT TameC.h fun _=>TameQ.bindT TameC.h fun _=>Eq.refl true
def loopOk (r:Loop):Prop:=codeOk r.assign=true∧codeOk r.body=true∧∀ c,r.pending=some c→codeOk c=true
theorem q_gl (l:Nat):TameQ P okC loopOk (Instr.getLoop l):=by
 unfold Instr.getLoop
 refine ⟨Or.inl ⟨_,rfl⟩,fun o ho=>?_⟩
 cases o <;> first | exact ho | exact trivial | exact (Eq.refl true) | exact ho.elim
theorem q_yield (l:Nat) (a:Array Value):TameQ P okC nextOk (Instr.yield l a):=by
 unfold Instr.yield
 refine TameQ.bind' (q_gl l) fun r hr=>?_
 dsimp only
 split
 · first | exact trivial | exact (Eq.refl true)
 · exact ⟨hr.1,hr.2.1⟩
theorem q_begin (l:Nat):Tame P okC (Instr.beginRound l):=by
 unfold Instr.beginRound
 refine TameQ.bind' (q_gl l) fun r hr=>⟨hr,?_⟩
 all_goals exact tame_h
theorem q_end (l:Nat) (j:Option Code) (hj:∀ c,j=some c→codeOk c=true):Tame P okC (Instr.endRound l j):=by
 unfold Instr.endRound
 refine TameQ.bind' (q_gl l) fun r hr=>⟨⟨hr.1,hr.2.1,hj⟩,trivial⟩
theorem q_endLoop (l:Nat):TameQ P okC (fun j=>∀ c,j=some c→codeOk c=true) (Instr.endLoop l):=by
 unfold Instr.endLoop
 refine TameQ.bind' (q_gl l) fun r hr=>?_
 dsimp only
 split
 · exact TameQ.bindT TameC.h fun _=>⟨hr,hr.2.2⟩
 · exact ⟨hr,hr.2.2⟩
theorem q_take (l:Nat):TameQ P okC (fun ds=>∀ d∈ds,tgtOk d.target=true) (Instr.takeDeferred l):=by
 unfold Instr.takeDeferred
 refine ⟨Or.inl ⟨_,rfl⟩,fun o ho=>?_⟩
 cases o with
 | deferred ds=>cases ds with
  | none=>first | exact trivial | exact (Eq.refl true)
  | some ds=>exact ⟨trivial,ho⟩
 | _=>first | exact trivial | exact (Eq.refl true)
theorem q_dir (l:Nat) (d:Deferred) (hd:tgtOk d.target=true):Tame P okC (Instr.deferInRound l d):=by
 unfold Instr.deferInRound
 refine TameQ.bind' (q_gl l) fun r hr=>?_
 refine ⟨Or.inl ⟨_,rfl⟩,fun o ho=>?_⟩
 cases o with
 | deferred ds=>cases ds with
  | none=>first | exact trivial | exact (Eq.refl true)
  | some ds=>exact ⟨fun x hx=>(List.mem_cons.1 hx).elim (fun e=>e ▸ hd) (ho x),trivial⟩
 | _=>first | exact trivial | exact (Eq.refl true)
theorem q_enter (fn:FuncId) (t:Array Value) (p:Array Tmp) (a b:Code) (ha:codeOk a=true) (hb:codeOk b=true) (o:Option Nat):TameQ P okC (fun x=>∀ d∈x.2,tgtOk d.target=true) (Instr.enterLoop fn t p a b o):=by
 unfold Instr.enterLoop
 have hl:∀ (d:Nat) (m:List Deferred) (hm:∀ d∈m,tgtOk d.target=true),TameQ P okC (fun x:Nat×List Deferred=>∀ d∈x.2,tgtOk d.target=true)
   (do pure (← newObj (.loop { state:=.ready,pending:=none,fn,tmps:=t,params:=p,assign:=a,body:=b,defers:=d }),m)) :=
  fun d m hm=>⟨⟨ha,hb,fun c h=>by cases h⟩,fun _=>hm⟩
 cases o with
 | none=>exact ⟨(fun d hd=>by cases hd),fun r=>hl r _ fun d hd=>by
   rw [List.mem_singleton.1 hd];rfl⟩
 | some l=>exact TameQ.bind' (q_gl l) fun r _=>hl r.defers [] (fun d hd=>by cases hd)
theorem q_ofValue (f:Value) (a:Array Value):TameQ P okC (fun d=>tgtOk d.target=true) (Deferred.ofValue f a):=by
 unfold Deferred.ofValue
 cases f <;> first | first | exact trivial | exact (Eq.refl true) | exact (Eq.refl true)
theorem q_resolve (ρ:Operand→Value) (c:Call) (t:TypeId) (h:calleeOk c.callee=true):TameQ P okC (fun d=>tgtOk d.target=true) (resolve ρ c t):=by
 unfold resolve
 dsimp only
 split
 ·rename_i b e
  rw [e] at h
  exact h
 ·exact (Eq.refl true)
 ·exact q_ofValue _ _
theorem q_callFunc (hP:FuncsOk P) (f:FuncId) (args:Array Value):TameQ P okC nextOk (callFunc f args):=by
 unfold callFunc
 refine TameQ.prog ?_
 split
 ·first | exact trivial | exact (Eq.refl true)
 ·rename_i fn e
  split
  ·rename_i h
   exact (hP.num f fn e (by simpa using h)).elim
  ·split
   ·rename_i hb
    obtain ⟨h1,h2⟩:=hP.none_ f fn e (by simpa using hb)
    rw [h1]
    refine ⟨trivial,?_⟩
    cases hf:Extern.find fn with
    | some e'=>exact q_v (h2 e' hf args)
    | none =>
     show TameQ P okC nextOk (if _ then _ else _)
     split <;> first | exact trivial | exact (Eq.refl true)
   ·first | exact trivial | exact (Eq.refl true)
end Go.Proofs.Ytoheddpnnjldgaa.Bq
end
namespace Go.Proofs.Ytoheddpnnjldgaa
open Go.RowKit
end Go.Proofs.Ytoheddpnnjldgaa
section
namespace Go.Proofs.Ytoheddpnnjldgaa.Bq
open Go
set_option maxHeartbeats 2000000
variable {P:Program} {α β:Type}
section
variable {ok:Obj→Prop} [OkO ok]
theorem t_foldlM {γ:Type} {f:γ→α→Sem γ} (hf:∀ a b,Tame P ok (f a b)):∀ (l:List α) (a:γ),Tame P ok (l.foldlM f a)
 | [],a=>trivial
 | x::l,a=>by
  rw [List.foldlM_cons]
  exact Tame.bind' (hf a x) fun b=>t_foldlM hf l b
instance i_min (t:Array TypeId) (u:TypeId) (x:Array Value):TameC P ok (Builtin.min_ t u x):=⟨by
 unfold Builtin.min_
 split
 · first | exact trivial | exact (Eq.refl true)
 · exact t_foldlM (fun _ _=>TameC.h) _ _⟩
instance i_max (t:Array TypeId) (u:TypeId) (x:Array Value):TameC P ok (Builtin.max_ t u x):=⟨by
 unfold Builtin.max_
 split
 · first | exact trivial | exact (Eq.refl true)
 · exact t_foldlM (fun _ _=>TameC.h) _ _⟩
instance i_close (t:Array TypeId) (u:TypeId) (x:Array Value):TameC P ok (Builtin.close_ t u x):=⟨by
 unfold Builtin.close_
 obtain ⟨l⟩:=x
 rcases l with _ | ⟨a,_ | ⟨b,l⟩⟩
 ·first | exact trivial | exact (Eq.refl true)
 ·cases a with
  | chan c=>cases c with
   | none=>dsimp only;all_goals exact tame_h
   | some r=>dsimp only;all_goals exact tame_h
  | _=>first | exact trivial | exact (Eq.refl true)
 ·cases a with
  | chan c=>cases c <;> first | exact trivial | exact (Eq.refl true)
  | _=>first | exact trivial | exact (Eq.refl true)⟩
instance i_real (t:Array TypeId) (u:TypeId) (x:Array Value):TameC P ok (Builtin.real_ t u x):=⟨by
 unfold Builtin.real_
 obtain ⟨l⟩:=x
 rcases l with _ | ⟨a,_ | ⟨b,l⟩⟩
 all_goals first
  | first | exact trivial | exact (Eq.refl true)
  | exact (show Tame P ok (stuck _) from trivial)
  | ((try dsimp only);(repeat' (first | exact trivial | exact (Eq.refl true) | exact ⟨_,rfl⟩ | exact Or.inl rfl | exact Or.inr ⟨_,rfl⟩ | exact TameC.h | assumption | exact OkO.cells _ _ _ | exact OkO.map _ _ | exact OkO.chan _ _ _ _ _ _ | exact OkO.sit _ _ | exact OkO.mit _ _ _ _ | exact OkO.num _ _ | exact OkO.view _ _ | (refine TameQ.getObj' ?_ fun _ _=>?_) | exact Or.inl ⟨_,rfl⟩ | exact Or.inr (fun o h=>by cases o <;> first | rfl | cases h) | (refine Tame.forInA (fun _ _=>?_) _ _) | (refine Tame.forInL (fun _ _=>?_) _ _) | (refine Tame.forInR (fun _ _=>?_) _ _) | (refine Tame.mapMA (fun _=>?_) _) | (refine Tame.mapML (fun _=>?_) _) | (refine Tame.ite ?_ ?_) | (refine Tame.bind' ?_ fun _=>?_) | (refine Tame.map ?_) | (intro _) | (split) | (dsimp only) | (apply And.intro)));done)
  | (cases a <;> first | first | exact trivial | exact (Eq.refl true) | exact (show Tame P ok (stuck _) from trivial) | ((try dsimp only);(repeat' (first | exact trivial | exact (Eq.refl true) | exact ⟨_,rfl⟩ | exact Or.inl rfl | exact Or.inr ⟨_,rfl⟩ | exact TameC.h | assumption | exact OkO.cells _ _ _ | exact OkO.map _ _ | exact OkO.chan _ _ _ _ _ _ | exact OkO.sit _ _ | exact OkO.mit _ _ _ _ | exact OkO.num _ _ | exact OkO.view _ _ | (refine TameQ.getObj' ?_ fun _ _=>?_) | exact Or.inl ⟨_,rfl⟩ | exact Or.inr (fun o h=>by cases o <;> first | rfl | cases h) | (refine Tame.forInA (fun _ _=>?_) _ _) | (refine Tame.forInL (fun _ _=>?_) _ _) | (refine Tame.forInR (fun _ _=>?_) _ _) | (refine Tame.mapMA (fun _=>?_) _) | (refine Tame.mapML (fun _=>?_) _) | (refine Tame.ite ?_ ?_) | (refine Tame.bind' ?_ fun _=>?_) | (refine Tame.map ?_) | (intro _) | (split) | (dsimp only) | (apply And.intro)));done))⟩
instance i_imag (t:Array TypeId) (u:TypeId) (x:Array Value):TameC P ok (Builtin.imag_ t u x):=⟨by
 unfold Builtin.imag_
 obtain ⟨l⟩:=x
 rcases l with _ | ⟨a,_ | ⟨b,l⟩⟩
 all_goals first
  | first | exact trivial | exact (Eq.refl true)
  | exact (show Tame P ok (stuck _) from trivial)
  | ((try dsimp only);(repeat' (first | exact trivial | exact (Eq.refl true) | exact ⟨_,rfl⟩ | exact Or.inl rfl | exact Or.inr ⟨_,rfl⟩ | exact TameC.h | assumption | exact OkO.cells _ _ _ | exact OkO.map _ _ | exact OkO.chan _ _ _ _ _ _ | exact OkO.sit _ _ | exact OkO.mit _ _ _ _ | exact OkO.num _ _ | exact OkO.view _ _ | (refine TameQ.getObj' ?_ fun _ _=>?_) | exact Or.inl ⟨_,rfl⟩ | exact Or.inr (fun o h=>by cases o <;> first | rfl | cases h) | (refine Tame.forInA (fun _ _=>?_) _ _) | (refine Tame.forInL (fun _ _=>?_) _ _) | (refine Tame.forInR (fun _ _=>?_) _ _) | (refine Tame.mapMA (fun _=>?_) _) | (refine Tame.mapML (fun _=>?_) _) | (refine Tame.ite ?_ ?_) | (refine Tame.bind' ?_ fun _=>?_) | (refine Tame.map ?_) | (intro _) | (split) | (dsimp only) | (apply And.intro)));done)
  | (cases a <;> first | first | exact trivial | exact (Eq.refl true) | exact (show Tame P ok (stuck _) from trivial) | ((try dsimp only);(repeat' (first | exact trivial | exact (Eq.refl true) | exact ⟨_,rfl⟩ | exact Or.inl rfl | exact Or.inr ⟨_,rfl⟩ | exact TameC.h | assumption | exact OkO.cells _ _ _ | exact OkO.map _ _ | exact OkO.chan _ _ _ _ _ _ | exact OkO.sit _ _ | exact OkO.mit _ _ _ _ | exact OkO.num _ _ | exact OkO.view _ _ | (refine TameQ.getObj' ?_ fun _ _=>?_) | exact Or.inl ⟨_,rfl⟩ | exact Or.inr (fun o h=>by cases o <;> first | rfl | cases h) | (refine Tame.forInA (fun _ _=>?_) _ _) | (refine Tame.forInL (fun _ _=>?_) _ _) | (refine Tame.forInR (fun _ _=>?_) _ _) | (refine Tame.mapMA (fun _=>?_) _) | (refine Tame.mapML (fun _=>?_) _) | (refine Tame.ite ?_ ?_) | (refine Tame.bind' ?_ fun _=>?_) | (refine Tame.map ?_) | (intro _) | (split) | (dsimp only) | (apply And.intro)));done))⟩
instance i_usl (t:Array TypeId) (u:TypeId) (x:Array Value):TameC P ok (Builtin.unsafeSlice_ t u x):=⟨by
 unfold Builtin.unsafeSlice_
 obtain ⟨l⟩:=x
 rcases l with _ | ⟨a,_ | ⟨b,_ | ⟨c,l⟩⟩⟩
 all_goals first
  | first | exact trivial | exact (Eq.refl true)
  | exact (show Tame P ok (stuck _) from trivial)
  | ((try dsimp only);(repeat' (first | exact trivial | exact (Eq.refl true) | exact ⟨_,rfl⟩ | exact Or.inl rfl | exact Or.inr ⟨_,rfl⟩ | exact TameC.h | assumption | exact OkO.cells _ _ _ | exact OkO.map _ _ | exact OkO.chan _ _ _ _ _ _ | exact OkO.sit _ _ | exact OkO.mit _ _ _ _ | exact OkO.num _ _ | exact OkO.view _ _ | (refine TameQ.getObj' ?_ fun _ _=>?_) | exact Or.inl ⟨_,rfl⟩ | exact Or.inr (fun o h=>by cases o <;> first | rfl | cases h) | (refine Tame.forInA (fun _ _=>?_) _ _) | (refine Tame.forInL (fun _ _=>?_) _ _) | (refine Tame.forInR (fun _ _=>?_) _ _) | (refine Tame.mapMA (fun _=>?_) _) | (refine Tame.mapML (fun _=>?_) _) | (refine Tame.ite ?_ ?_) | (refine Tame.bind' ?_ fun _=>?_) | (refine Tame.map ?_) | (intro _) | (split) | (dsimp only) | (apply And.intro)));done)
  | (cases a <;> first | first | exact trivial | exact (Eq.refl true) | exact (show Tame P ok (stuck _) from trivial) | ((try dsimp only);(repeat' (first | exact trivial | exact (Eq.refl true) | exact ⟨_,rfl⟩ | exact Or.inl rfl | exact Or.inr ⟨_,rfl⟩ | exact TameC.h | assumption | exact OkO.cells _ _ _ | exact OkO.map _ _ | exact OkO.chan _ _ _ _ _ _ | exact OkO.sit _ _ | exact OkO.mit _ _ _ _ | exact OkO.num _ _ | exact OkO.view _ _ | (refine TameQ.getObj' ?_ fun _ _=>?_) | exact Or.inl ⟨_,rfl⟩ | exact Or.inr (fun o h=>by cases o <;> first | rfl | cases h) | (refine Tame.forInA (fun _ _=>?_) _ _) | (refine Tame.forInL (fun _ _=>?_) _ _) | (refine Tame.forInR (fun _ _=>?_) _ _) | (refine Tame.mapMA (fun _=>?_) _) | (refine Tame.mapML (fun _=>?_) _) | (refine Tame.ite ?_ ?_) | (refine Tame.bind' ?_ fun _=>?_) | (refine Tame.map ?_) | (intro _) | (split) | (dsimp only) | (apply And.intro)));done))⟩
theorem t_lb:∀ (n:Nat) (a:Addr) (b:ByteArray),Tame P ok (loadBytes a b n)
 | 0,a,b=>trivial
 | n+1,a,b=>by
  have ih:∀ a b,TameC P ok (loadBytes a b n):=fun a b=>⟨t_lb n a b⟩
  unfold loadBytes
  all_goals exact tame_h
instance i_lb (a:Addr) (b:ByteArray) (n:Nat):TameC P ok (loadBytes a b n):=⟨t_lb n a b⟩
instance i_ust (t:Array TypeId) (u:TypeId) (x:Array Value):TameC P ok (Builtin.unsafeString_ t u x):=⟨by
 unfold Builtin.unsafeString_
 obtain ⟨l⟩:=x
 rcases l with _ | ⟨a,_ | ⟨b,_ | ⟨c,l⟩⟩⟩
 all_goals first
  | first | exact trivial | exact (Eq.refl true)
  | exact (show Tame P ok (stuck _) from trivial)
  | ((try dsimp only);(repeat' (first | exact trivial | exact (Eq.refl true) | exact ⟨_,rfl⟩ | exact Or.inl rfl | exact Or.inr ⟨_,rfl⟩ | exact TameC.h | assumption | exact OkO.cells _ _ _ | exact OkO.map _ _ | exact OkO.chan _ _ _ _ _ _ | exact OkO.sit _ _ | exact OkO.mit _ _ _ _ | exact OkO.num _ _ | exact OkO.view _ _ | (refine TameQ.getObj' ?_ fun _ _=>?_) | exact Or.inl ⟨_,rfl⟩ | exact Or.inr (fun o h=>by cases o <;> first | rfl | cases h) | (refine Tame.forInA (fun _ _=>?_) _ _) | (refine Tame.forInL (fun _ _=>?_) _ _) | (refine Tame.forInR (fun _ _=>?_) _ _) | (refine Tame.mapMA (fun _=>?_) _) | (refine Tame.mapML (fun _=>?_) _) | (refine Tame.ite ?_ ?_) | (refine Tame.bind' ?_ fun _=>?_) | (refine Tame.map ?_) | (intro _) | (split) | (dsimp only) | (apply And.intro)));done)
  | (cases a <;> first | first | exact trivial | exact (Eq.refl true) | exact (show Tame P ok (stuck _) from trivial) | ((try dsimp only);(repeat' (first | exact trivial | exact (Eq.refl true) | exact ⟨_,rfl⟩ | exact Or.inl rfl | exact Or.inr ⟨_,rfl⟩ | exact TameC.h | assumption | exact OkO.cells _ _ _ | exact OkO.map _ _ | exact OkO.chan _ _ _ _ _ _ | exact OkO.sit _ _ | exact OkO.mit _ _ _ _ | exact OkO.num _ _ | exact OkO.view _ _ | (refine TameQ.getObj' ?_ fun _ _=>?_) | exact Or.inl ⟨_,rfl⟩ | exact Or.inr (fun o h=>by cases o <;> first | rfl | cases h) | (refine Tame.forInA (fun _ _=>?_) _ _) | (refine Tame.forInL (fun _ _=>?_) _ _) | (refine Tame.forInR (fun _ _=>?_) _ _) | (refine Tame.mapMA (fun _=>?_) _) | (refine Tame.mapML (fun _=>?_) _) | (refine Tame.ite ?_ ?_) | (refine Tame.bind' ?_ fun _=>?_) | (refine Tame.map ?_) | (intro _) | (split) | (dsimp only) | (apply And.intro)));done))⟩
instance i_ustd (t:Array TypeId) (u:TypeId) (x:Array Value):TameC P ok (Builtin.unsafeStringData_ t u x):=⟨by
 unfold Builtin.unsafeStringData_
 obtain ⟨l⟩:=x
 rcases l with _ | ⟨a,_ | ⟨b,l⟩⟩
 all_goals first
  | first | exact trivial | exact (Eq.refl true)
  | exact (show Tame P ok (stuck _) from trivial)
  | ((try dsimp only);(repeat' (first | exact trivial | exact (Eq.refl true) | exact ⟨_,rfl⟩ | exact Or.inl rfl | exact Or.inr ⟨_,rfl⟩ | exact TameC.h | assumption | exact OkO.cells _ _ _ | exact OkO.map _ _ | exact OkO.chan _ _ _ _ _ _ | exact OkO.sit _ _ | exact OkO.mit _ _ _ _ | exact OkO.num _ _ | exact OkO.view _ _ | (refine TameQ.getObj' ?_ fun _ _=>?_) | exact Or.inl ⟨_,rfl⟩ | exact Or.inr (fun o h=>by cases o <;> first | rfl | cases h) | (refine Tame.forInA (fun _ _=>?_) _ _) | (refine Tame.forInL (fun _ _=>?_) _ _) | (refine Tame.forInR (fun _ _=>?_) _ _) | (refine Tame.mapMA (fun _=>?_) _) | (refine Tame.mapML (fun _=>?_) _) | (refine Tame.ite ?_ ?_) | (refine Tame.bind' ?_ fun _=>?_) | (refine Tame.map ?_) | (intro _) | (split) | (dsimp only) | (apply And.intro)));done)
  | (cases a <;> first | first | exact trivial | exact (Eq.refl true) | exact (show Tame P ok (stuck _) from trivial) | ((try dsimp only);(repeat' (first | exact trivial | exact (Eq.refl true) | exact ⟨_,rfl⟩ | exact Or.inl rfl | exact Or.inr ⟨_,rfl⟩ | exact TameC.h | assumption | exact OkO.cells _ _ _ | exact OkO.map _ _ | exact OkO.chan _ _ _ _ _ _ | exact OkO.sit _ _ | exact OkO.mit _ _ _ _ | exact OkO.num _ _ | exact OkO.view _ _ | (refine TameQ.getObj' ?_ fun _ _=>?_) | exact Or.inl ⟨_,rfl⟩ | exact Or.inr (fun o h=>by cases o <;> first | rfl | cases h) | (refine Tame.forInA (fun _ _=>?_) _ _) | (refine Tame.forInL (fun _ _=>?_) _ _) | (refine Tame.forInR (fun _ _=>?_) _ _) | (refine Tame.mapMA (fun _=>?_) _) | (refine Tame.mapML (fun _=>?_) _) | (refine Tame.ite ?_ ?_) | (refine Tame.bind' ?_ fun _=>?_) | (refine Tame.map ?_) | (intro _) | (split) | (dsimp only) | (apply And.intro)));done))⟩
instance i_ssaw (t:Array TypeId) (u:TypeId) (a:Value) (x y:String):TameC P ok (Builtin.ssaWrapNilChk_ t u #[a,strVal x,strVal y]):=⟨by
 unfold Builtin.ssaWrapNilChk_ strVal
 show Tame P ok (match a with | .pointer (some _)=>_ | .pointer none=>_ | _=>_)
 cases a with
 | pointer p=>cases p <;> (dsimp only;all_goals exact tame_h)
 | _=>first | exact trivial | exact (Eq.refl true)⟩
instance i_pget (t:TypeId) (x:Place):TameC P ok (x.get t):=⟨by unfold Place.get;all_goals exact tame_h⟩
theorem t_follow:∀ (l:List FieldStep) (t:TypeId) (x:Place),Tame P ok (follow l t x)
 | [],t,x=>trivial
 | s::l,t,x=>by
  have ih:∀ t x,TameC P ok (follow l t x):=fun t x=>⟨t_follow l t x⟩
  unfold follow
  all_goals exact tame_h
instance i_follow (l:List FieldStep) (t:TypeId) (x:Place):TameC P ok (follow l t x):=⟨t_follow l t x⟩
instance i_rat (t:TypeId) (x:Place) (p:Bool) (w:Option String):TameC P ok (receiverAt t x p w):=⟨by unfold receiverAt;all_goals exact tame_h⟩
instance i_rvia (t:TypeId) (v:Value) (x:Array FieldStep) (p:Bool):TameC P ok (receiverVia t v x p):=⟨by unfold receiverVia;all_goals exact tame_h⟩
theorem t_method:∀ (n:Nat) (t:TypeId) (v:Value) (s:String),Tame P ok (method n t v s)
 | 0,_,_,_=>Eq.refl true
 | n+1,t,v,s=>by
  have ih:∀ t v s,TameC P ok (method n t v s):=fun t v s=>⟨t_method n t v s⟩
  unfold method
  all_goals exact tame_h
instance i_method (n:Nat) (t:TypeId) (v:Value) (s:String):TameC P ok (method n t v s):=⟨t_method n t v s⟩
theorem t_fb:∀ (l:List FieldStep) (t:TypeId) (x:Option Value),Tame P ok (followBlind l t x)
 | [],t,x=>trivial
 | s::l,t,x=>by
  have ih:∀ t x,TameC P ok (followBlind l t x):=fun t x=>⟨t_fb l t x⟩
  unfold followBlind
  all_goals exact tame_h
instance i_fb (l:List FieldStep) (t:TypeId) (x:Option Value):TameC P ok (followBlind l t x):=⟨t_fb l t x⟩
end
end Go.Proofs.Ytoheddpnnjldgaa.Bq
end
namespace Go.Proofs.Ytoheddpnnjldgaa
open Go.RowKit
end Go.Proofs.Ytoheddpnnjldgaa
section
namespace Go.Proofs.Ytoheddpnnjldgaa.Bq
open Go
set_option maxHeartbeats 2000000
variable {P:Program} {α β:Type}
section
variable {ok:Obj→Prop} [OkO ok]
theorem t_na:∀ (n:Nat) (t:TypeId) (v:Value) (s:String),Tame P ok (nilAhead n t v s)
 | 0,_,_,_=>trivial
 | n+1,t,v,s=>by
  have ih:∀ t v s,TameC P ok (nilAhead n t v s):=fun t v s=>⟨t_na n t v s⟩
  unfold nilAhead
  all_goals exact tame_h
instance i_nah (n:Nat) (t:TypeId) (v:Value) (s:String):TameC P ok (nilAhead n t v s):=⟨t_na n t v s⟩
end
theorem q_range (t:TypeId) (a:Value):Tame P okC (Instr.range t a):=by
 unfold Instr.range
 refine TameQ.bindT TameC.h fun u=>?_
 dsimp only
 split
 ·exact ⟨trivial,fun _=>trivial⟩
 ·exact ⟨trivial,fun _=>trivial⟩
 ·refine TameQ.getObj' (Or.inl ⟨_,rfl⟩) fun o _=>?_
  split
  ·exact ⟨trivial,fun _=>trivial⟩
  ·first | exact trivial | exact (Eq.refl true)
 ·first | exact trivial | exact (Eq.refl true)
theorem q_builtin (b:Builtin) (hb:builtinOk b=true) (ts:Array TypeId) (t:TypeId) (cs:Array Bool) (args:Array Value):TameQ P okC nextOk (builtin b ts t cs args):=by
 cases b <;> first
  | exact absurd hb Bool.false_ne_true
  | exact q_v TameC.h
  | first | exact trivial | exact (Eq.refl true)
  | exact TameQ.bindT TameC.h fun _=>trivial
theorem q_method (hP:FuncsOk P) (r:Value) (name:String) (args:Array Value):TameQ P okC nextOk (callMethod r name args):=by
 unfold callMethod
 split
 · exact TameQ.bindT TameC.h fun _=>TameQ.bindT TameC.h fun x=>q_callFunc hP _ _
 · exact q_rp _
 · first | exact trivial | exact (Eq.refl true)
theorem q_invoke (hP:FuncsOk P) (t:Target) (ht:tgtOk t=true) (args:Array Value):TameQ P okC nextOk (invoke t args):=by
 unfold invoke
 split
 ·exact q_rp _
 ·exact q_builtin _ ht _ _ _ _
 ·exact q_callFunc hP _ _
 ·split
  ·exact q_method hP _ _ _
  ·first | exact trivial | exact (Eq.refl true)
 ·split
  ·exact TameQ.bindT TameC.h fun _=>q_method hP _ _ _
  ·first | exact trivial | exact (Eq.refl true)
 ·split
  ·exact TameQ.bindT TameC.h fun _=>q_callFunc hP _ _
  ·first | exact trivial | exact (Eq.refl true)
 ·exact q_yield _ _
 ·first | exact trivial | exact (Eq.refl true)
 ·cases ht
theorem q_exec (hP:FuncsOk P) (ρ:Operand→Value) (o:Oper) (ho:opOk o.op=true):TameQ P okC nextOk (execOp ρ o):=by
 unfold execOp
 cases e:o.op with
 | call c =>
  rw [e] at ho
  exact TameQ.bind' (q_resolve ρ c _ ho) fun d hd=>q_invoke hP _ hd _
 | go c =>
  rw [e] at ho
  exact TameQ.bind' (q_resolve ρ c _ ho) fun d hd=>hd
 | defer c =>
  rw [e] at ho
  exact TameQ.bind' (q_resolve ρ c _ ho) fun d hd=>hd
 | recv t c b =>
  refine TameQ.bindT TameC.h fun d=>?_
  split
  ·exact TameQ.bindT TameC.h fun _=>trivial
  ·first | exact trivial | exact (Eq.refl true)
 | select cs b =>
  refine TameQ.bindT (Tame.mapMA (fun x=>?_) _) fun _=>trivial
  all_goals exact tame_h
 | pick c a b=>exact TameQ.bindT TameC.h fun _=>trivial
 | nilCheck x =>
  dsimp only
  split <;> first
   | exact q_rp _
   | first | exact trivial | exact (Eq.refl true)
   | skip
  split <;> first
   | exact q_rp _
   | first | exact trivial | exact (Eq.refl true)
   | skip
  refine TameQ.prog (TameQ.bindT TameC.h fun _=>?_)
  split <;> first | exact trivial | exact (Eq.refl true)
 | range t x=>exact q_v (q_range _ _)
 | binOp op t x y=>exact q_v (Tame.bind' TameC.h fun _=>TameC.h)
 | _=>first
  | first | exact trivial | exact (Eq.refl true)
  | exact q_v TameC.h
  | exact q_u TameC.h
end Go.Proofs.Ytoheddpnnjldgaa.Bq
end
namespace Go.Proofs.Ytoheddpnnjldgaa
open Go.RowKit
end Go.Proofs.Ytoheddpnnjldgaa
section
namespace Go.Proofs.Ytoheddpnnjldgaa.Bq
open Go
set_option maxHeartbeats 2000000
theorem bind_ok {ε α β:Type} {x:Except ε α} {f:α→Except ε β} {b:β} (h:(x >>= f)=.ok b):∃ a,x=.ok a∧f a=.ok b:=by
 cases x with
 | error e=>cases h
 | ok a=>exact ⟨a,rfl,h⟩
theorem seen_low {p:Program} {w:World} {at_:Addr} {u:TypeId} {k:Addr} {b:Bool} {x:Array Value×TypeId×(Nat×Nat)×Nat×Value×List (Nat×Nat×List UInt8)} (h:w.seen p at_ u k b=.ok x):at_.block < w.heap.size:=by
 unfold World.seen at h
 by_cases hc:at_.block < w.heap.size
 ·exact hc
 ·have hn:w.heap[at_.block]? = none:=Array.getElem?_eq_none (Nat.not_lt.1 hc)
  rw [hn] at h
  exfalso
  simp only [bind,Except.bind,throw,throwThe,MonadExceptOf.throw,pure,Except.pure] at h
  repeat' split at h
  all_goals first | cases h | (simp at h;done) | contradiction
theorem viewLoad_low {p:Program} {w:World} {at_:Addr} {u:TypeId} {k:Addr} {b:Bool} {v:Value} {l:List Addr} (h:w.viewLoad p at_ u k b=.ok (v,l)):∀ a∈l,a.block < w.heap.size:=by
 unfold World.viewLoad at h
 obtain ⟨x,hx,h⟩:=bind_ok h
 obtain ⟨a1,a2,a3,a4,a5,a6⟩:=x
 dsimp only at h
 split at h
 ·cases h
  intro a ha
  obtain ⟨q,_,rfl⟩:=List.mem_map.1 ha
  exact (seen_low hx:at_.block < _)
 ·cases h
theorem viewStore_low {p:Program} {w w':World} {at_:Addr} {u:TypeId} {k:Addr} {b:Bool} {v:Value} {l:List Addr} (h:w.viewStore p at_ u k v b=.ok (w',l)) :
   (∀ a∈l,a.block < w.heap.size)∧∃ c e f,w'.heap=w.heap.setIfInBounds at_.block (.cells c e f):=by
 unfold World.viewStore at h
 cases ht:tight p p.depth u with
 | false=>rw [ht] at h;cases h
 | true =>
   rw [ht] at h
   obtain ⟨x,hx,h⟩:=bind_ok (show (w.seen p at_ u k b >>= _)=_ from h)
   obtain ⟨a1,a2,a3,a4,a5,a6⟩:=x
   dsimp only at h
   split at h
   · rename_i bs hb
     by_cases hl:some bs.length≠a5.bytes?.map (·.length)
     · rw [if_pos hl] at h;cases h
     · rw [if_neg hl] at h
       obtain ⟨c,hc,h⟩:=bind_ok (show (List.foldlM _ _ _ >>= _)=_ from h)
       cases h
       exact ⟨fun a ha=>by
         obtain ⟨q,_,rfl⟩:=List.mem_map.1 ha
         exact (seen_low hx:at_.block < _),_,_,_,rfl⟩
   · cases h
theorem farLoad_low {p:Program} {w:World} {a:Addr} {b:Bool} {v:Value} {l:List Addr} (h:w.farLoad p a b=.ok (v,l)):∀ x∈l,x.block < w.heap.size:=by
 unfold World.farLoad at h
 split at h
 ·split at h
  ·rename_i r hr
   cases h
   exact viewLoad_low hr
  ·cases h
 ·cases h
theorem farStore_low {p:Program} {w w':World} {a:Addr} {b:Bool} {v:Value} {l:List Addr} (h:w.farStore p a v b=.ok (w',l)) :
  (∀ x∈l,x.block < w.heap.size)∧∃ g c e f,w'.heap=w.heap.setIfInBounds g (.cells c e f):=by
 unfold World.farStore at h
 split at h
 ·split at h
  ·rename_i r hr
   cases h
   obtain ⟨h1,c,e,f,h2⟩:=viewStore_low hr
   exact ⟨h1,_,c,e,f,h2⟩
  ·cases h
 ·cases h
theorem ask_heap {α:Type}:∀ (k:Ask α) (w:World),(w.ask k).2.heap=w.heap
 | .done a,w=>rfl
 | .ask what range k,w=>by
  unfold World.ask
  dsimp only
  split
  ·exact ask_heap (k 0) w
  ·exact ask_heap _ _
theorem sys_heap (w:World) (c:Sys):(w.sys c).2.heap=w.heap:=by
 unfold World.sys
 split
 ·rfl
 ·rename_i r os w' e
  have:=ask_heap (Kernel.perform c w.os) w
  rw [e] at this
  exact this
def EvT (B:Nat) (e:Event):Prop:=match e.loc with
 | .cell a=>a.block < B
 | .obj r=>r < B
 | .output=>True
 | .goroutines=>False
 | .mark m=>markOk m
theorem EvT.mono {B B':Nat} (h:B≤B') {e:Event} (he:EvT B e):EvT B' e:=by
 obtain ⟨l,wr,sy⟩:=e
 cases l with
 | cell a=>exact Nat.lt_of_lt_of_le he h
 | obj r=>exact Nat.lt_of_lt_of_le he h
 | _=>exact he
def okB (o:Obj):Prop:=okC o∨o=bad
def HeapOk (w:World):Prop:=∀ (b:Nat) (o:Obj),w.heap[b]? = some o→okB o
def resW {α:Type}:Result α→World
 | .ok _ w=>w
 | .halt _ w=>w
structure Ran {α:Type} (Q:α→Prop) (w:World) (es:Array Event) (r:Result α×Array Event):Prop where
 size:w.heap.size≤(resW r.1).heap.size
 heap:HeapOk (resW r.1)
 res:∀ a w',r.1=.ok a w'→Q a
 ev:∃ es',r.2=es++es'∧∀ e∈es',EvT (resW r.1).heap.size e
 hlt:∀ h w',r.1=.halt h w'→haltOk h=true
variable {P:Program} {α:Type} {Q:α→Prop}
theorem Ran.halt {w:World} (hw:HeapOk w) (h:Halt) (es:Array Event) (hh:haltOk h=true):Ran Q w es (.halt h w,es):=⟨Nat.le_refl _,hw,(fun _ _ h=>by cases h),⟨#[],by simp,(fun e he=>by simp at he)⟩,(fun _ _ e=>by cases e;exact hh)⟩
theorem Ran.step {w w1:World} {es:Array Event} {us:Array Event} {r:Result α×Array Event} (h:Ran Q w1 (es++us) r) (hs:w.heap.size≤w1.heap.size) (hu:∀ e∈us,EvT w1.heap.size e):Ran Q w es r:=by
 obtain ⟨es',e1,e2⟩:=h.ev
 refine ⟨Nat.le_trans hs h.size,h.heap,h.res,⟨us++es',by rw [e1,Array.append_assoc],fun e he=>?_⟩,h.hlt⟩
 rcases Array.mem_append.1 he with he | he
 · exact EvT.mono h.size (hu e he)
 · exact e2 e he
theorem Ran.step0 {w w1:World} {es:Array Event} {r:Result α×Array Event} (h:Ran Q w1 es r) (hs:w.heap.size≤w1.heap.size):Ran Q w es r :=
 Ran.step (us:=#[]) (by simpa using h) hs (fun e he=>by simp at he)
theorem Ran.step1 {w w1:World} {es:Array Event} {u:Event} {r:Result α×Array Event} (h:Ran Q w1 (es.push u) r) (hs:w.heap.size≤w1.heap.size) (hu:EvT w1.heap.size u):Ran Q w es r :=
 Ran.step (us:=#[u]) (by simpa using h) hs (fun e he=>by rw [Array.mem_singleton.1 he];exact hu)
theorem heapOk_push {w:World} (hw:HeapOk w) {o:Obj} (ho:okC o):HeapOk { w with heap:=w.heap.push o }:=by
 intro b x hx
 rw [Array.getElem?_push] at hx
 split at hx
 · cases hx;exact .inl ho
 · exact hw b x hx
theorem heapOk_set {w:World} (hw:HeapOk w) {r:Nat} {o:Obj} (ho:okC o):HeapOk { w with heap:=w.heap.setIfInBounds r o }:=by
 intro b x hx
 rw [Array.getElem?_setIfInBounds] at hx
 split at hx
 ·split at hx
  ·cases hx;exact .inl ho
  ·cases hx
 ·exact hw b x hx
theorem heapOk_modify {w:World} (hw:HeapOk w) {r:Nat} {f:Obj→Obj} (ho:∀ o,okB o→okB (f o)):HeapOk { w with heap:=w.heap.modify r f }:=by
 intro b x hx
 rw [Array.getElem?_modify] at hx
 split at hx
 ·rcases Option.map_eq_some_iff.1 hx with ⟨o,h1,rfl⟩
  exact ho o (hw _ _ h1)
 ·exact hw b x hx
theorem noCell_ok (w:World) (a:Addr) (s:String):haltOk (w.noCell a s)=true:=by
 unfold World.noCell
 split <;> rfl
theorem farLoad_halt {p:Program} {w:World} {a:Addr} {b:Bool} {h:Halt} (e:w.farLoad p a b=.error h):haltOk h=true:=by
 unfold World.farLoad at e
 split at e
 · split at e <;> cases e;rfl
 · cases e;exact noCell_ok _ _ _
theorem farStore_halt {p:Program} {w:World} {a:Addr} {v:Value} {b:Bool} {h:Halt} (e:w.farStore p a v b=.error h):haltOk h=true:=by
 unfold World.farStore at e
 split at e
 · split at e <;> cases e;rfl
 · cases e;exact noCell_ok _ _ _
theorem runT_tame:∀ (s:Sem α),TameQ P okC Q s→∀ (w:World),HeapOk w→∀ es:Array Event,Ran Q w es (s.runT P w es)
 | .pure a,h,w,hw,es=>⟨Nat.le_refl _,hw,(fun _ _ e=>by cases e;exact h),⟨#[],by simp [Sem.runT],fun e he=>by simp at he⟩,(fun _ _ e=>by cases e)⟩
 | .halt h,hh,w,hw,es=>Ran.halt hw h es hh
 | .program k,h,w,hw,es=>runT_tame (k P) h w hw es
 | .mark m k,h,w,hw,es=>Ran.step1 (runT_tame k h.2 w hw _) (Nat.le_refl _) h.1
 | .shape r k,h,w,hw,es=>runT_tame (k _) (h _) w hw es
 | .frozen a k,h,w,hw,es=>runT_tame (k _) (h _) w hw es
 | .new o k,h,w,hw,es=>Ran.step0 (runT_tame (k _) (h.2 _) _ (heapOk_push hw h.1) es) (by simp)
 | .sys c k,h,w,hw,es=>by
   have e:=sys_heap w c
   exact Ran.step1 (runT_tame (k _) (h.2 _) _ (fun b o ho=>hw b o (by rwa [e] at ho)) _) (by rw [e];exact Nat.le_refl _) trivial
 | .choose q k,h,w,hw,es=>by
   unfold Sem.runT
   split
   · exact runT_tame (k 0) (h 0) w hw es
   · exact Ran.step0 (runT_tame (k _) (h _) { w with drawn:=w.drawn+1 } hw es) (Nat.le_refl _)
 | .freeze a n k,h,w,hw,es=>by
   have h1:HeapOk (w.freeze a n)∧w.heap.size=(w.freeze a n).heap.size:=by
     unfold World.freeze
     split
     · exact ⟨hw,rfl⟩
     · refine ⟨heapOk_modify hw fun o ho=>?_,by simp⟩
       split
       · exact .inl trivial
       · exact ho
   exact Ran.step0 (runT_tame k h _ h1.1 es) (Nat.le_of_eq h1.2)
 | .getObj r k,h,w,hw,es=>by
   unfold Sem.runT
   split
   · exact Ran.halt hw _ es rfl
   · rename_i o ho hr
     rcases hw r o hr with h9 | rfl
     · exact Ran.step1 (runT_tame (k o) (h.2 o h9) w hw _) (Nat.le_refl _) ((Array.getElem?_eq_some_iff.1 hr).1)
     · have h8:TameQ P okC Q (k bad):=by
         rcases h.1 with ⟨s,e⟩ | e
         · rw [e];exact Eq.refl true
         · rw [← e (.deferred none) rfl];exact h.2 _ trivial
       exact Ran.step1 (runT_tame (k bad) h8 w hw _) (Nat.le_refl _) ((Array.getElem?_eq_some_iff.1 hr).1)
   · exact Ran.halt hw _ es rfl
 | .setObj r o k,h,w,hw,es=>by
   unfold Sem.runT
   split
   · exact Ran.halt hw _ es rfl
   · rename_i o' ho hr
     exact Ran.step1 (runT_tame k h.2 _ (heapOk_set hw h.1) _) (by simp) (by
       show r < _
       simpa using (Array.getElem?_eq_some_iff.1 hr).1)
   · exact Ran.halt hw _ es rfl
 | .load m a k,h,w,hw,es=>by
   unfold Sem.runT
   split
   · rename_i v hv
     have hb:a.block < w.heap.size:=by
       unfold World.cell? at hv
       split at hv
       · rename_i he
         exact (Array.getElem?_eq_some_iff.1 he).1
       · cases hv
     exact Ran.step1 (runT_tame (k v) (h v) w hw _) (Nat.le_refl _) hb
   · split
     · rename_i v l hl
       refine Ran.step (runT_tame (k v) (h v) w hw _) (Nat.le_refl _) fun e he=>?_
       rcases Array.mem_map.1 he with ⟨x,hx,rfl⟩
       exact farLoad_low hl x (by simpa using hx)
     · rename_i he9
       exact Ran.halt hw _ es (farLoad_halt he9)
 | .store m a v k,h,w,hw,es=>by
   have hgo : ∀ es, Ran Q w es (match w.cell? a with
       | some _ => if w.frozen? a then (.halt (.unsupported (.unsafePointer "a write to bytes that a string shares")) w, es)
         else k.runT P (w.setCell a v) (es.push ⟨.cell a,true,m == .atomic⟩)
       | none=>match w.farStore P a v (m == .atomic) with
         | .ok (w,touched)=>k.runT P w (es++touched.toArray.map (⟨.cell ·,true,m == .atomic⟩))
         | .error h=>(.halt h w,es)):=by
     intro es
     split
     · rename_i v' hv
       have hb:a.block < w.heap.size:=by
         unfold World.cell? at hv
         split at hv
         · rename_i he
           exact (Array.getElem?_eq_some_iff.1 he).1
         · cases hv
       split
       · exact Ran.halt hw _ es rfl
       · have h2:(w.setCell a v).heap.size=w.heap.size:=by unfold World.setCell;simp
         refine Ran.step1 (runT_tame k h (w.setCell a v) (heapOk_modify hw fun o ho=>?_) _) (by rw [h2];exact Nat.le_refl _) (by show a.block < _;rw [h2];exact hb)
         split
         · exact .inl trivial
         · exact ho
     · split
       · rename_i w' l hl
         obtain ⟨h1,g,c,e,f,h2⟩:=farStore_low hl
         have hs:w'.heap.size=w.heap.size:=by rw [h2];simp
         refine Ran.step (runT_tame k h w' (fun b o ho=>heapOk_set hw (r:=g) (o:=.cells c e f) trivial b o (by show (w.heap.setIfInBounds g _)[b]? = _;rw [← h2];exact ho)) _) (by rw [hs];exact Nat.le_refl _) fun e he=>?_
         rcases Array.mem_map.1 he with ⟨x,hx,rfl⟩
         show x.block < _
         rw [hs]
         exact h1 x (by simpa using hx)
       · rename_i he9
         exact Ran.halt hw _ es (farStore_halt he9)
   cases v with
   | agg _=>exact Ran.halt hw _ es rfl
   | tuple _=>exact Ran.halt hw _ es rfl
   | _=>exact hgo es
end Go.Proofs.Ytoheddpnnjldgaa.Bq
end
namespace Go.Proofs.Ytoheddpnnjldgaa
open Go.RowKit
end Go.Proofs.Ytoheddpnnjldgaa
section
namespace Go.Proofs.Ytoheddpnnjldgaa.Bq
open Go
set_option maxHeartbeats 2000000
def isBad:Obj→Bool
 | .coro none=>true
 | _=>false
def un1 (J:Nat→Option Obj) (b:Nat) (o:Obj):Obj:=if isBad o then (J b).getD o else o
def un (J:Nat→Option Obj) (h:Array Obj):Array Obj:=h.mapIdx (un1 J)
def JOk (J:Nat→Option Obj) (w:World):Prop:=∀ b o,J b=some o→junk o=true∧b < w.heap.size∧¬ okC o
theorem JOk.mono {J:Nat→Option Obj} {w w':World} (h:JOk J w) (hs:w.heap.size≤w'.heap.size):JOk J w':=fun b o e=>⟨(h b o e).1,Nat.lt_of_lt_of_le (h b o e).2.1 hs,(h b o e).2.2⟩
theorem un_size (J:Nat→Option Obj) (h:Array Obj):(un J h).size=h.size:=by simp [un]
theorem un_get (J:Nat→Option Obj) (h:Array Obj) (b:Nat):(un J h)[b]? = (h[b]?).map (un1 J b):=by simp [un]
theorem un1_good {J:Nat→Option Obj} {b:Nat} {o:Obj} (h:isBad o=false):un1 J b o=o:=by simp [un1,h]
theorem isBad_eq {o:Obj} (h:isBad o=true):o=bad:=by
 unfold isBad at h
 split at h
 · rfl
 · cases h
theorem un1_bad {J:Nat→Option Obj} {w:World} (hJ:JOk J w) (b:Nat):junk (un1 J b bad)=true:=by
 show junk ((J b).getD bad)=true
 cases e:J b with
 | none=>rfl
 | some o=>exact (hJ b o e).1
theorem un_blind {β:Type} {J:Nat→Option Obj} {w:World} (hJ:JOk J w) (h:Array Obj) (b:Nat) (F:Option Obj→β) (hF:∀ o,junk o=true→F (some o)=F (some bad)):F ((un J h)[b]?)=F (h[b]?):=by
 rw [un_get]
 cases e:h[b]? with
 | none=>rfl
 | some o =>
  cases hb:isBad o with
  | false=>rw [Option.map_some,un1_good hb]
  | true =>
   obtain rfl:=isBad_eq hb
   exact hF _ (un1_bad hJ b)
theorem un_ext {h h':Array Obj} (hh:∀ b:Nat,h[b]? = h'[b]?):h=h':=Array.ext_getElem? hh
theorem un_push (J:Nat→Option Obj) {w:World} (hJ:JOk J w) (o:Obj):un J (w.heap.push o)=(un J w.heap).push o:=by
 refine un_ext fun b=>?_
 rw [un_get,Array.getElem?_push,Array.getElem?_push,un_size,un_get]
 split
 ·rename_i e
  subst e
  have:J w.heap.size=none:=by
   cases e:J w.heap.size with
   | none=>rfl
   | some o=>exact absurd (hJ _ _ e).2.1 (Nat.lt_irrefl _)
  simp [un1,this]
 ·rfl
theorem un_set (J:Nat→Option Obj) (h:Array Obj) (r:Nat) {o:Obj} (ho:isBad o=false):un J (h.setIfInBounds r o)=(un J h).setIfInBounds r o:=by
 refine un_ext fun b=>?_
 rw [un_get,Array.getElem?_setIfInBounds,Array.getElem?_setIfInBounds,un_size,un_get]
 split
 ·split
  ·rw [Option.map_some]
   rename_i e _
   subst e
   rw [un1_good ho]
  ·rfl
 ·rfl
theorem un_modify {J:Nat→Option Obj} {w:World} (hJ:JOk J w) (h:Array Obj) (r:Nat) (f:Obj→Obj) (h1:∀ o,junk o=true→f o=o) (h2:∀ o,isBad o=false→isBad (f o)=false):un J (h.modify r f)=(un J h).modify r f:=by
 refine un_ext fun b=>?_
 rw [un_get,Array.getElem?_modify,Array.getElem?_modify,un_get]
 split
 ·rename_i e
  subst e
  cases e:h[r]? with
  | none=>rfl
  | some o =>
   simp only [Option.map_some]
   cases hb:isBad o with
   | false=>rw [un1_good hb,un1_good (h2 o hb)]
   | true =>
    obtain rfl:=isBad_eq hb
    rw [h1 bad rfl,h1 _ (un1_bad hJ r)]
 ·rfl
def rt (J:Nat→Option Obj) (w:World) (T:Nat→Question→Nat) (c:Nat):World:={ w with tape:=T,drawn:=c,heap:=un J w.heap }
def rtR {α:Type} (J:Nat→Option Obj) (r:Result α) (T:Nat→Question→Nat) (c:Nat):Result α:=match r with
 | .ok a w=>.ok a (rt J w T c)
 | .halt h w=>.halt h (rt J w T c)
section
variable {J:Nat→Option Obj} {w:World} (hJ:JOk J w) (T:Nat→Question→Nat) (c:Nat)
include hJ
theorem rt_cell (a:Addr):(rt J w T c).cell? a=w.cell? a :=
 un_blind hJ w.heap a.block (fun x=>match x with | some (.cells c _ _)=>if a.spot.isSome then none else c[a.off]? | _=>none) (fun o h=>by cases o <;> first | rfl | cases h)
theorem rt_shape (r:Nat):(rt J w T c).shape? r=w.shape? r :=
 un_blind hJ w.heap r (fun x=>match x with | some (.cells c elem _)=>some (elem,c.size) | _=>none) (fun o h=>by cases o <;> first | rfl | cases h)
theorem rt_frozen (a:Addr):(rt J w T c).frozen? a=w.frozen? a :=
 un_blind hJ w.heap a.block (fun x=>match x with | some (.cells _ _ (lo,hi))=>decide (lo≤a.off) && decide (a.off < hi) | _=>false) (fun o h=>by cases o <;> first | rfl | cases h)
theorem rt_noCell (a:Addr) (s:String):(rt J w T c).noCell a s=w.noCell a s :=
 un_blind hJ w.heap a.block (fun x => match x with | some (.pending ..) => Halt.unsupported (.initOrder a.block) | some (.view ..) => .unsupported (.unsafePointer "memory read or written as another type") | _ => .stuck s) (fun o h => by cases o <;> first | rfl | cases h)
theorem rt_seen (p:Program) (at_:Addr) (u:TypeId) (k:Addr) (b:Bool):(rt J w T c).seen p at_ u k b=w.seen p at_ u k b:=by
 have key:∀ x y:Option Obj,(x=y∨∃ o o',x=some o∧y=some o'∧junk o=true∧junk o'=true)→∀ (F:Option Obj→Except String (Array Value×TypeId×(Nat×Nat)×Nat×Value×List (Nat×Nat×List UInt8))),(∀ o o',junk o=true→junk o'=true→F (some o)=F (some o'))→F x=F y:=by
  intro x y h F hF
  rcases h with rfl | ⟨o,o',rfl,rfl,h1,h2⟩
  ·rfl
  ·exact hF _ _ h1 h2
 have hx:(rt J w T c).heap[at_.block]? = w.heap[at_.block]?∨∃ o o',(rt J w T c).heap[at_.block]? = some o∧w.heap[at_.block]? = some o'∧junk o=true∧junk o'=true:=by
  show (un J w.heap)[at_.block]? = _∨∃ o o',(un J w.heap)[at_.block]? = _∧_
  rw [un_get]
  cases e:w.heap[at_.block]? with
  | none=>exact .inl rfl
  | some o =>
   cases hb:isBad o with
   | false=>exact .inl (by rw [Option.map_some,un1_good hb])
   | true =>
    obtain rfl:=isBad_eq hb
    exact .inr ⟨_,_,rfl,rfl,un1_bad hJ _,rfl⟩
 unfold World.seen
 generalize (rt J w T c).heap[at_.block]? = x at hx ⊢
 generalize w.heap[at_.block]? = y at hx ⊢
 rcases hx with rfl | ⟨o,o',rfl,rfl,h1,h2⟩
 ·rfl
 ·cases o <;> first | (cases h1;done) | (cases o' <;> first | (cases h2;done) | rfl)
end
end Go.Proofs.Ytoheddpnnjldgaa.Bq
end
namespace Go.Proofs.Ytoheddpnnjldgaa
open Go.RowKit
end Go.Proofs.Ytoheddpnnjldgaa
section
namespace Go.Proofs.Ytoheddpnnjldgaa.Bq
open Go
set_option maxHeartbeats 2000000
theorem ask_up {α:Type}:∀ (k:Ask α) (w:World),w.drawn≤(w.ask k).2.drawn∧(w.ask k).2.tape=w.tape
 | .done a,w=>⟨Nat.le_refl _,rfl⟩
 | .ask what range k,w=>by
  unfold World.ask
  dsimp only
  split
  ·exact ask_up (k 0) w
  ·exact ⟨Nat.le_trans (Nat.le_succ _) (ask_up (k _) { w with drawn:=w.drawn+1 }).1,(ask_up (k _) { w with drawn:=w.drawn+1 }).2⟩
theorem viewStore_up (p:Program) (w:World) (at_:Addr) (u:TypeId) (k:Addr) (v:Value) (b:Bool):∀ w' l,w.viewStore p at_ u k v b=.ok (w',l)→w'.drawn=w.drawn∧w'.tape=w.tape:=by
 unfold World.viewStore
 cases tight p p.depth u with
 | false=>exact fun w' l h=>by cases h
 | true =>
   simp only [Bool.not_true,Bool.false_eq_true,↓reduceIte]
   cases w.seen p at_ u k b with
   | error e=>exact fun w' l h=>by cases h
   | ok x =>
     obtain ⟨a1,a2,a3,a4,a5,a6⟩:=x
     dsimp only [bind,Except.bind,pure,Except.pure]
     cases v.bytes? with
     | none=>exact fun w' l h=>by cases h
     | some bs =>
       dsimp only
       by_cases hb:some bs.length=a5.bytes?.map (·.length)
       · rw [if_neg (fun h=>h hb)]
         generalize hfold:(List.foldlM _ _ _:Except String (Array Value))=r
         cases r with
         | error e=>exact fun w' l h=>by cases h
         | ok r=>exact fun w' l h=>by cases h;exact ⟨rfl,rfl⟩
       · rw [if_pos hb]
         exact fun w' l h=>by cases h
theorem farStore_up (p:Program) (w:World) (a:Addr) (v:Value) (b:Bool):∀ w' l,w.farStore p a v b=.ok (w',l)→w'.drawn=w.drawn∧w'.tape=w.tape:=by
 intro w' l h
 unfold World.farStore at h
 split at h
 ·split at h
  ·rename_i r hr
   cases h
   exact viewStore_up p w _ _ a v b w' l hr
  ·cases h
 ·cases h
theorem runT_store {α:Type} (p:Program) (m:Mode) (a:Addr) (v:Value) (k:Sem α) (w:World) (es:Array Event) (h1:∀ x,v≠.agg x) (h2:∀ x,v≠.tuple x) :
   (Sem.store m a v k).runT p w es=match w.cell? a with
   | some _ =>
     if w.frozen? a then (.halt (.unsupported (.unsafePointer "a write to bytes that a string shares")) w, es)
     else k.runT p (w.setCell a v) (es.push ⟨.cell a,true,m == .atomic⟩)
   | none=>match w.farStore p a v (m == .atomic) with
     | .ok (w,touched)=>k.runT p w (es++touched.toArray.map (⟨.cell ·,true,m == .atomic⟩))
     | .error h=>(.halt h w,es):=by
 cases v <;> first | rfl | exact absurd rfl (h1 _) | exact absurd rfl (h2 _)
theorem val_cases (v:Value):(∃ x,v=.agg x)∨(∃ x,v=.tuple x)∨((∀ x,v≠.agg x)∧∀ x,v≠.tuple x):=by
 cases v <;> first | exact .inl ⟨_,rfl⟩ | exact .inr (.inl ⟨_,rfl⟩) | exact .inr (.inr ⟨fun x h=>(by cases h),fun x h=>(by cases h)⟩)
theorem runT_up {α:Type} (p:Program):∀ (m:Sem α) (w:World) (es:Array Event),w.drawn≤(resW (m.runT p w es).1).drawn∧(resW (m.runT p w es).1).tape=w.tape
 | .pure a,w,es=>⟨Nat.le_refl _,rfl⟩
 | .load m a k,w,es=>by
   unfold Sem.runT
   split
   · exact runT_up p (k _) w _
   · split
     · exact runT_up p (k _) w _
     · exact ⟨Nat.le_refl _,rfl⟩
 | .store m a v k,w,es=>by
   rcases val_cases v with ⟨x,rfl⟩ | ⟨x,rfl⟩ | ⟨h1,h2⟩
   · exact ⟨Nat.le_refl _,rfl⟩
   · exact ⟨Nat.le_refl _,rfl⟩
   · rw [runT_store p m a v k w es h1 h2]
     split
     · split
       · exact ⟨Nat.le_refl _,rfl⟩
       · exact runT_up p k (w.setCell a v) _
     · split
       · rename_i w' l hst
         have h:=farStore_up p w a v (m == .atomic) _ _ hst
         have ih:=runT_up p k w' (es++l.toArray.map (⟨.cell ·,true,m == .atomic⟩))
         exact ⟨by rw [← h.1];exact ih.1,by rw [← h.2];exact ih.2⟩
       · exact ⟨Nat.le_refl _,rfl⟩
 | .new o k,w,es=>runT_up p (k w.heap.size) { w with heap:=w.heap.push o } es
 | .shape r k,w,es=>runT_up p (k (w.shape? r)) w es
 | .freeze a n k,w,es=>by
   have ih:=runT_up p k (w.freeze a n) es
   have e:(w.freeze a n).drawn=w.drawn∧(w.freeze a n).tape=w.tape:=by unfold World.freeze;split <;> exact ⟨rfl,rfl⟩
   rw [e.1,e.2] at ih
   exact ih
 | .frozen a k,w,es=>runT_up p (k (w.frozen? a)) w es
 | .getObj r k,w,es=>by
   unfold Sem.runT
   split
   · exact ⟨Nat.le_refl _,rfl⟩
   · exact runT_up p (k _) w _
   · exact ⟨Nat.le_refl _,rfl⟩
 | .setObj r o k,w,es=>by
   unfold Sem.runT
   split
   · exact ⟨Nat.le_refl _,rfl⟩
   · exact runT_up p k { w with heap:=w.heap.setIfInBounds r o } _
   · exact ⟨Nat.le_refl _,rfl⟩
 | .choose q k,w,es=>by
   unfold Sem.runT
   split
   · exact runT_up p (k 0) w es
   · have ih:=runT_up p (k (q.cut (w.tape w.drawn q))) { w with drawn:=w.drawn+1 } es
     exact ⟨Nat.le_trans (Nat.le_succ _) ih.1,ih.2⟩
 | .sys c k,w,es=>by
   have ih:=runT_up p (k (w.sys c).1) (w.sys c).2 (es.push ⟨.output,true,false⟩)
   have h:=ask_up (Kernel.perform c w.os) w
   have e:w.drawn≤(w.sys c).2.drawn∧(w.sys c).2.tape=w.tape:=by
     unfold World.sys
     split
     · exact ⟨Nat.le_refl _,rfl⟩
     · rename_i r os w' _ heq
       rw [heq] at h
       exact h
   exact ⟨Nat.le_trans e.1 ih.1,ih.2.trans e.2⟩
 | .program k,w,es=>runT_up p (k p) w es
 | .mark m k,w,es=>runT_up p k w _
 | .halt h,w,es=>⟨Nat.le_refl _,rfl⟩
theorem hx_of {J:Nat→Option Obj} {w:World} (hJ:JOk J w) (b:Nat):(un J w.heap)[b]? = w.heap[b]?∨∃ o o',(un J w.heap)[b]? = some o∧w.heap[b]? = some o'∧junk o=true∧junk o'=true:=by
 rw [un_get]
 cases e:w.heap[b]? with
 | none=>exact .inl rfl
 | some o =>
  cases hb:isBad o with
  | false=>exact .inl (by rw [Option.map_some,un1_good hb])
  | true =>
   obtain rfl:=isBad_eq hb
   exact .inr ⟨_,_,rfl,rfl,un1_bad hJ _,rfl⟩
section
variable {J:Nat→Option Obj} {w:World} (hJ:JOk J w) (T:Nat→Question→Nat) (c:Nat)
include hJ
theorem rt_viewLoad (p:Program) (at_:Addr) (u:TypeId) (k:Addr) (b:Bool):(rt J w T c).viewLoad p at_ u k b=w.viewLoad p at_ u k b:=by
 unfold World.viewLoad
 rw [rt_seen hJ]
theorem rt_farLoad (p:Program) (a:Addr) (b:Bool):(rt J w T c).farLoad p a b=w.farLoad p a b:=by
 unfold World.farLoad
 rw [rt_noCell hJ]
 rcases hx_of hJ a.block with e | ⟨o,o',e1,e2,h1,h2⟩
 ·rw [show (rt J w T c).heap[a.block]? = w.heap[a.block]? from e]
  split
  ·rw [rt_viewLoad hJ]
  ·rfl
 ·rw [show (rt J w T c).heap[a.block]? = some o from e1,e2]
  cases o <;> first | (cases h1;done) | (cases o' <;> first | (cases h2;done) | rfl)
theorem rt_setCell (a:Addr) (v:Value):(rt J w T c).setCell a v=rt J (w.setCell a v) T c:=by
 unfold World.setCell rt
 simp only [World.mk.injEq,and_true,true_and]
 refine (un_modify hJ w.heap a.block _ (fun o h=>?_) (fun o h=>?_)).symm
 · cases o <;> first | rfl | cases h
 · cases o <;> first | rfl | exact h
theorem rt_freeze (a:Addr) (n:Nat):(rt J w T c).freeze a n=rt J (w.freeze a n) T c:=by
 unfold World.freeze
 split
 ·rfl
 ·unfold rt
  simp only [World.mk.injEq,and_true,true_and]
  refine (un_modify hJ w.heap a.block _ (fun o h=>?_) (fun o h=>?_)).symm
  ·cases o <;> first | rfl | cases h
  ·cases o <;> first | rfl | exact h
theorem rt_push (o:Obj):({ rt J w T c with heap:=(rt J w T c).heap.push o }:World)=rt J { w with heap:=w.heap.push o } T c:=by
 unfold rt
 simp only [World.mk.injEq,and_true,true_and]
 exact (un_push J hJ o).symm
omit hJ in
theorem rt_set (r:Nat) {o:Obj} (ho:isBad o=false):({ rt J w T c with heap:=(rt J w T c).heap.setIfInBounds r o }:World)=rt J { w with heap:=w.heap.setIfInBounds r o } T c:=by
 unfold rt
 simp only [World.mk.injEq,and_true,true_and]
 exact (un_set J w.heap r ho).symm
end
def rtF (J:Nat→Option Obj) (x:Except Halt (World×List Addr)) (T:Nat→Question→Nat) (c:Nat):Except Halt (World×List Addr):=match x with
 | .ok (w,l)=>.ok (rt J w T c,l)
 | .error e=>.error e
def rtP (J:Nat→Option Obj) (x:Except String (World×List Addr)) (T:Nat→Question→Nat) (c:Nat):Except String (World×List Addr):=match x with
 | .ok (w,l)=>.ok (rt J w T c,l)
 | .error e=>.error e
section
variable {J:Nat→Option Obj} {w:World} (hJ:JOk J w) (T:Nat→Question→Nat) (c:Nat)
include hJ
theorem rt_viewStore (p:Program) (at_:Addr) (u:TypeId) (k:Addr) (v:Value) (b:Bool) :
   (rt J w T c).viewStore p at_ u k v b=rtP J (w.viewStore p at_ u k v b) T c:=by
 unfold World.viewStore
 rw [rt_seen hJ]
 cases tight p p.depth u with
 | false=>rfl
 | true =>
   simp only [Bool.not_true,Bool.false_eq_true,↓reduceIte]
   cases w.seen p at_ u k b with
   | error e=>rfl
   | ok x =>
     obtain ⟨a1,a2,a3,a4,a5,a6⟩:=x
     dsimp only [bind,Except.bind,pure,Except.pure]
     cases v.bytes? with
     | none=>rfl
     | some bs =>
       dsimp only
       by_cases hb:some bs.length=a5.bytes?.map (·.length)
       · rw [if_neg (fun h=>h hb),if_neg (fun h=>h hb)]
         generalize hfold:(List.foldlM _ _ _:Except String (Array Value))=r
         cases r with
         | error e=>rfl
         | ok r =>
           dsimp only [rtP]
           rw [rt_set T c _ rfl]
       · rw [if_pos hb,if_pos hb]
         rfl
theorem rt_farStore (p:Program) (a:Addr) (v:Value) (b:Bool):(rt J w T c).farStore p a v b=rtF J (w.farStore p a v b) T c:=by
 unfold World.farStore
 rw [rt_noCell hJ]
 rcases hx_of hJ a.block with e | ⟨o,o',e1,e2,h1,h2⟩
 ·rw [show (rt J w T c).heap[a.block]? = w.heap[a.block]? from e]
  split
  ·rw [rt_viewStore hJ]
   cases w.viewStore p _ _ a v b <;> rfl
  ·rfl
 ·rw [show (rt J w T c).heap[a.block]? = some o from e1,e2]
  cases o <;> first | (cases h1;done) | (cases o' <;> first | (cases h2;done) | rfl)
end
def Agree (T:Nat→Question→Nat) (c:Nat) (w:World) (d:Nat):Prop:=∀ j,w.drawn+j < d→∀ q,T (c+j) q=w.tape (w.drawn+j) q
def rtX {α:Type} (J:Nat→Option Obj) (x:Result α×Array Event) (T:Nat→Question→Nat) (c:Nat):Result α×Array Event:=(rtR J x.1 T c,x.2)
end Go.Proofs.Ytoheddpnnjldgaa.Bq
end
namespace Go.Proofs.Ytoheddpnnjldgaa
open Go.RowKit
end Go.Proofs.Ytoheddpnnjldgaa
section
namespace Go.Proofs.Ytoheddpnnjldgaa.Bq
open Go
set_option maxHeartbeats 2000000
def ItemOk:Item→Prop
 | .code c | .inLoop c | .inScope c=>codeOk c=true
 | .inRegion ops _=>ops.all (fun o=>opOk o.op)=true
 | .inBlock _ | .inRangeFunc _ | .endRangeFunc _ | .beginRound=>True
 | _=>False
structure FrOk (fr:Frame):Prop where
 todo:∀ it∈fr.todo,ItemOk it
 defers:∀ d∈fr.defers,tgtOk d.target=true
structure GOk (g:Goroutine):Prop where
 frame:FrOk g.frame
 callers:∀ fr∈g.callers,FrOk fr
def StepOk (dy:Option Dying) (n:Nat):GStep→Prop
 | .go g w es=>GOk g∧HeapOk w∧n≤w.heap.size∧(g.status=.running∨g.status=.finished)∧(g.dying=none→∀ e∈es,EvT w.heap.size e)∧(dy=none→∀ d,g.dying=some d→d.calling=false)
 | .spawn g _ w es | .comm g _ _ _ w es=>(g.dying=dy∧g.status=.running)∧GOk g∧HeapOk w∧n≤w.heap.size∧∀ e∈es,EvT w.heap.size e
 | .ended _ _ _=>True
 | _=>False
theorem seen_sub {p:Program} {fn:FuncId} {es:Array Event}:∀ e∈seen p fn es,e∈es:=by
 unfold seen
 refine Array.foldl_induction (motive:=fun _ (b:Bool×Array Event)=>∀ e∈b.2,e∈es) (fun e he=>by simp at he) ?_
 intro i b hb
 dsimp only
 split
 ·exact hb
 ·split
  ·exact hb
  ·intro e he
   rcases Array.mem_push.1 he with he | rfl
   ·exact hb e he
   ·simp
theorem StepOk.after {dy:Option Dying} {n:Nat} {s:GStep} {w:World} {es:Array Event} (h:StepOk dy w.heap.size s) (hn:n≤w.heap.size) (he:∀ e∈es,EvT w.heap.size e):StepOk dy n (GStep.after es s):=by
 have key:∀ {w':World} {es':Array Event},w.heap.size≤w'.heap.size→(∀ e∈es',EvT w'.heap.size e)→∀ e∈es++es',EvT w'.heap.size e:=fun hs h e hx=>(Array.mem_append.1 hx).elim (fun hx=>EvT.mono hs (he e hx)) (h e)
 cases s with
 | go g w' es'=>exact ⟨h.1,h.2.1,Nat.le_trans hn h.2.2.1,h.2.2.2.1,fun hd=>key h.2.2.1 (h.2.2.2.2.1 hd),h.2.2.2.2.2⟩
 | spawn g c w' es'=>exact ⟨h.1,h.2.1,h.2.2.1,Nat.le_trans hn h.2.2.2.1,key h.2.2.2.1 h.2.2.2.2⟩
 | comm g c b sh w' es'=>exact ⟨h.1,h.2.1,h.2.2.1,Nat.le_trans hn h.2.2.2.1,key h.2.2.2.1 h.2.2.2.2⟩
 | ended o w' es'=>exact trivial
 | _=>exact h
theorem FrOk.finish {fr:Frame} (h:FrOk fr) (v:Value):FrOk (fr.finish v):=by
 unfold Frame.finish
 split
 ·rename_i ops i rest k e
  refine ⟨fun it hi=>?_,h.defers⟩
  rcases List.mem_cons.1 hi with rfl | hi
  ·exact h.todo (.inRegion ops (i::rest)) (by rw [e];exact List.mem_cons_self ..)
  ·exact h.todo it (by rw [e];exact List.mem_cons_of_mem _ hi)
 ·rename_i l k e
  refine ⟨fun it hi=>?_,h.defers⟩
  rcases List.mem_cons.1 hi with rfl | hi
  ·exact trivial
  ·exact h.todo it (by rw [e];exact List.mem_cons_of_mem _ hi)
 ·rename_i k e
  exact ⟨fun it hi=>h.todo it (by rw [e];exact List.mem_cons_of_mem _ hi),h.defers⟩
 ·rename_i d b r s k e
  exact (h.todo (.call d b r s) (by rw [e];exact List.mem_cons_self ..)).elim
 ·rename_i r a k e
  have h9:=h.todo
  rw [e] at h9
  exact (h9 _ (List.mem_cons_self ..)).elim
 ·exact h
theorem FrOk.raise {fr:Frame} (h:FrOk fr) (vs:List PanicEntry):FrOk (fr.raise vs):=by
 unfold Frame.raise
 split <;> exact ⟨h.todo,h.defers⟩
theorem FrOk.enter {P:Program} (hP:FuncsOk P) (f:FuncId) (args:Array Value) (k:CallKind):FrOk (Frame.enter P f args k):=by
 refine ⟨fun it hi=>?_,(fun d hd=>by cases hd)⟩
 rcases List.mem_singleton.1 hi with rfl
 show codeOk _=true
 cases e:P.funcs[f]? with
 | none=>rfl
 | some fn =>
  cases eb:fn.body with
  | none=>simp [eb,codeOk]
  | some c=>simpa [eb] using hP.some_ f fn c e eb
theorem FrOk.round (l:Nat) (f:FuncId) (t:Array Value) {a b:Code} (ha:codeOk a=true) (hb:codeOk b=true) (k:CallKind):FrOk (Frame.round l f t a b k):=by
 refine ⟨fun it hi=>?_,(fun d hd=>by cases hd)⟩
 simp only [Frame.round,List.mem_cons,List.not_mem_nil,or_false] at hi
 rcases hi with rfl | rfl | rfl
 · exact ha
 · exact trivial
 · exact hb
end Go.Proofs.Ytoheddpnnjldgaa.Bq
end
namespace Go.Proofs.Ytoheddpnnjldgaa
open Go.RowKit
end Go.Proofs.Ytoheddpnnjldgaa
section
namespace Go.Proofs.Ytoheddpnnjldgaa.Bq
open Go
set_option maxHeartbeats 4000000
variable {P:Program}
theorem ran_of {α:Type} {Q:α→Prop} {s:Sem α} (h:TameQ P okC Q s) {w:World} (hw:HeapOk w):Ran Q w #[] (s.runT P w #[]):=runT_tame s h w hw #[]
theorem ran_ev {α:Type} {Q:α→Prop} {w:World} {r:Result α×Array Event} (h:Ran Q w #[] r):∀ e∈r.2,EvT (resW r.1).heap.size e:=by
 obtain ⟨es',e1,e2⟩:=h.ev
 rw [e1]
 simpa using e2
theorem recover_ok {fr:Frame}:∀ {cs:List Frame} {v:Value} {cs':List Frame},tryRecover fr cs=some (v,cs')→(∀ f∈cs,FrOk f)→∀ f∈cs',FrOk f:=by
 intro cs
 induction cs generalizing fr with
 | nil=>intro v cs' h;unfold tryRecover at h;cases hk:fr.kind <;> simp [hk] at h
 | cons c cs ih =>
  intro v cs' h hc
  unfold tryRecover at h
  split at h
  ·rename_i caller rest hk e
   cases e
   split at h
   ·rename_i hm
    cases h
    intro f hf
    rcases List.mem_cons.1 hf with rfl | hf
    ·have:=hc c (List.mem_cons_self ..)
     exact ⟨this.todo,this.defers⟩
    ·exact hc f (List.mem_cons_of_mem _ hf)
   ·cases h
  ·rename_i wr rest hk e
   cases e
   rcases Option.map_eq_some_iff.1 h with ⟨⟨v',r'⟩,h1,h2⟩
   cases h2
   intro f hf
   rcases List.mem_cons.1 hf with rfl | hf
   ·exact hc _ (List.mem_cons_self ..)
   ·exact ih h1 (fun f hf=>hc f (List.mem_cons_of_mem _ hf)) f hf
  ·cases h
theorem recoverLoop_ok (l:Nat):∀ {cs:List Frame} {v:Value} {cs':List Frame},tryRecoverLoop l cs=some (v,cs')→(∀ f∈cs,FrOk f)→∀ f∈cs',FrOk f:=by
 intro cs
 induction cs generalizing l with
 | nil=>intro v cs' h;cases h
 | cons c cs ih =>
  intro v cs' h hc
  unfold tryRecoverLoop at h
  rcases Option.map_eq_some_iff.1 h with ⟨⟨v',r'⟩,h1,h2⟩
  cases h2
  have hr:∀ f∈cs,FrOk f:=fun f hf=>hc f (List.mem_cons_of_mem _ hf)
  intro f hf
  rcases List.mem_cons.1 hf with rfl | hf
  ·exact hc _ (List.mem_cons_self ..)
  ·split at h1
   ·exact ih _ h1 hr f hf
   ·split at h1
    ·exact recover_ok h1 hr f hf
    ·exact ih _ h1 hr f hf
   ·exact ih _ h1 hr f hf
theorem StepOk.go {dy:Option Dying} {n:Nat} {g:Goroutine} {w:World} (hg:GOk g) (hw:HeapOk w) (hn:n≤w.heap.size) (hs:g.status=.running∨g.status=.finished:=by first | exact Or.inl rfl | exact Or.inr rfl) (hcal:dy=none→∀ d,g.dying=some d→d.calling=false:=by first | exact fun e d h=>by (first | (cases h;done) | (subst e;cases h))):StepOk dy n (.go g w):=⟨hg,hw,hn,hs,(fun _ e he=>by simp at he),hcal⟩
theorem dieOf_ok {dy:Option Dying} {fr:Frame} {a:List ByteArray} {m:String} {b:Bool} {w:World} {n:Nat} (hf:FrOk fr) (hw:HeapOk w) (hn:n≤w.heap.size):StepOk dy n (dieOf fr a m b w):=⟨⟨hf,fun f h=>by cases h⟩,hw,hn,.inl rfl,(fun h=>by cases h),(fun _ d h=>by cases h;rfl)⟩
theorem throw_ok {dy:Option Dying} {fr:Frame} {m:String} {w:World} {n:Nat} (hf:FrOk fr) (hw:HeapOk w) (hn:n≤w.heap.size):StepOk dy n (endThrow fr m w):=dieOf_ok hf hw hn
theorem t_reportChain:∀ (l:List PanicEntry) (b:Bool),Tame P okC (reportChain l b)
 | [],_=>trivial
 | e::older,b=>by
  have ih:∀ b,TameC P okC (reportChain older b):=fun b=>⟨t_reportChain older b⟩
  unfold reportChain
  refine Tame.ite ?_ ?_
  ·refine Tame.ite (Eq.refl true) (TameC.h)
  ·dsimp only
   all_goals exact tame_h
theorem run_ok {α:Type} {s:Sem α} {a:α} {w w':World} (hr:s.run P w=.ok a w') (ht:Tame P okC s) (hw:HeapOk w):HeapOk w'∧w.heap.size≤w'.heap.size:=by
 have h:=ran_of ht hw
 have e:(s.runT P w #[]).1=.ok a w':=by rw [Sem.runT_fst];exact hr
 have h1:=h.heap
 have h2:=h.size
 rw [e] at h1 h2
 exact ⟨h1,h2⟩
instance i_wa (s:ByteArray):TameC P okC (withAddress s):=⟨by unfold withAddress;all_goals exact tame_h⟩
theorem fatal_ok {fr:Frame} {cs:List Frame} {dy:Option Dying} {m:String} {w:World} {n:Nat} (hf:FrOk fr) (hw:HeapOk w) (hn:n≤w.heap.size):StepOk dy n (endFatal P fr cs dy m w):=by
 have hraw:∀ vs:List (Value×String),Tame P okC (vs.mapM fun (x:Value×String)=>(match panicText P true x.1 with
  | .text s=>pure (s,x.2)
  | .address s=>do pure (← withAddress s,x.2)
  | _ => unsupported (.noEntry "a fatal error during a panic whose value the report cannot show") : Sem (ByteArray × String))) := fun vs => Tame.mapML (fun x => by split <;> all_goals exact tame_h) vs
 unfold endFatal
 dsimp only
 split
 ·rename_i texts tabs w' hr
  have h:=run_ok hr (by
   split
   ·exact trivial
   ·refine Tame.bind' (t_reportChain _ _) fun _=>?_
    exact Tame.bind' (hraw _) fun _=>trivial
   ·exact Tame.bind' (hraw _) fun _=>trivial
   ·exact Eq.refl true) hw
  exact dieOf_ok hf h.1 (Nat.le_trans hn h.2)
 ·exact trivial
 ·exact trivial
theorem choose_heap {q:Question} {w w':World} {a:Nat} (h:(choose q).run P w=.ok a w'):w'.heap=w.heap:=by
 unfold choose at h
 simp only [Sem.run] at h
 split at h <;> cases h <;> rfl
theorem early_ok (hP:FuncsOk P) {fr:Frame} {cs:List Frame} {dy:Option Dying} {g:Nat} {w:World} {n:Nat} (hf:FrOk fr) (hc:∀ f∈cs,FrOk f) (hw:HeapOk w) (hn:n≤w.heap.size):StepOk dy n (early P fr cs dy g w):=by
 have hnot : ∀ w : World, HeapOk w → n ≤ w.heap.size → StepOk dy n (match w.heap[g]? with
     | some (.pending c elem)=>.go { frame:=fr,callers:=cs,status:=.running,dying:=dy } { w with heap:=w.heap.setIfInBounds g (.cells c elem) }
     | _ => .ended (.stuck "early: the variable does not wait" (fr.pos P)) w) := by
   intro w hw hn
   split
   · exact StepOk.go ⟨hf,hc⟩ (heapOk_set hw trivial) (by simpa using hn)
   · exact trivial
 have hthere:∀ (f:FuncId) (fs:List FuncId) (w:World),HeapOk w→n≤w.heap.size→StepOk dy n (.go { frame:=Frame.enter P f #[] .early,callers:=fs.map (Frame.enter P · #[] .early)++fr::cs,status:=.running,dying:=dy } w):=by
   intro f fs w hw hn
   refine StepOk.go ⟨FrOk.enter hP f #[] _,fun x hx=>?_⟩ hw hn
   rcases List.mem_append.1 hx with hx | hx
   · rcases List.mem_map.1 hx with ⟨y,_,rfl⟩
     exact FrOk.enter hP y #[] _
   · exact (List.mem_cons.1 hx).elim (fun e=>e ▸ hf) (hc x)
 unfold early
 dsimp only
 split
 · exact hnot w hw hn
 · split
   · exact trivial
   · split
     · exact hnot w hw hn
     · split
       · exact hnot w hw hn
       · split
         · exact trivial
         · exact hthere _ _ w hw hn
         · exact trivial
         · exact hnot w hw hn
         · split
           · exact hthere _ _ w hw hn
           · split
             · exact hnot w hw hn
             · split
               · rename_i w' hr
                 have e:=choose_heap hr
                 exact hnot w' (fun b o ho=>hw b o (by rwa [e] at ho)) (by rwa [e])
               · rename_i w' _ hr
                 have e:=choose_heap hr
                 exact hthere _ _ w' (fun b o ho=>hw b o (by rwa [e] at ho)) (by rwa [e])
               · exact trivial
theorem apply_ok (hP:FuncsOk P) {fr:Frame} {cs:List Frame} {dy:Option Dying} (hf:FrOk fr) (hc:∀ f∈cs,FrOk f) {s:Sem Next} (hs:TameQ P okC nextOk s) {w:World} (hw:HeapOk w) :
  StepOk dy w.heap.size (stepG.apply P true fr cs dy s w):=by
 have hr:=ran_of hs hw
 have hev:=ran_ev hr
 unfold stepG.apply
 simp only [if_true]
 generalize s.runT P w #[]=r at hr hev
 obtain ⟨r,es⟩:=r
 dsimp only at hr hev ⊢
 refine StepOk.after (w:=resW r) ?_ hr.size fun e hx=>hev e ?_
 rotate_left
 ·have hx:=seen_sub e hx
  split at hx
  ·simp at hx
  ·split at hx <;> first | exact hx | simp at hx
 cases r with
 | ok nx w' =>
  have hq:=hr.res nx w' rfl
  have hw':HeapOk w':=hr.heap
  have hrefl:w'.heap.size≤w'.heap.size:=Nat.le_refl _
  cases nx with
  | value v=>exact StepOk.go ⟨hf.finish v,hc⟩ hw' hrefl
  | skip=>exact StepOk.go ⟨hf.finish _,hc⟩ hw' hrefl
  | enter f args=>exact StepOk.go ⟨FrOk.enter hP f args _,fun x hx=>(List.mem_cons.1 hx).elim (fun e=>e ▸ hf) (hc x)⟩ hw' hrefl
  | round l f t a b=>exact StepOk.go ⟨FrOk.round l f t hq.1 hq.2 _,fun x hx=>(List.mem_cons.1 hx).elim (fun e=>e ▸ hf) (hc x)⟩ hw' hrefl
  | defer d =>
   have:FrOk { fr with defers:=d::fr.defers }:=⟨hf.todo,fun x hx=>(List.mem_cons.1 hx).elim (fun e=>e ▸ hq) (hf.defers x)⟩
   exact StepOk.go ⟨this.finish _,hc⟩ hw' hrefl
  | recover =>
   dsimp only
   split
   ·rename_i v cs' e
    refine StepOk.go ⟨hf.finish _,?_⟩ hw' hrefl
    split at e
    ·split at e
     ·exact recover_ok e hc
     ·exact recoverLoop_ok _ e hc
    ·exact recover_ok e hc
   ·exact StepOk.go ⟨hf.finish _,hc⟩ hw' hrefl
  | spawn d =>
   have hsp:∀ child,StepOk dy w'.heap.size (.spawn { frame:=fr.finish undef,callers:=cs,status:=.running,dying:=dy } child w'):=fun _=>⟨⟨rfl,rfl⟩,⟨hf.finish _,hc⟩,hw',hrefl,fun e he=>by simp at he⟩
   dsimp only
   split <;> split <;> first | exact throw_ok hf hw' hrefl | exact hsp _
  | comm cs b sh=>exact ⟨⟨rfl,rfl⟩,⟨hf,hc⟩,hw',hrefl,fun e he=>by simp at he⟩
  | _=>exact hq.elim
 | halt h w' =>
  have hw':HeapOk w':=hr.heap
  have hrefl:w'.heap.size≤w'.heap.size:=Nat.le_refl _
  cases h with
  | panic v=>exact StepOk.go ⟨hf.raise _,hc⟩ hw' hrefl
  | goexit=>exact StepOk.go ⟨hf.raise _,hc⟩ hw' hrefl
  | blocked=>exact absurd (hr.hlt _ _ rfl) (by decide)
  | waiting=>exact absurd (hr.hlt _ _ rfl) (by decide)
  | unsupported u =>
   cases u with
   | initOrder g=>exact early_ok hP hf hc hw' hrefl
   | _=>exact trivial
  | fatal m=>exact fatal_ok hf hw' hrefl
  | throw m=>exact throw_ok hf hw' hrefl
  | _=>exact trivial
end Go.Proofs.Ytoheddpnnjldgaa.Bq
end
namespace Go.Proofs.Ytoheddpnnjldgaa
open Go.RowKit
end Go.Proofs.Ytoheddpnnjldgaa
section
namespace Go.Proofs.Ytoheddpnnjldgaa.Bq
open Go
set_option maxHeartbeats 4000000
variable {P:Program}
theorem findLabel_ok (l:Nat):∀ {c r:Code},codeOk c=true→findLabel c l=some r→codeOk r=true:=by
 intro c
 induction c with
 | seq a b iha ihb =>
  intro r hc h
  simp only [codeOk,Bool.and_eq_true] at hc
  unfold findLabel at h
  split at h
  ·rename_i x hx
   cases h
   simp only [codeOk,Bool.and_eq_true]
   exact ⟨iha hc.1 hx,hc.2⟩
  ·exact ihb hc.2 h
 | label l' =>
  intro r hc h
  unfold findLabel at h
  split at h <;> cases h
  rfl
 | _=>intro r hc h;simp [findLabel] at h
theorem exitTo_sub (id:Nat):∀ {k k':List Item},exitTo id k=some k'→∀ it∈k',it∈k:=by
 intro k
 induction k with
 | nil=>intro k' h;simp [exitTo] at h
 | cons a k ih =>
  intro k' h it hi
  unfold exitTo at h
  split at h
  ·rename_i e
   cases e
   split at h
   ·cases h;exact List.mem_cons_of_mem _ hi
   ·exact List.mem_cons_of_mem _ (ih h it hi)
  ·rename_i e
   cases e
   exact List.mem_cons_of_mem _ (ih h it hi)
  ·rename_i e;cases e
theorem gotoIn_ok (l:Nat):∀ {k k':List Item},(∀ it∈k,ItemOk it)→gotoIn l k=some k'→∀ it∈k',ItemOk it:=by
 intro k
 induction k with
 | nil=>intro k' hk h;simp [gotoIn] at h
 | cons a k ih =>
  intro k' hk h
  have hk':∀ it∈k,ItemOk it:=fun it hi=>hk it (List.mem_cons_of_mem _ hi)
  unfold gotoIn at h
  split at h
  ·rename_i body k2 e
   cases e
   have hb:codeOk body=true:=hk (.inScope body) (List.mem_cons_self ..)
   split at h
   ·rename_i r hr
    cases h
    intro it hi
    rcases List.mem_cons.1 hi with rfl | hi
    ·exact findLabel_ok l hb hr
    ·rcases List.mem_cons.1 hi with rfl | hi
     ·exact hb
     ·exact hk' it hi
   ·exact ih hk' h
  ·rename_i e
   cases e
   exact ih hk' h
  ·rename_i e;cases e
theorem doReturn_ok (hP:FuncsOk P) {main:Bool} {fr:Frame} {cs:List Frame} {dy:Option Dying} {v:Value} {w:World} (hf:FrOk fr) (hc:∀ f∈cs,FrOk f) (hw:HeapOk w):StepOk dy w.heap.size (doReturn P main fr cs dy v w):=by
 have hrefl:w.heap.size≤w.heap.size:=Nat.le_refl _
 unfold doReturn
 cases cs with
 | cons c rest =>
  have h1:FrOk c:=hc c (List.mem_cons_self ..)
  have h2:∀ f∈rest,FrOk f:=fun f hf=>hc f (List.mem_cons_of_mem _ hf)
  dsimp only
  split
  ·exact StepOk.go ⟨h1.finish v,h2⟩ hw hrefl
  ·exact StepOk.go ⟨h1.finish v,h2⟩ hw hrefl
  ·exact StepOk.go ⟨h1,h2⟩ hw hrefl
  ·refine StepOk.go ⟨?_,h2⟩ hw hrefl
   dsimp only
   split
   ·split <;> exact ⟨h1.todo,h1.defers⟩
   ·exact h1
 | nil =>
  dsimp only
  split
  ·exact ⟨⟨hf,hc⟩,hw,hrefl,.inl rfl,(fun h=>by cases h),(fun _ d h=>by cases h;rfl)⟩
  ·exact trivial
  ·split
   ·exact StepOk.go ⟨hf,hc⟩ hw hrefl
   ·split
    ·exact StepOk.go ⟨FrOk.enter hP _ _ _,fun f hf=>by cases hf⟩ hw hrefl
    ·exact trivial
theorem stepOk_ite {dy:Option Dying} {n:Nat} {c:Prop} [Decidable c] {a b:GStep} (ha:StepOk dy n a) (hb:StepOk dy n b):StepOk dy n (if c then a else b):=by split <;> assumption
theorem callDeferred_ok (hP:FuncsOk P) {fr:Frame} {cs:List Frame} {dy:Option Dying} {d:Deferred} (hd:tgtOk d.target=true) {w:World} (hf:FrOk fr) (hc:∀ f∈cs,FrOk f) (hw:HeapOk w):StepOk dy w.heap.size (callDeferred P fr cs dy d w):=by
 unfold callDeferred
 refine stepOk_ite ?_ ?_
 ·exact trivial
 ·have hr:=ran_of (q_invoke hP d.target hd d.args) hw
  have hev:=ran_ev hr
  dsimp only
  generalize (invoke d.target d.args).runT P w #[]=r at hr hev
  obtain ⟨r,es⟩:=r
  dsimp only at hr hev ⊢
  refine StepOk.after (w:=resW r) ?_ hr.size fun e hx=>hev e ?_
  rotate_left
  ·have hx:=seen_sub e hx
   split at hx <;> first | exact hx | simp at hx
  cases r with
  | ok nx w' =>
   have hq:=hr.res nx w' rfl
   have hw':HeapOk w':=hr.heap
   have hrefl:w'.heap.size≤w'.heap.size:=Nat.le_refl _
   have hcs:∀ f∈fr::cs,FrOk f:=fun x hx=>(List.mem_cons.1 hx).elim (fun e=>e ▸ hf) (hc x)
   cases nx with
   | enter f args=>exact StepOk.go ⟨FrOk.enter hP f args _,hcs⟩ hw' hrefl
   | round l f t a b=>exact StepOk.go ⟨FrOk.round l f t hq.1 hq.2 _,hcs⟩ hw' hrefl
   | recover =>
    dsimp only
    split
    ·rename_i e
     exact StepOk.go ⟨hf,recover_ok e hc⟩ hw' hrefl
    ·exact StepOk.go ⟨hf,hc⟩ hw' hrefl
   | value v=>exact StepOk.go ⟨hf,hc⟩ hw' hrefl
   | skip=>exact StepOk.go ⟨hf,hc⟩ hw' hrefl
   | defer d=>exact StepOk.go ⟨hf,hc⟩ hw' hrefl
   | spawn d=>exact StepOk.go ⟨hf,hc⟩ hw' hrefl
   | comm a b c=>exact StepOk.go ⟨hf,hc⟩ hw' hrefl
   | _=>exact hq.elim
  | halt h w' =>
   have hw':HeapOk w':=hr.heap
   have hrefl:w'.heap.size≤w'.heap.size:=Nat.le_refl _
   have hfd:FrOk { fr with defers:=d::fr.defers }:=⟨hf.todo,fun x hx=>(List.mem_cons.1 hx).elim (fun e=>e ▸ hd) (hf.defers x)⟩
   cases h with
   | panic v=>exact StepOk.go ⟨hf.raise _,hc⟩ hw' hrefl
   | goexit=>exact StepOk.go ⟨hf.raise _,hc⟩ hw' hrefl
   | blocked=>exact absurd (hr.hlt _ _ rfl) (by decide)
   | waiting=>exact absurd (hr.hlt _ _ rfl) (by decide)
   | fatal m=>exact fatal_ok hf hw' hrefl
   | throw m=>exact throw_ok hf hw' hrefl
   | _=>exact trivial
theorem t_results (fn:Func) (t:Array Value):Tame P okC (results fn t):=by
 unfold results
 refine TameQ.bindT (Tame.mapMA (fun x=>?_) _) fun _=>trivial
 all_goals exact tame_h
theorem unwind_ok (hP:FuncsOk P) {main:Bool} {fr:Frame} {cs:List Frame} {dy:Option Dying} {w:World} (hf:FrOk fr) (hc:∀ f∈cs,FrOk f) (hw:HeapOk w):StepOk dy w.heap.size (unwind P main fr cs dy w):=by
 unfold unwind
 split
 ·rename_i block args ds e
  have hr:=ran_of (q_take (P:=P) block) hw
  have hev:=ran_ev hr
  dsimp only
  generalize (Instr.takeDeferred block).runT P w #[]=r at hr hev
  obtain ⟨r,es⟩:=r
  dsimp only at hr hev ⊢
  refine StepOk.after (w:=resW r) ?_ hr.size fun e hx=>hev e (seen_sub e hx)
  cases r with
  | ok calls w' =>
   refine StepOk.go ⟨⟨hf.todo,fun x hx=>?_⟩,hc⟩ hr.heap (Nat.le_refl _)
   rcases List.mem_append.1 hx with hx | hx
   ·exact hr.res calls w' rfl x hx
   ·exact hf.defers x (by rw [e];exact List.mem_cons_of_mem _ hx)
  | halt h w'=>exact trivial
 ·rename_i d ds _ e
  exact callDeferred_ok hP (hf.defers d (by rw [e];exact List.mem_cons_self ..)) ⟨hf.todo,fun x hx=>hf.defers x (by rw [e];exact List.mem_cons_of_mem _ hx)⟩ hc hw
 ·split
  ·exact trivial
  ·split
   ·exact trivial
   ·split
    ·rename_i c rest
     exact StepOk.go ⟨(hc c (List.mem_cons_self ..)).raise _,fun f hf=>hc f (List.mem_cons_of_mem _ hf)⟩ hw (Nat.le_refl _)
    ·cases dy with
     | none =>
      dsimp only
      split
      ·exact StepOk.go ⟨hf,fun f hf=>by cases hf⟩ hw (Nat.le_refl _)
      ·split
       ·rename_i todo w' hr
        have h:=run_ok hr (t_reportChain _ _) hw
        exact ⟨⟨hf,fun f h=>by cases h⟩,h.1,h.2,.inl rfl,(fun h=>by cases h),(fun _ d h=>by cases h;rfl)⟩
       ·exact trivial
       ·exact trivial
     | some d =>
      dsimp only
      split
      ·unfold endPrinting
       dsimp only
       split
       ·exact dieOf_ok hf hw (Nat.le_refl _)
       ·exact trivial
      ·exact trivial
  ·split
   ·exact doReturn_ok hP hf hc hw
   ·rename_i fn e
    have hr:=ran_of (t_results (P:=P) fn fr.tmps) hw
    have hev:=ran_ev hr
    dsimp only
    generalize (results fn fr.tmps).runT P w #[]=r at hr hev
    obtain ⟨r,es⟩:=r
    dsimp only at hr hev ⊢
    refine StepOk.after (w:=resW r) ?_ hr.size fun e hx=>hev e (seen_sub e hx)
    cases r with
    | ok v w'=>exact doReturn_ok hP hf hc hr.heap
    | halt h w'=>cases h <;> exact trivial
end Go.Proofs.Ytoheddpnnjldgaa.Bq
end
namespace Go.Proofs.Ytoheddpnnjldgaa
open Go.RowKit
end Go.Proofs.Ytoheddpnnjldgaa
section
namespace Go.Proofs.Ytoheddpnnjldgaa.Bq
open Go
set_option maxHeartbeats 4000000
variable {P:Program}
theorem leave_ok (hP:FuncsOk P) {main:Bool} {fr:Frame} {cs:List Frame} {dy:Option Dying} {w:World} (hf:FrOk fr) (hc:∀ f∈cs,FrOk f) (hw:HeapOk w) (b:Bool) (j:Option Code) (hj:∀ c,j=some c→codeOk c=true) :
  StepOk dy w.heap.size (match fr.roundOf with
   | none => if b = true then .go { frame := { fr with mode := .returning }, callers := cs, status := .running, dying := dy } w else .ended (.stuck "exit, goto: no such block or label" (fr.pos P)) w
   | some l =>
    GStep.after (seen P fr.fn ((Instr.endRound l j).runT P w #[]).2) (match ((Instr.endRound l j).runT P w #[]).1 with
    | .ok v w=>doReturn P main fr cs dy v w
    | .halt _ w => .ended (.stuck "range over a function: no such loop" (fr.pos P)) w)) := by
 split
 ·split
  ·exact StepOk.go ⟨⟨hf.todo,hf.defers⟩,hc⟩ hw (Nat.le_refl _)
  ·exact trivial
 ·rename_i l e
  have hr:=ran_of (q_end (P:=P) l j hj) hw
  have hev:=ran_ev hr
  generalize (Instr.endRound l j).runT P w #[]=r at hr hev ⊢
  obtain ⟨r,es⟩:=r
  dsimp only at hr hev ⊢
  refine StepOk.after (w:=resW r) ?_ hr.size fun e hx=>hev e (seen_sub e hx)
  cases r with
  | ok v w'=>exact doReturn_ok hP hf hc hr.heap
  | halt h w'=>exact trivial
theorem oper_ok (hP:FuncsOk P) {fr:Frame} {cs:List Frame} {dy:Option Dying} {w:World} (hf:FrOk fr) (hc:∀ f∈cs,FrOk f) (hw:HeapOk w):StepOk dy w.heap.size (stepG.oper P true fr cs dy w):=by
 unfold stepG.oper
 split
 ·exact trivial
 ·rename_i o e
  have ho:opOk o.op=true:=by
   unfold Frame.oper? at e
   split at e
   ·rename_i ops i t k et
    have:=hf.todo (.inRegion ops (i::t)) (by rw [et];exact List.mem_cons_self ..)
    obtain ⟨hi,rfl⟩:=Array.getElem?_eq_some_iff.1 e
    exact (Array.all_eq_true.1 this) i hi
   ·cases e
  split
  ·rename_i l c hl he
   rw [he] at ho
   exact apply_ok hP hf hc (TameQ.bind' (q_resolve _ c _ ho) fun d hd=>q_u (q_dir l d hd)) hw
  ·exact apply_ok hP hf hc (q_exec hP _ o ho) hw
theorem exec_ok (hP:FuncsOk P) {main:Bool} {fr:Frame} {cs:List Frame} {dy:Option Dying} {w:World} (hf:FrOk fr) (hc:∀ f∈cs,FrOk f) (hw:HeapOk w):StepOk dy w.heap.size (stepG.exec P main true fr cs dy w):=by
 have hrefl:w.heap.size≤w.heap.size:=Nat.le_refl _
 have hto:∀ td:List Item,(∀ it∈td,ItemOk it)→StepOk dy w.heap.size (.go { frame:={ fr with todo:=td },callers:=cs,status:=.running,dying:=dy } w):=fun td h=>StepOk.go ⟨⟨h,hf.defers⟩,hc⟩ hw hrefl
 unfold stepG.exec
 have ht:=hf.todo
 obtain ⟨fn,tmps,todo,defers,mode,kind,ro⟩:=fr
 dsimp only at ht
 cases todo with
 | nil=>exact leave_ok hP hf hc hw true none (fun c h=>by cases h)
 | cons it k =>
  have hi:ItemOk it:=ht it (List.mem_cons_self ..)
  have hk:∀ it∈k,ItemOk it:=fun it h=>ht it (List.mem_cons_of_mem _ h)
  have c1:∀ {a:Item},ItemOk a→∀ it∈a::k,ItemOk it:=fun ha it h=>(List.mem_cons.1 h).elim (fun e=>e ▸ ha) (hk it)
  have c2:∀ {a b:Item},ItemOk a→ItemOk b→∀ it∈a::b::k,ItemOk it:=fun ha hb it h=>(List.mem_cons.1 h).elim (fun e=>e ▸ ha) (c1 hb it)
  cases it with
  | inBlock id=>exact hto k hk
  | inScope b=>exact hto k hk
  | inLoop b=>exact hto _ (c2 (show codeOk b=true from hi) (show codeOk b=true from hi))
  | inRangeFunc l=>exact trivial
  | beginRound =>
   refine apply_ok hP hf hc ?_ hw
   refine TameQ.bindT ?_ fun _=>trivial
   cases ro with
   | none=>exact (Eq.refl true)
   | some l=>exact q_begin l
  | endRangeFunc l =>
   have hr:=ran_of (q_endLoop (P:=P) l) hw
   have hev:=ran_ev hr
   dsimp only
   generalize (Instr.endLoop l).runT P w #[]=r at hr hev
   obtain ⟨r,es⟩:=r
   dsimp only at hr hev ⊢
   refine StepOk.after (w:=resW r) ?_ hr.size fun e hx=>hev e (seen_sub e hx)
   cases r with
   | ok j w' =>
    refine StepOk.go ⟨⟨fun it h=>?_,hf.defers⟩,hc⟩ hr.heap (Nat.le_refl _)
    rcases List.mem_append.1 h with h | h
    ·cases j with
     | none=>cases h
     | some c =>
      rcases List.mem_singleton.1 h with rfl
      exact hr.res _ w' rfl c rfl
    ·exact hk it h
   | halt h w' =>
    cases h with
    | panic v=>exact StepOk.go ⟨hf.raise _,hc⟩ hr.heap (Nat.le_refl _)
    | _=>exact trivial
  | inRegion ops t =>
   cases t with
   | nil=>exact hto k hk
   | cons i t =>
    refine stepOk_ite (oper_ok hP hf hc hw) ?_
    exact StepOk.go ⟨hf.finish _,hc⟩ hw hrefl
  | code c =>
   cases c with
   | ret=>exact leave_ok hP hf hc hw true (some .ret) (fun c h=>by cases h;rfl)
   | skip=>exact hto k hk
   | label l=>exact hto k hk
   | seq a b =>
    have h:codeOk a=true∧codeOk b=true:=by simpa [ItemOk,codeOk] using hi
    exact hto _ (c2 h.1 h.2)
   | cond c a b =>
    have h:codeOk a=true∧codeOk b=true:=by simpa [ItemOk,codeOk] using hi
    dsimp only
    split
    ·rename_i b' _
     have hb:codeOk (if b'=true then a else b)=true:=by
      cases b'
      ·exact h.2
      ·exact h.1
     exact hto _ (c1 (a:=.code (if b'=true then a else b)) hb)
    ·exact trivial
   | block id b=>exact hto _ (c2 (show codeOk b=true from hi) (show ItemOk (.inBlock id) from trivial))
   | loop b=>exact hto _ (c2 (show codeOk b=true from hi) (show codeOk b=true from hi))
   | scope b=>exact hto _ (c2 (show codeOk b=true from hi) (show codeOk b=true from hi))
   | exit id =>
    dsimp only
    cases he:exitTo id k with
    | none=>exact leave_ok hP hf hc hw false (some (.exit id)) (fun c h=>by cases h;rfl)
    | some k'=>exact hto k' fun it h=>hk it (exitTo_sub id he it h)
   | goto l =>
    dsimp only
    cases he:gotoIn l k with
    | none=>exact leave_ok hP hf hc hw false (some (.goto l)) (fun c h=>by cases h;rfl)
    | some k'=>exact hto k' (gotoIn_ok l hk he)
   | rangeFunc f ps a b =>
    have h:codeOk a=true∧codeOk b=true:=by simpa [ItemOk,codeOk] using hi
    have hr:=ran_of (q_enter (P:=P) fn tmps ps a b h.1 h.2 ro) hw
    have hev:=ran_ev hr
    dsimp only
    generalize (Instr.enterLoop fn tmps ps a b ro).runT P w #[]=r at hr hev
    obtain ⟨r,es⟩:=r
    dsimp only at hr hev ⊢
    refine StepOk.after (w:=resW r) ?_ hr.size fun e hx=>hev e (seen_sub e hx)
    cases r with
    | ok x w' =>
     obtain ⟨l,mk⟩:=x
     have hm:=hr.res _ w' rfl
     dsimp only
     refine apply_ok hP (w:=w') ⟨c1 (show ItemOk (.inRangeFunc l) from trivial),fun d hd=>?_⟩ hc ?_ hr.heap
     ·rcases List.mem_append.1 hd with hd | hd
      ·exact hm d hd
      ·exact hf.defers d hd
     ·exact TameQ.bind' (q_resolve _ _ _ rfl) fun d hd=>q_invoke hP _ hd _
    | halt h w'=>exact trivial
   | refuse why=>exact trivial
   | region id ops draw =>
    dsimp only
    refine stepOk_ite (hto _ (c1 (show ItemOk (.inRegion ops _) from hi))) ?_
    split
    ·rename_i t w' hr
     have e':=choose_heap hr
     refine StepOk.go ⟨⟨c1 (show ItemOk (.inRegion ops _) from hi),hf.defers⟩,hc⟩ (fun b o ho=>hw b o (by rwa [e'] at ho)) (by rw [e'];exact hrefl)
    ·exact trivial
  | _=>exact hi.elim
theorem writeOn_ok {fr:Frame} {d:Dying} {f:Fatal} {w:World}:∀ s,s=writeOn P fr d f w→(∃ o w' es,s=.ended o w' es)∨∃ st w' es f',(st=.running∨st=.blocked)∧s=.go { frame:=fr,callers:=[],status:=st,dying:=some { d with fatal:=some f' } } w' es:=by
 intro s e
 unfold writeOn at e
 dsimp only at e
 split at e
 ·exact .inl ⟨_,_,_,e⟩
 ·split at e
  ·exact .inr ⟨_,_,_,_,.inl rfl,e⟩
  ·exact .inr ⟨_,_,_,_,.inr rfl,e⟩
  ·exact .inl ⟨_,_,_,e⟩
  ·exact .inl ⟨_,_,_,e⟩
theorem stepG_ok (hP:FuncsOk P) {main:Bool} {g:Goroutine} {w:World} (hg:GOk g) (hd:∀ d,g.dying=some d→d.calling=true) (hw:HeapOk w):StepOk g.dying w.heap.size (stepG P main g w):=by
 obtain ⟨fr,cs,st,dy,of⟩:=g
 have h1:∀ d,dy=some d→d.calling=true:=hd
 have hf:FrOk fr:=hg.frame
 have hc:∀ f∈cs,FrOk f:=hg.callers
 unfold stepG
 cases dy with
 | none =>
  dsimp only
  cases hm:fr.mode with
  | run=>exact exec_ok hP hf hc hw
  | _=>exact unwind_ok hP hf hc hw
 | some d =>
  obtain ⟨todo,texts,calling,pending,re,hand,fatal⟩:=d
  have:calling=true:=h1 _ rfl
  subst this
  dsimp only
  cases hm:fr.mode with
  | run=>exact exec_ok hP hf hc hw
  | _=>exact unwind_ok hP hf hc hw
end Go.Proofs.Ytoheddpnnjldgaa.Bq
end
namespace Go.Proofs.Ytoheddpnnjldgaa
open Go.RowKit
end Go.Proofs.Ytoheddpnnjldgaa
section
namespace Go.Proofs.Ytoheddpnnjldgaa.Bq
open Go
set_option maxHeartbeats 2000000
theorem env_done (os:Os):∃ r,Kernel.perform .env os=.done r:=⟨_,rfl⟩
theorem env_rt (J:Nat→Option Obj) (w:World) (T:Nat→Question→Nat) (c:Nat):(rt J w T c).sys .env=((w.sys .env).1,rt J (w.sys .env).2 T c)∧(w.sys .env).2.drawn=w.drawn∧(w.sys .env).2.tape=w.tape∧(w.sys .env).2.heap=w.heap:=by
 obtain ⟨⟨r,os⟩,hr⟩:=env_done w.os
 have hr':Kernel.perform .env (rt J w T c).os=.done (r,os):=hr
 unfold World.sys
 rw [hr,hr']
 unfold World.ask
 cases r <;> exact ⟨rfl,rfl,rfl,rfl⟩
theorem freeze_heapOk {w:World} (hw:HeapOk w) {a:Addr} {n:Nat}:HeapOk (w.freeze a n):=by
 unfold World.freeze
 split
 ·exact hw
 ·refine heapOk_modify hw fun o ho=>?_
  split
  ·exact .inl trivial
  ·exact ho
theorem setCell_heapOk {w:World} (hw:HeapOk w) {a:Addr} {v:Value}:HeapOk (w.setCell a v):=by
 unfold World.setCell
 refine heapOk_modify hw fun o ho=>?_
 split
 · exact .inl trivial
 · exact ho
theorem far_heapOk {p:Program} {w w':World} (hw:HeapOk w) {a:Addr} {b:Bool} {v:Value} {l:List Addr} (h:w.farStore p a v b=.ok (w',l)):HeapOk w':=by
 obtain ⟨_,g,c,e,f,h2⟩:=farStore_low h
 exact fun b o ho=>heapOk_set hw (r:=g) (o:=.cells c e f) trivial b o (by show (w.heap.setIfInBounds g _)[b]? = _;rw [← h2];exact ho)
def Fine {α:Type} (r:Result α):Prop:=∀ s w',r≠.halt (.stuck s) w'
theorem okC_notBad {o:Obj} (h:okC o):isBad o=false:=by
 cases o <;> first | rfl | exact h.elim
theorem size_setCell (w:World) (a:Addr) (v:Value):(w.setCell a v).heap.size=w.heap.size:=by unfold World.setCell;simp
theorem size_freeze (w:World) (a:Addr) (n:Nat):(w.freeze a n).heap.size=w.heap.size:=by
 unfold World.freeze
 split
 · rfl
 · simp
theorem size_far {p:Program} {w w':World} {a:Addr} {b:Bool} {v:Value} {l:List Addr} (h:w.farStore p a v b=.ok (w',l)):w'.heap.size=w.heap.size:=by
 obtain ⟨_,g,c,e,f,h2⟩:=farStore_low h
 rw [h2];simp
theorem rt_tame {α:Type} {p:Program} {Q:α→Prop} {J:Nat→Option Obj}:∀ (m:Sem α),TameQ p okC Q m→∀ (w:World),HeapOk w→JOk J w→∀ (es:Array Event) (T:Nat→Question→Nat) (c:Nat),Agree T c w (resW (m.runT p w es).1).drawn→Fine (m.runT p w es).1 →
   m.runT p (rt J w T c) es=rtX J (m.runT p w es) T (c+((resW (m.runT p w es).1).drawn - w.drawn))
 | .pure a,_,w,_,_,es,T,c,_,_=>by
   show (Result.ok a (rt J w T c),es)=(Result.ok a (rt J w T (c+(w.drawn - w.drawn))),es)
   rw [Nat.sub_self];rfl
 | .halt h,_,w,_,_,es,T,c,_,_=>by
   show (Result.halt h (rt J w T c),es)=(Result.halt h (rt J w T (c+(w.drawn - w.drawn))),es)
   rw [Nat.sub_self];rfl
 | .load m a k,hs,w,hw,hJ,es,T,c,h,hf=>by
   unfold Sem.runT at h hf ⊢
   rw [rt_cell hJ,rt_farLoad hJ]
   cases hc:w.cell? a with
   | some v=>rw [hc] at h hf;exact rt_tame (k v) (hs v) w hw hJ _ T c h hf
   | none =>
     rw [hc] at h hf
     dsimp only at h hf ⊢
     cases hfl:w.farLoad p a (m == .atomic) with
     | ok x=>obtain ⟨v,l⟩:=x;rw [hfl] at h hf;exact rt_tame (k v) (hs v) w hw hJ _ T c h hf
     | error e =>
       show (Result.halt e (rt J w T c),es)=(Result.halt e (rt J w T (c+(w.drawn - w.drawn))),es)
       rw [Nat.sub_self];rfl
 | .store m a v k,hs,w,hw,hJ,es,T,c,h,hf=>by
   have stop:∀ hl:Halt,((Result.halt hl (rt J w T c),es):Result α×Array Event)=rtX J (Result.halt hl w,es) T (c+(w.drawn - w.drawn)):=fun hl=>by rw [Nat.sub_self];rfl
   rcases val_cases v with ⟨x,rfl⟩ | ⟨x,rfl⟩ | ⟨h1,h2⟩
   · exact stop _
   · exact stop _
   · rw [runT_store p m a v k w es h1 h2] at h hf ⊢
     rw [runT_store p m a v k (rt J w T c) es h1 h2,rt_cell hJ,rt_frozen hJ,rt_setCell hJ,rt_farStore hJ]
     cases hc:w.cell? a with
     | some v' =>
       rw [hc] at h hf
       dsimp only at h hf ⊢
       cases hfr:w.frozen? a with
       | true=>rw [hfr] at h hf;exact stop _
       | false=>rw [hfr] at h hf;exact rt_tame k hs (w.setCell a v) (setCell_heapOk hw) (hJ.mono (Nat.le_of_eq (size_setCell w a v).symm)) _ T c h hf
     | none =>
       rw [hc] at h hf
       dsimp only at h hf ⊢
       cases hs':w.farStore p a v (m == .atomic) with
       | ok x =>
         obtain ⟨w',l⟩:=x
         rw [hs'] at h hf
         have e:=farStore_up p w a v (m == .atomic) _ _ hs'
         dsimp only [rtF] at h hf ⊢
         have ih:=rt_tame k hs w' (far_heapOk hw hs') (hJ.mono (Nat.le_of_eq (size_far hs').symm)) (es++l.toArray.map (⟨.cell ·,true,m == .atomic⟩)) T c (by intro j hj q;rw [e.1,e.2];rw [e.1] at hj;exact h j hj q) hf
         rw [e.1] at ih
         exact ih
       | error e=>exact stop _
 | .new o k,hs,w,hw,hJ,es,T,c,h,hf=>by
   have ih:=rt_tame (k w.heap.size) (hs.2 _) { w with heap:=w.heap.push o } (heapOk_push hw hs.1) (hJ.mono (by simp)) es T c h hf
   rw [← rt_push hJ] at ih
   show (k (rt J w T c).heap.size).runT p _ es=_
   rw [show (rt J w T c).heap.size=w.heap.size from un_size J w.heap]
   exact ih
 | .shape r k,hs,w,hw,hJ,es,T,c,h,hf=>by
   show (k ((rt J w T c).shape? r)).runT p (rt J w T c) es=_
   rw [rt_shape hJ]
   exact rt_tame (k (w.shape? r)) (hs _) w hw hJ es T c h hf
 | .freeze a n k,hs,w,hw,hJ,es,T,c,h,hf=>by
   have e:(w.freeze a n).drawn=w.drawn∧(w.freeze a n).tape=w.tape:=by unfold World.freeze;split <;> exact ⟨rfl,rfl⟩
   have ih:=rt_tame k hs (w.freeze a n) (freeze_heapOk hw) (hJ.mono (Nat.le_of_eq (size_freeze w a n).symm)) es T c (by intro j hj q;rw [e.1,e.2];rw [e.1] at hj;exact h j hj q) hf
   rw [e.1] at ih
   show k.runT p ((rt J w T c).freeze a n) es=_
   rw [rt_freeze hJ]
   exact ih
 | .frozen a k,hs,w,hw,hJ,es,T,c,h,hf=>by
   show (k ((rt J w T c).frozen? a)).runT p (rt J w T c) es=_
   rw [rt_frozen hJ]
   exact rt_tame (k (w.frozen? a)) (hs _) w hw hJ es T c h hf
 | .getObj r k,hs,w,hw,hJ,es,T,c,h,hf=>by
   have stop:∀ hl:Halt,((Result.halt hl (rt J w T c),es):Result α×Array Event)=rtX J (Result.halt hl w,es) T (c+(w.drawn - w.drawn)):=fun hl=>by rw [Nat.sub_self];rfl
   unfold Sem.runT at h hf ⊢
   rw [show (rt J w T c).heap[r]? = (w.heap[r]?).map (un1 J r) from un_get J w.heap r]
   cases hc:w.heap[r]? with
   | none=>exact stop _
   | some o =>
     rw [hc] at h hf
     rw [Option.map_some]
     cases hb:isBad o with
     | false =>
       rw [un1_good hb]
       have ho:okC o:=(hw r _ hc).resolve_right fun e=>by subst e;cases hb
       cases o with
       | cells _ _ _=>exact stop _
       | _=>exact rt_tame (k _) (hs.2 _ ho) w hw hJ _ T c h hf
     | true =>
       obtain rfl:=isBad_eq hb
       have hj:=un1_bad hJ r
       rcases hs.1 with ⟨s,e⟩ | e
       · refine absurd rfl (hf s w ∘ fun (_:True=True)=>?_)
         show ((k bad).runT p w _).1=_
         rw [e];rfl
       · have h8:TameQ p okC Q (k bad):=by rw [← e (.deferred none) rfl];exact hs.2 _ trivial
         have ih:=rt_tame (k bad) h8 w hw hJ (es.push ⟨.obj r,false,false⟩) T c h hf
         have hc2 : ∀ o, junk o = true → (match (some o : Option Obj) with
             | some (.cells ..) => (.halt (.stuck "getObj: a row of cells") (rt J w T c), es)
             | some o=>(k o).runT p (rt J w T c) (es.push ⟨.obj r,false,o.isChan⟩)
             | none => (.halt (.stuck "getObj: no such block") (rt J w T c), es)) = (k bad).runT p (rt J w T c) (es.push ⟨.obj r, false, false⟩) := by
           intro o ho
           rw [← e o ho]
           cases o <;> first | rfl | cases ho
         exact (hc2 _ hj).trans ih
 | .setObj r o k,hs,w,hw,hJ,es,T,c,h,hf=>by
   have stop:∀ hl:Halt,((Result.halt hl (rt J w T c),es):Result α×Array Event)=rtX J (Result.halt hl w,es) T (c+(w.drawn - w.drawn)):=fun hl=>by rw [Nat.sub_self];rfl
   have ih:=fun h hf=>rt_tame k hs.2 { w with heap:=w.heap.setIfInBounds r o } (heapOk_set hw hs.1) (hJ.mono (by simp)) (es.push ⟨.obj r,true,o.isChan⟩) T c h hf
   rw [← rt_set T c r (okC_notBad hs.1)] at ih
   unfold Sem.runT at h hf ⊢
   rw [show (rt J w T c).heap[r]? = (w.heap[r]?).map (un1 J r) from un_get J w.heap r]
   cases hc:w.heap[r]? with
   | none=>exact stop _
   | some o' =>
     rw [hc] at h hf
     rw [Option.map_some]
     cases hb:isBad o' with
     | false =>
       rw [un1_good hb]
       cases o' with
       | cells _ _ _=>exact stop _
       | _=>exact ih h hf
     | true =>
       obtain rfl:=isBad_eq hb
       have hj:=un1_bad hJ r
       have hc2 : ∀ (x : Obj) (A B : Result α × Array Event), junk x = true → (match (some x : Option Obj) with
             | some (.cells ..)=>A
             | some _=>B
             | none => (.halt (.stuck "setObj: no such block") (rt J w T c), es)) = B := by
         intro x A B hx
         cases x <;> first | rfl | cases hx
       exact (hc2 _ _ _ hj).trans (ih h hf)
 | .choose q k,hs,w,hw,hJ,es,T,c,h,hff=>by
   unfold Sem.runT at h hff ⊢
   by_cases hf:q.forced=true
   · rw [if_pos hf] at h hff ⊢
     rw [if_pos hf]
     exact rt_tame (k 0) (hs 0) w hw hJ es T c h hff
   · rw [if_neg hf] at h hff ⊢
     rw [if_neg hf]
     have up:=(runT_up p (k (q.cut (w.tape w.drawn q))) { w with drawn:=w.drawn+1 } es).1
     dsimp only at up
     have e0:T c q=w.tape w.drawn q:=h 0 (by omega) q
     have ih:=rt_tame (k (q.cut (w.tape w.drawn q))) (hs _) { w with drawn:=w.drawn+1 } hw hJ es T (c+1) (fun j hj q'=>by
       have:=h (j+1) (by dsimp only at hj;omega) q'
       rw [show c+1+j=c+(j+1) by omega,this]
       dsimp only
       rw [show w.drawn+(j+1)=w.drawn+1+j by omega]) hff
     have e1:(rt J w T c).tape (rt J w T c).drawn q=w.tape w.drawn q:=e0
     rw [e1]
     refine (show _=_ from ih).trans ?_
     congr 1
     dsimp only
     omega
 | .sys s k,hs,w,hw,hJ,es,T,c,h,hf=>by
   obtain ⟨rfl,hs⟩:=hs
   unfold Sem.runT at h hf ⊢
   obtain ⟨e1,e2,e3,e4⟩:=env_rt J w T c
   rw [e1]
   have ih:=rt_tame (k (w.sys .env).1) (hs _) (w.sys .env).2 (fun b o ho=>hw b o (by rwa [sys_heap] at ho)) (hJ.mono (by rw [e4];exact Nat.le_refl _)) _ T c (by intro j hj q;rw [e2,e3];rw [e2] at hj;exact h j hj q) hf
   rw [e2] at ih
   exact ih
 | .program k,hs,w,hw,hJ,es,T,c,h,hf=>rt_tame (k p) hs w hw hJ es T c h hf
 | .mark m k,hs,w,hw,hJ,es,T,c,h,hf=>rt_tame k hs.2 w hw hJ _ T c h hf
end Go.Proofs.Ytoheddpnnjldgaa.Bq
end
namespace Go.Proofs.Ytoheddpnnjldgaa
open Go.RowKit
end Go.Proofs.Ytoheddpnnjldgaa
section
namespace Go.Proofs.Ytoheddpnnjldgaa.Bq
open Go
set_option maxHeartbeats 4000000
def mapS (f:World→World):GStep→GStep
 | .go g w es=>.go g (f w) es
 | .comm g c b sh w es=>.comm g c b sh (f w) es
 | .spawn g ch w es=>.spawn g ch (f w) es
 | .count g w es=>.count g (f w) es
 | .timer g op w es=>.timer g op (f w) es
 | .alone g on w es=>.alone g on (f w) es
 | .newcoro g c d w es=>.newcoro g c d (f w) es
 | .coroswitch g c e w es=>.coroswitch g c e (f w) es
 | .collect g w es=>.collect g (f w) es
 | .watch g w es=>.watch g (f w) es
 | .ended o w es=>.ended o (f w) es
def Good:GStep→Prop
 | .go g _ _=>g.dying=none
 | .comm .. | .spawn ..=>True
 | _=>False
def GStep.wd:GStep→World
 | .go _ w _ | .comm _ _ _ _ w _ | .spawn _ _ w _ | .count _ w _ | .timer _ _ w _ | .alone _ _ w _ | .newcoro _ _ _ w _ | .coroswitch _ _ _ w _ | .collect _ w _ | .watch _ w _ | .ended _ w _=>w
def Carries (J:Nat→Option Obj) (T:Nat→Question→Nat) (c:Nat) (w:World) (s s':GStep):Prop :=
 Good s→w.drawn≤(GStep.wd s).drawn∧(Agree T c w (GStep.wd s).drawn→s'=mapS (fun w'=>rt J w' T (c+(w'.drawn - w.drawn))) s)
theorem mapS_after (f:World→World) (es:Array Event) (s:GStep):mapS f (GStep.after es s)=GStep.after es (mapS f s):=by cases s <;> rfl
theorem good_after {es:Array Event} {s:GStep}:Good (GStep.after es s)↔Good s:=by cases s <;> rfl
theorem wd_after {es:Array Event} {s:GStep}:GStep.wd (GStep.after es s)=GStep.wd s:=by cases s <;> rfl
theorem Carries.bad {J:Nat→Option Obj} {T:Nat→Question→Nat} {c:Nat} {w:World} {s s':GStep} (h : ¬ Good s):Carries J T c w s s':=fun hg=>absurd hg h
theorem Carries.later {J:Nat→Option Obj} {T:Nat→Question→Nat} {c:Nat} {w w':World} {s s':GStep} (h:Carries J T (c+(w'.drawn - w.drawn)) w' s s') (up1:w.drawn≤w'.drawn) (up2:w'.tape=w.tape) (mc:∀ {f f':World→World} {s:GStep},f (GStep.wd s)=f' (GStep.wd s)→mapS f s=mapS f' s):Good s →
  w'.drawn≤(GStep.wd s).drawn∧(Agree T c w (GStep.wd s).drawn→s'=mapS (fun w'=>rt J w' T (c+(w'.drawn - w.drawn))) s):=fun hg=>by
 obtain ⟨h1,h2⟩:=h hg
 refine ⟨h1,fun ha=>?_⟩
 rw [h2 fun j hj q=>by
  have:=ha (w'.drawn - w.drawn+j) (by omega) q
  rw [show c+(w'.drawn - w.drawn)+j=c+(w'.drawn - w.drawn+j) by omega,this,up2,show w.drawn+(w'.drawn - w.drawn+j)=w'.drawn+j by omega]]
 refine mc ?_
 exact congrArg (rt J _ T) (by omega)
end Go.Proofs.Ytoheddpnnjldgaa.Bq
end
namespace Go.Proofs.Ytoheddpnnjldgaa
open Go.RowKit
end Go.Proofs.Ytoheddpnnjldgaa
section
namespace Go.Proofs.Ytoheddpnnjldgaa.Bq
open Go
set_option maxHeartbeats 4000000
variable {P:Program} {J:Nat→Option Obj} {T:Nat→Question→Nat}
theorem Carries.run2 {α:Type} {Q:α→Prop} {s:Sem α} {F:Result α→Array Event→GStep} (G:World→GStep) (hs:TameQ P okC Q s) {w:World} (hw:HeapOk w) (hJ:JOk J w) {c:Nat}
  (hst:∀ (x:String) (w':World) (es:Array Event),¬ Good (F (.halt (.stuck x) w') es))
  (hG:∀ (w:World) (r:Result α) (es:Array Event),s.runT P w #[]=(r,es)→G w=F r es)
  (hm:∀ r es,s.runT P w #[]=(r,es)→Good (F r es)→((resW r).drawn≤(GStep.wd (F r es)).drawn∧(Agree T c w (GStep.wd (F r es)).drawn→F (rtR J r T (c+((resW r).drawn - w.drawn))) es=mapS (fun w'=>rt J w' T (c+(w'.drawn - w.drawn))) (F r es)))) :
  Carries J T c w (G w) (G (rt J w T c)):=by
 cases hr:s.runT P w #[] with
 | mk r es =>
  rw [hG w r es hr]
  intro hg
  obtain ⟨h1,h2⟩:=hm r es hr hg
  have up:=runT_up P s w #[]
  rw [hr] at up
  refine ⟨Nat.le_trans up.1 h1,fun ha=>?_⟩
  have e:=rt_tame s hs w hw hJ #[] T c (by rw [hr];exact fun j hj q=>ha j (Nat.lt_of_lt_of_le hj h1) q) (by rw [hr];exact fun x w' e=>by dsimp only at e;subst e;exact hst x w' es hg)
  rw [hr] at e
  rw [hG (rt J w T c) _ _ e]
  exact h2 ha
theorem found_rt {w:World} (hJ:JOk J w) (c:Nat):∀ (n:Nat),P.found (rt J w T c) n=P.found w n
 | 0=>by funext f;rfl
 | n+1=>by
  funext f
  have ih:=found_rt hJ c n
  have hs:(rt J w T c).shape? = w.shape?:=by funext r;exact rt_shape hJ T c r
  unfold Program.found
  rw [ih,hs]
  cases hc:Option.filter P.free (P.code? f) with
  | none=>rfl
  | some code =>
   dsimp only
   split
   ·rfl
   ·refine congrArg (fun q=>List.foldl q Found.either _) ?_
    funext acc h
    rcases hx_of hJ h with e | ⟨o,o',e1,e2,h1,h2⟩
    ·rw [show (rt J w T c).heap[h]? = w.heap[h]? from e]
    ·rw [show (rt J w T c).heap[h]? = some o from e1,e2]
     cases o <;> first | (cases h1;done) | (cases o' <;> first | (cases h2;done) | rfl)
theorem brought_rt {w:World} (hJ:JOk J w) (c:Nat):∀ (n:Nat),P.brought (rt J w T c) n=P.brought w n
 | 0=>by funext a b;unfold Program.brought;rfl
 | n+1=>by
  funext a b
  have ih:=brought_rt hJ c n
  cases a with
  | nil=>unfold Program.brought;rfl
  | cons f t =>
   unfold Program.brought
   rw [ih]
   cases hc:P.code? f with
   | none=>rfl
   | some code =>
    dsimp only
    split
    ·rfl
    ·refine congrArg (fun q=>P.brought w n (t++q) _) ?_
     refine congrArg (fun q=>List.filter _ (List.eraseDups (List.filterMap _ (List.filter q _)))) ?_
     funext h
     rcases hx_of hJ h with e | ⟨o,o',e1,e2,h1,h2⟩
     ·rw [show (rt J w T c).heap[h]? = w.heap[h]? from e]
     ·rw [show (rt J w T c).heap[h]? = some o from e1,e2]
      cases o <;> first | (cases h1;done) | (cases o' <;> first | (cases h2;done) | rfl)
theorem fatal_bad {fr:Frame} {cs:List Frame} {dy:Option Dying} {m:String} {w:World} : ¬ Good (endFatal P fr cs dy m w):=by
 unfold endFatal
 dsimp only
 split
 · intro h;cases h
 · exact fun h=>h
 · exact fun h=>h
end Go.Proofs.Ytoheddpnnjldgaa.Bq
end
namespace Go.Proofs.Ytoheddpnnjldgaa
open Go.RowKit
end Go.Proofs.Ytoheddpnnjldgaa
section
namespace Go.Proofs.Ytoheddpnnjldgaa.Bq
open Go
set_option maxHeartbeats 4000000
variable {P:Program} {J:Nat→Option Obj} {T:Nat→Question→Nat}
def EarlyRt (J:Nat→Option Obj) (w:World) (T:Nat→Question→Nat) (c:Nat) (s s':GStep):Prop :=
 Good s→w.drawn≤(GStep.wd s).drawn∧(Agree T c w (GStep.wd s).drawn→s'=mapS (fun w'=>rt J w' T (c+(w'.drawn - w.drawn))) s)
theorem brought_draw (w:World):∀ (n:Nat),P.brought { w with drawn:=w.drawn+1 } n=P.brought w n
 | 0=>by funext a b;unfold Program.brought;rfl
 | n+1=>by
  funext a b
  have ih:=brought_draw w n
  cases a with
  | nil=>unfold Program.brought;rfl
  | cons f t =>
   unfold Program.brought
   rw [ih]
theorem early_rt {fr:Frame} {cs:List Frame} {dy:Option Dying} {g:Nat} {w:World} (hJ:JOk J w) {c:Nat}:EarlyRt J w T c (early P fr cs dy g w) (early P fr cs dy g (rt J w T c)):=by
 have same:∀ (g:Goroutine),EarlyRt J w T c (.go g w) (.go g (rt J w T c)):=fun g _=>⟨Nat.le_refl _,fun _=>by
  show _=GStep.go g (rt J w T (c+(w.drawn - w.drawn))) _
  rw [Nat.sub_self];rfl⟩
 have bad:∀ o s',EarlyRt J w T c (.ended o w) s':=fun o s' h=>h.elim
 have hnot:∀ (w1:World),JOk J w1→w1.drawn=w.drawn→EarlyRt J w T c (match w1.heap[g]? with
   | some (.pending c elem)=>.go { frame:=fr,callers:=cs,status:=.running,dying:=dy } { w1 with heap:=w1.heap.setIfInBounds g (.cells c elem) }
   | _ => .ended (.stuck "early: the variable does not wait" (fr.pos P)) w1) (match (rt J w1 T c).heap[g]? with
   | some (.pending c' elem)=>.go { frame:=fr,callers:=cs,status:=.running,dying:=dy } { rt J w1 T c with heap:=(rt J w1 T c).heap.setIfInBounds g (.cells c' elem) }
   | _ => .ended (.stuck "early: the variable does not wait" (fr.pos P)) (rt J w1 T c)) := by
  intro w1 hJ1 h1
  rcases hx_of hJ1 g with e | ⟨o,o',e1,e2,hj1,hj2⟩
  ·rw [show (rt J w1 T c).heap[g]? = w1.heap[g]? from e]
   cases w1.heap[g]? with
   | none=>exact fun h=>h.elim
   | some o =>
    cases o with
    | pending ce el =>
     refine fun _=>⟨Nat.le_of_eq h1.symm,fun _=>?_⟩
     show GStep.go _ ({ rt J w1 T c with heap:=(rt J w1 T c).heap.setIfInBounds g (.cells ce el) }:World) _=GStep.go _ (rt J _ T (c+(w1.drawn - w.drawn))) _
     rw [h1,Nat.sub_self,rt_set T c g rfl];rfl
    | _=>exact fun h=>h.elim
  ·rw [e2]
   cases o' <;> first | (cases hj2;done) | exact fun h=>h.elim
 unfold early
 rw [found_rt hJ]
 dsimp only
 by_cases h1:(!P.follows .staticDataAhead)=true
 ·rw [if_pos h1,if_pos h1];exact hnot w hJ rfl
 ·rw [if_neg h1,if_neg h1]
  cases P.stepOf g with
  | none=>exact bad _ _
  | some f =>
   dsimp only
   by_cases h2:((P.code? f).any P.atRunTime)=true
   ·rw [if_pos h2,if_pos h2];exact hnot w hJ rfl
   ·rw [if_neg h2,if_neg h2]
    rw [show (rt J w T c).shape? = w.shape? from funext fun r=>rt_shape hJ T c r]
    by_cases h3:((((P.code? f).bind fun c=>(readies c).getLast?).bind w.shape?).isSome)=true
    ·rw [if_pos h3,if_pos h3];exact hnot w hJ rfl
    ·rw [if_neg h3,if_neg h3]
     cases P.found w P.funcs.size f <;> cases (fr.kind == CallKind.early) <;> dsimp only <;> first
      | exact bad _ _
      | exact same _
      | exact hnot w hJ rfl
      | (rw [brought_rt hJ];exact same _)
      | skip
     by_cases h4:(Option.any P.plainData (P.code? f))=true
     ·simp only [h4,if_true,brought_rt hJ]
      exact same _
     ·simp only [h4,if_false,Bool.false_eq_true]
      by_cases h5:(!Option.any P.bareCopy (P.code? f))=true
      ·rw [if_pos h5,if_pos h5];exact hnot w hJ rfl
      ·rw [if_neg h5,if_neg h5]
       unfold choose
       simp only [Sem.run]
       cases hq:(Question.early g).forced with
       | true =>
        simp only [if_true]
        exact hnot w hJ rfl
       | false =>
        simp only [if_false,Bool.false_eq_true]
        intro hg
        have go1:∀ (gr:Goroutine) (f:World→World) (hf:∀ w,(f w).drawn=w.drawn) (hr:∀ w T c,f (rt J w T c)=rt J (f w) T c) (s':GStep) ,(T c (Question.early g)=w.tape w.drawn (Question.early g)→s'=.go gr (f (rt J { w with drawn:=w.drawn+1 } T (c+1)))) →
          w.drawn≤(GStep.wd (.go gr (f { w with drawn:=w.drawn+1 }))).drawn∧(Agree T c w (GStep.wd (.go gr (f { w with drawn:=w.drawn+1 }))).drawn→s'=mapS (fun w'=>rt J w' T (c+(w'.drawn - w.drawn))) (.go gr (f { w with drawn:=w.drawn+1 }))):=by
         intro gr f hf hr s' hs
         have hd:(GStep.wd (.go gr (f { w with drawn:=w.drawn+1 }))).drawn=w.drawn+1:=hf _
         refine ⟨by omega,fun ha=>?_⟩
         have e0:T c (Question.early g)=w.tape w.drawn (Question.early g):=ha 0 (by omega) _
         rw [hs e0]
         show _=GStep.go gr (rt J (f { w with drawn:=w.drawn+1 }) T (c+((f { w with drawn:=w.drawn+1 }).drawn - w.drawn))) _
         rw [hf,hr]
         dsimp only
         rw [show w.drawn+1 - w.drawn=1 by omega]
        have et:∀ e0:T c (Question.early g)=w.tape w.drawn (Question.early g),(rt J w T c).tape (rt J w T c).drawn (Question.early g)=w.tape w.drawn (Question.early g):=fun e0=>e0
        cases ha:(Question.early g).cut (w.tape w.drawn (Question.early g)) with
        | zero =>
         simp only [ha] at hg ⊢
         cases hh:w.heap[g]? with
         | none=>simp only [hh] at hg;exact hg.elim
         | some o =>
          cases o with
          | pending ce el =>
           simp only [hh] at hg ⊢
           refine go1 _ (fun w=>{ w with heap:=w.heap.setIfInBounds g (.cells ce el) }) (fun _=>rfl) (fun w T c=>rt_set T c g rfl) _ fun e0=>?_
           rw [et e0,ha]
           have hh2:(rt J w T c).heap[g]? = some (.pending ce el):=by
            show (un J w.heap)[g]? = _
            rw [un_get,hh];rfl
           show (match (rt J w T c).heap[g]? with
            | some (.pending c elem)=>GStep.go _ _
            | _=>_)=_
           rw [hh2]
           rfl
          | _=>simp only [hh] at hg;exact hg.elim
        | succ n =>
         simp only [ha] at hg ⊢
         refine go1 _ (fun w=>w) (fun _=>rfl) (fun _ _ _=>rfl) _ fun e0=>?_
         rw [et e0,ha]
         simp only [show ∀ (w:World) (T:Nat→Question→Nat) (c:Nat),{ rt J w T c with drawn:=(rt J w T c).drawn+1 } = rt J { w with drawn:=w.drawn+1 } T (c+1) from fun _ _ _=>rfl,brought_rt hJ,show P.brought { w with drawn:=w.drawn+1 } = P.brought w from funext fun n=>brought_draw w n,show P.brought (rt J { w with drawn:=w.drawn+1 } T (c+1))=P.brought w from funext fun n=>(brought_rt (w:={ w with drawn:=w.drawn+1 }) hJ (c+1) n).trans (brought_draw w n)]
end Go.Proofs.Ytoheddpnnjldgaa.Bq
end
namespace Go.Proofs.Ytoheddpnnjldgaa
open Go.RowKit
end Go.Proofs.Ytoheddpnnjldgaa
section
namespace Go.Proofs.Ytoheddpnnjldgaa.Bq
open Go
set_option maxHeartbeats 4000000
variable {P:Program} {J:Nat→Option Obj} {T:Nat→Question→Nat}
theorem mapS_congr {f f':World→World} {s:GStep} (h:f (GStep.wd s)=f' (GStep.wd s)):mapS f s=mapS f' s:=by
 cases s <;> simp only [mapS,GStep.wd] at h ⊢ <;> rw [h]
theorem apply_rt {fr:Frame} {cs:List Frame} {dy:Option Dying} {s:Sem Next} (hs:TameQ P okC nextOk s) {w:World} (hw:HeapOk w) (hJ:JOk J w) {c:Nat} :
  Carries J T c w (stepG.apply P true fr cs dy s w) (stepG.apply P true fr cs dy s (rt J w T c)):=by
 refine Carries.run2 (F:=?F) (stepG.apply P true fr cs dy s) hs hw hJ ?hst ?hG ?hm
 case hG =>
  intro w r es e
  unfold stepG.apply
  simp only [if_true]
  rw [e]
 case hst=>exact fun _ _ _ h=>h.elim
 case hm =>
  intro r es hr
  have hq:=runT_tame s hs w hw #[]
  rw [hr] at hq
  cases r with
  | ok nx w' =>
   have hn:=hq.res nx w' rfl
   cases nx with
   | recover =>
    intro hg
    have key:∀ (o:Option (Value×List Frame)) (es:Array Event) (f1:Value→Frame) (f2:Frame) (w'':World),
      GStep.wd (GStep.after es (match o with
       | some (v,callers)=>.go { frame:=f1 v,callers,status:=.running,dying:=dy } w''
       | none=>.go { frame:=f2,callers:=cs,status:=.running,dying:=dy } w''))=w'' ∧
      ∀ f:World→World,GStep.after es (match o with
       | some (v,callers)=>.go { frame:=f1 v,callers,status:=.running,dying:=dy } (f w'')
       | none=>.go { frame:=f2,callers:=cs,status:=.running,dying:=dy } (f w''))=mapS f (GStep.after es (match o with
       | some (v,callers)=>.go { frame:=f1 v,callers,status:=.running,dying:=dy } w''
       | none=>.go { frame:=f2,callers:=cs,status:=.running,dying:=dy } w'')):=by
     intro o es f1 f2 w''
     cases o with
     | none=>exact ⟨rfl,fun _=>rfl⟩
     | some x=>exact ⟨rfl,fun _=>rfl⟩
    exact ⟨Nat.le_of_eq (congrArg World.drawn (key _ _ (fun v=>fr.finish v) (fr.finish .nilIface) w').1).symm,fun _=>(key _ _ (fun v=>fr.finish v) (fr.finish .nilIface) w').2 fun w'=>rt J w' T (c+(w'.drawn - w.drawn))⟩
   | spawn d =>
    intro hg
    have key:∀ (b:Bool) (es:Array Event) (a:String) (g ch:Goroutine) (w'':World),Good (GStep.after es (if b=true then endThrow fr a w'' else .spawn g ch w'')) →
      GStep.wd (GStep.after es (if b=true then endThrow fr a w'' else .spawn g ch w''))=w'' ∧
      ∀ f:World→World,GStep.after es (if b=true then endThrow fr a (f w'') else .spawn g ch (f w''))=mapS f (GStep.after es (if b=true then endThrow fr a w'' else .spawn g ch w'')):=by
     intro b es a g ch w'' h
     cases b with
     | true=>cases h
     | false=>exact ⟨rfl,fun _=>rfl⟩
    exact ⟨Nat.le_of_eq (congrArg World.drawn (key _ _ _ _ _ w' hg).1).symm,fun _=>(key _ _ _ _ _ w' hg).2 fun w'=>rt J w' T (c+(w'.drawn - w.drawn))⟩
   | _=>first
    | exact hn.elim
    | (intro hg;exact ⟨Nat.le_refl _,fun _=>rfl⟩)
  | halt h w' =>
   cases h with
   | unsupported u =>
    cases u with
    | initOrder g =>
     intro hg
     have up:=runT_up P s w #[]
     rw [hr] at up
     have up1:w.drawn≤w'.drawn:=up.1
     have up2:w'.tape=w.tape:=up.2
     obtain ⟨h1,h2⟩:=early_rt (w:=w') (J:=J) (hJ.mono hq.size) (T:=T) (c:=c+(w'.drawn - w.drawn)) (good_after.1 hg)
     refine ⟨by rw [wd_after];exact h1,fun ha=>?_⟩
     rw [wd_after] at ha
     have ha:Agree T c w (GStep.wd (early P fr cs dy g w')).drawn:=ha
     have h3:=h2 fun j hj q=>by
      have:=ha (w'.drawn - w.drawn+j) (by omega) q
      rw [show c+(w'.drawn - w.drawn)+j=c+(w'.drawn - w.drawn+j) by omega,this,up2,show w.drawn+(w'.drawn - w.drawn+j)=w'.drawn+j by omega]
     refine (congrArg (GStep.after _) h3).trans ?_
     rw [← mapS_after]
     refine mapS_congr ?_
     rw [wd_after]
     have e9:c+(w'.drawn - w.drawn)+((GStep.wd (early P fr cs dy g w')).drawn - w'.drawn)=c+((GStep.wd (early P fr cs dy g w')).drawn - w.drawn):=by omega
     exact congrArg (rt J _ T) e9
    | _=>exact fun hg=>hg.elim
   | fatal m=>exact fun hg=>absurd (good_after.1 hg) fatal_bad
   | throw m=>exact fun hg=>by cases hg
   | _=>first
    | exact fun hg=>hg.elim
    | (intro hg;exact ⟨Nat.le_refl _,fun _=>rfl⟩)
end Go.Proofs.Ytoheddpnnjldgaa.Bq
end
namespace Go.Proofs.Ytoheddpnnjldgaa
open Go.RowKit
end Go.Proofs.Ytoheddpnnjldgaa
section
namespace Go.Proofs.Ytoheddpnnjldgaa.Bq
open Go
set_option maxHeartbeats 4000000
variable {P:Program} {J:Nat→Option Obj} {T:Nat→Question→Nat}
theorem mapS0 {w:World} {c:Nat} (g:Goroutine):(GStep.go g (rt J w T c))=mapS (fun w'=>rt J w' T (c+(w'.drawn - w.drawn))) (.go g w):=by
 show _=GStep.go g (rt J w T (c+(w.drawn - w.drawn))) _
 rw [Nat.sub_self];rfl
theorem doReturn_wd {main:Bool} {fr:Frame} {cs:List Frame} {dy:Option Dying} {v:Value} {w:World}:GStep.wd (doReturn P main fr cs dy v w)=w:=by
 unfold doReturn
 cases cs with
 | cons c rest=>dsimp only;split <;> rfl
 | nil =>
  dsimp only
  split
  ·rfl
  ·rfl
  ·split
   ·rfl
   ·split <;> rfl
theorem doReturn_map {main:Bool} {fr:Frame} {cs:List Frame} {dy:Option Dying} {v:Value} {w:World} (f:World→World):doReturn P main fr cs dy v (f w)=mapS f (doReturn P main fr cs dy v w):=by
 unfold doReturn
 cases cs with
 | cons c rest=>dsimp only;split <;> rfl
 | nil =>
  dsimp only
  split
  ·rfl
  ·rfl
  ·split
   ·rfl
   ·split <;> rfl
theorem Carries.doReturn {main:Bool} {fr:Frame} {cs:List Frame} {dy:Option Dying} {v:Value} {w:World} {c:Nat}:Carries J T c w (doReturn P main fr cs dy v w) (doReturn P main fr cs dy v (rt J w T c)):=fun _=>⟨Nat.le_of_eq (congrArg World.drawn doReturn_wd.symm),fun _=>by
 rw [doReturn_map (w:=w) (fun w=>rt J w T c)]
 refine mapS_congr ?_
 rw [doReturn_wd,Nat.sub_self];rfl⟩
end Go.Proofs.Ytoheddpnnjldgaa.Bq
end
namespace Go.Proofs.Ytoheddpnnjldgaa
open Go.RowKit
end Go.Proofs.Ytoheddpnnjldgaa
section
namespace Go.Proofs.Ytoheddpnnjldgaa.Bq
open Go
set_option maxHeartbeats 4000000
variable {P:Program} {J:Nat→Option Obj} {T:Nat→Question→Nat}
theorem carries_ite {c:Nat} {w:World} {b:Prop} [Decidable b] {s1 s2 t1 t2:GStep} (h1:Carries J T c w s1 t1) (h2:Carries J T c w s2 t2):Carries J T c w (if b then s1 else s2) (if b then t1 else t2):=by split <;> assumption
theorem carries_ended {c:Nat} {w w':World} {o:Outcome} {es:Array Event} {s':GStep}:Carries J T c w (.ended o w' es) s':=Carries.bad fun h=>h
theorem Carries.run3 {α:Type} {Q:α→Prop} {s:Sem α} {F:Result α→Array Event→GStep} {A B:GStep} (hs:TameQ P okC Q s) {w:World} (hw:HeapOk w) (hJ:JOk J w) {c:Nat}
  (hst:∀ (x:String) (w':World) (es:Array Event),¬ Good (F (.halt (.stuck x) w') es))
  (hA:∀ (r:Result α) (es:Array Event),s.runT P w #[]=(r,es)→A=F r es)
  (hB:∀ (r:Result α) (es:Array Event),s.runT P (rt J w T c) #[]=(r,es)→B=F r es)
  (hm:∀ r es,s.runT P w #[]=(r,es)→Good (F r es)→((resW r).drawn≤(GStep.wd (F r es)).drawn∧(Agree T c w (GStep.wd (F r es)).drawn→F (rtR J r T (c+((resW r).drawn - w.drawn))) es=mapS (fun w'=>rt J w' T (c+(w'.drawn - w.drawn))) (F r es)))) :
  Carries J T c w A B:=by
 cases hr:s.runT P w #[] with
 | mk r es =>
  rw [hA r es hr]
  intro hg
  obtain ⟨h1,h2⟩:=hm r es hr hg
  have up:=runT_up P s w #[]
  rw [hr] at up
  refine ⟨Nat.le_trans up.1 h1,fun ha=>?_⟩
  have e:=rt_tame s hs w hw hJ #[] T c (by rw [hr];exact fun j hj q=>ha j (Nat.lt_of_lt_of_le hj h1) q) (by rw [hr];exact fun x w' e=>by dsimp only at e;subst e;exact hst x w' es hg)
  rw [hr] at e
  rw [hB _ _ e]
  exact h2 ha
theorem callDeferred_rt (hP:FuncsOk P) {fr:Frame} {cs:List Frame} {dy:Option Dying} {d:Deferred} (hd:tgtOk d.target=true) {w:World} (hw:HeapOk w) (hJ:JOk J w) {c:Nat} :
  Carries J T c w (callDeferred P fr cs dy d w) (callDeferred P fr cs dy d (rt J w T c)):=by
 unfold callDeferred
 refine carries_ite carries_ended ?_
 refine Carries.run3 (F:=?F) (q_invoke hP d.target hd d.args) hw hJ ?hst ?hA ?hB ?hm
 case hA =>
  intro r es e
  rw [e]
 case hB =>
  intro r es e
  rw [e]
 case hst=>exact fun _ _ _ h=>h.elim
 case hm =>
  intro r es hr
  have hq:=runT_tame _ (q_invoke hP d.target hd d.args) w hw #[]
  rw [hr] at hq
  cases r with
  | ok nx w' =>
   have hn:=hq.res nx w' rfl
   cases nx with
   | recover =>
    intro hg
    cases hm:fr.mode with
    | returning =>
     cases ho:tryRecover fr cs with
     | none=>simp only [hm,ho] at hg ⊢;exact ⟨Nat.le_refl _,fun _=>by simp only [rtR,hm,ho];rfl⟩
     | some x=>simp only [hm,ho] at hg ⊢;exact ⟨Nat.le_refl _,fun _=>by simp only [rtR,hm,ho];rfl⟩
    | _=>simp only [hm] at hg ⊢;exact ⟨Nat.le_refl _,fun _=>by simp only [rtR,hm];rfl⟩
   | _=>first
    | exact hn.elim
    | (intro hg;exact ⟨Nat.le_refl _,fun _=>rfl⟩)
  | halt h w' =>
   cases h with
   | fatal m=>exact fun hg=>absurd (good_after.1 hg) fatal_bad
   | throw m=>exact fun hg=>by cases hg
   | _=>first
    | exact fun hg=>hg.elim
    | (intro hg;exact ⟨Nat.le_refl _,fun _=>rfl⟩)
theorem unwind_rt (hP:FuncsOk P) {main:Bool} {fr:Frame} {cs:List Frame} (hf:FrOk fr) {w:World} (hw:HeapOk w) (hJ:JOk J w) {c:Nat} :
  Carries J T c w (unwind P main fr cs none w) (unwind P main fr cs none (rt J w T c)):=by
 obtain ⟨fn,tmps,todo,defers,mode,kind,ro⟩:=fr
 cases defers with
 | cons d ds =>
  have hd:tgtOk d.target=true:=hf.defers d (List.mem_cons_self ..)
  obtain ⟨t,args⟩:=d
  cases t with
  | collected b =>
   unfold unwind
   dsimp only
   refine Carries.run3 (P:=P) (F:=?F) (q_take (P:=P) b) hw hJ ?hst ?hA ?hB ?hm
   case hA =>
    intro r es e
    rw [e]
   case hB =>
    intro r es e
    rw [e]
   case hst=>exact fun _ _ _ h=>h.elim
   case hm =>
    intro r es hr
    cases r with
    | ok x w'=>intro hg;exact ⟨Nat.le_refl _,fun _=>rfl⟩
    | halt h w'=>exact fun hg=>hg.elim
  | _=>exact callDeferred_rt hP hd hw hJ
 | nil =>
  unfold unwind
  dsimp only
  cases mode with
  | run=>exact carries_ended
  | panicking chain =>
   dsimp only
   refine carries_ite carries_ended ?_
   cases cs with
   | cons a rest=>exact fun _=>⟨Nat.le_refl _,fun _=>mapS0 _⟩
   | nil =>
    dsimp only
    refine carries_ite (fun _=>⟨Nat.le_refl _,fun _=>mapS0 _⟩) (Carries.bad ?_)
    split
    ·intro h;cases h
    ·exact fun h=>h
    ·exact fun h=>h
  | returning =>
   dsimp only
   cases hfn:P.funcs[fn]? with
   | none=>exact Carries.doReturn
   | some f =>
    dsimp only
    refine Carries.run3 (P:=P) (F:=?F2) (t_results (P:=P) f tmps) hw hJ ?hst2 ?hA2 ?hB2 ?hm2
    case hA2 =>
     intro r es e
     rw [e]
    case hB2 =>
     intro r es e
     rw [e]
    case hst2=>exact fun _ _ _ h=>h.elim
    case hm2 =>
     intro r es hr
     cases r with
     | ok x w' =>
      intro hg
      refine ⟨by rw [wd_after];exact Nat.le_of_eq (congrArg World.drawn doReturn_wd.symm),fun _=>?_⟩
      rw [mapS_after]
      refine congrArg (GStep.after _) ?_
      refine (doReturn_map (w:=w') (fun w''=>rt J w'' T (c+(w'.drawn - w.drawn)))).trans (mapS_congr ?_)
      rw [doReturn_wd]
     | halt h w'=>cases h <;> exact fun hg=>hg.elim
end Go.Proofs.Ytoheddpnnjldgaa.Bq
end
namespace Go.Proofs.Ytoheddpnnjldgaa
open Go.RowKit
end Go.Proofs.Ytoheddpnnjldgaa
section
namespace Go.Proofs.Ytoheddpnnjldgaa.Bq
open Go
set_option maxHeartbeats 4000000
variable {P:Program} {J:Nat→Option Obj} {T:Nat→Question→Nat}
theorem carries_go {w:World} {c:Nat} (g:Goroutine):Carries J T c w (.go g w) (.go g (rt J w T c)):=fun _=>⟨Nat.le_refl _,fun _=>mapS0 g⟩
theorem ret_rt {main:Bool} {fr:Frame} {cs:List Frame} {es:Array Event} {v:Value} {w w':World} {c:Nat} :
  (w'.drawn≤(GStep.wd (GStep.after es (doReturn P main fr cs none v w'))).drawn∧(Agree T c w (GStep.wd (GStep.after es (doReturn P main fr cs none v w'))).drawn →
   GStep.after es (doReturn P main fr cs none v (rt J w' T (c+(w'.drawn - w.drawn))))=mapS (fun w'=>rt J w' T (c+(w'.drawn - w.drawn))) (GStep.after es (doReturn P main fr cs none v w')))):=by
 refine ⟨by rw [wd_after];exact Nat.le_of_eq (congrArg World.drawn doReturn_wd.symm),fun _=>?_⟩
 rw [mapS_after]
 refine congrArg (GStep.after _) ?_
 refine (doReturn_map (w:=w') (fun w''=>rt J w'' T (c+(w'.drawn - w.drawn)))).trans (mapS_congr ?_)
 rw [doReturn_wd]
theorem oper_rt (hP:FuncsOk P) {fr:Frame} {cs:List Frame} (hf:FrOk fr) {w:World} (hw:HeapOk w) (hJ:JOk J w) {c:Nat}:Carries J T c w (stepG.oper P true fr cs none w) (stepG.oper P true fr cs none (rt J w T c)):=by
 unfold stepG.oper
 cases e:fr.oper? with
 | none=>exact carries_ended
 | some o =>
  have ho:opOk o.op=true:=by
   unfold Frame.oper? at e
   split at e
   ·rename_i ops i t k et
    have:=hf.todo (.inRegion ops (i::t)) (by rw [et];exact List.mem_cons_self ..)
    obtain ⟨hi,rfl⟩:=Array.getElem?_eq_some_iff.1 e
    exact (Array.all_eq_true.1 this) i hi
   ·cases e
  dsimp only
  split
  ·rename_i l d hl he
   rw [he] at ho
   exact apply_rt (TameQ.bind' (q_resolve _ d _ ho) fun d hd=>q_u (q_dir l d hd)) hw hJ
  ·exact apply_rt (q_exec hP _ o ho) hw hJ
end Go.Proofs.Ytoheddpnnjldgaa.Bq
end
namespace Go.Proofs.Ytoheddpnnjldgaa
open Go.RowKit
end Go.Proofs.Ytoheddpnnjldgaa
section
namespace Go.Proofs.Ytoheddpnnjldgaa.Bq
open Go
set_option maxHeartbeats 4000000
variable {P:Program} {J:Nat→Option Obj} {T:Nat→Question→Nat}
theorem leave_rt {main:Bool} {fr:Frame} {cs:List Frame} {w:World} {c:Nat} (hw:HeapOk w) (hJ:JOk J w) (b:Bool) (j:Option Code) (hj:∀ c,j=some c→codeOk c=true) :
  ∀ F:World→GStep,(∀ w,F w=(match fr.roundOf with
   | none => if b = true then .go { frame := { fr with mode := .returning }, callers := cs, status := .running, dying := none } w else .ended (.stuck "exit, goto: no such block or label" (fr.pos P)) w
   | some l =>
    GStep.after (seen P fr.fn ((Instr.endRound l j).runT P w #[]).2) (match ((Instr.endRound l j).runT P w #[]).1 with
    | .ok v w=>doReturn P main fr cs none v w
    | .halt _ w => .ended (.stuck "range over a function: no such loop" (fr.pos P)) w))) → Carries J T c w (F w) (F (rt J w T c)) := by
 intro F hF
 rw [hF,hF]
 cases fr.roundOf with
 | none=>exact carries_ite (carries_go _) carries_ended
 | some l =>
  dsimp only
  refine Carries.run3 (P:=P) (F:=?F) (q_end (P:=P) l j hj) hw hJ ?hst ?hA ?hB ?hm
  case hA =>
   intro r es e
   rw [e]
  case hB =>
   intro r es e
   rw [e]
  case hst=>exact fun _ _ _ h=>h.elim
  case hm =>
   intro r es hr
   cases r with
   | ok x w'=>exact fun _=>ret_rt
   | halt h w'=>exact fun hg=>hg.elim
theorem exec_rt (hP:FuncsOk P) {main:Bool} {fr:Frame} {cs:List Frame} {w:World} (hf:FrOk fr) (hw:HeapOk w) (hJ:JOk J w) {c:Nat}:Carries J T c w (stepG.exec P main true fr cs none w) (stepG.exec P main true fr cs none (rt J w T c)):=by
 unfold stepG.exec
 have ht:=hf.todo
 have hop:=oper_rt (T:=T) (cs:=cs) (c:=c) hP hf hw hJ
 obtain ⟨fn,tmps,todo,defers,mode,kind,ro⟩:=fr
 dsimp only at ht
 cases todo with
 | nil=>exact leave_rt hw hJ true none (fun c h=>by cases h) (fun w=>_) fun w=>rfl
 | cons it k =>
  have hi:ItemOk it:=ht it (List.mem_cons_self ..)
  cases it with
  | inBlock id=>exact carries_go _
  | inScope b=>exact carries_go _
  | inLoop b=>exact carries_go _
  | inRangeFunc l=>exact carries_ended
  | beginRound =>
   refine apply_rt ?_ hw hJ
   refine TameQ.bindT ?_ fun _=>trivial
   cases ro with
   | none=>exact (Eq.refl true)
   | some l=>exact q_begin l
  | endRangeFunc l =>
   dsimp only
   refine Carries.run3 (P:=P) (F:=?F) (q_endLoop (P:=P) l) hw hJ ?hst ?hA ?hB ?hm
   case hA =>
    intro r es e
    rw [e]
   case hB =>
    intro r es e
    rw [e]
   case hst=>exact fun _ _ _ h=>h.elim
   case hm =>
    intro r es hr
    cases r with
    | ok x w'=>exact fun _=>⟨Nat.le_refl _,fun _=>rfl⟩
    | halt h w'=>cases h <;> first | exact fun hg=>hg.elim | exact fun _=>⟨Nat.le_refl _,fun _=>rfl⟩
  | inRegion ops t =>
   cases t with
   | nil=>exact carries_go _
   | cons i t=>exact carries_ite hop (carries_go _)
  | code cd =>
   cases cd with
   | ret=>exact leave_rt hw hJ true (some .ret) (fun c h=>by cases h;rfl) (fun w=>_) fun w=>rfl
   | skip=>exact carries_go _
   | label l=>exact carries_go _
   | seq a b=>exact carries_go _
   | cond x a b =>
    dsimp only
    split
    ·exact carries_go _
    ·exact carries_ended
   | block id b=>exact carries_go _
   | loop b=>exact carries_go _
   | scope b=>exact carries_go _
   | exit id =>
    dsimp only
    cases he:exitTo id k with
    | none =>
     simp only [Option.elim_none]
     exact leave_rt (P:=P) (T:=T) (main:=main) (fr:={ fn:=fn,tmps:=tmps,todo:=.code (.exit id)::k,defers:=defers,mode:=mode,kind:=kind,roundOf:=ro }) (cs:=cs) (c:=c) hw hJ false (some (.exit id)) (fun c h=>by cases h;rfl) (fun w=>_) fun w=>rfl
    | some k'=>exact carries_go _
   | goto l =>
    dsimp only
    cases he:gotoIn l k with
    | none =>
     simp only [Option.elim_none]
     exact leave_rt (P:=P) (T:=T) (main:=main) (fr:={ fn:=fn,tmps:=tmps,todo:=.code (.goto l)::k,defers:=defers,mode:=mode,kind:=kind,roundOf:=ro }) (cs:=cs) (c:=c) hw hJ false (some (.goto l)) (fun c h=>by cases h;rfl) (fun w=>_) fun w=>rfl
    | some k'=>exact carries_go _
   | rangeFunc f ps a b =>
    have h:codeOk a=true∧codeOk b=true:=by simpa [ItemOk,codeOk] using hi
    have hs:=q_enter (P:=P) fn tmps ps a b h.1 h.2 ro
    dsimp only
    refine Carries.run3 (P:=P) (F:=?F2) hs hw hJ ?hst2 ?hA2 ?hB2 ?hm2
    case hA2 =>
     intro r es e
     rw [e]
    case hB2 =>
     intro r es e
     rw [e]
    case hst2=>exact fun _ _ _ h=>h.elim
    case hm2 =>
     intro r es hr
     have hq:=runT_tame _ hs w hw #[]
     rw [hr] at hq
     have up:=runT_up P (Instr.enterLoop fn tmps ps a b ro) w #[]
     rw [hr] at up
     cases r with
     | ok x w' =>
      obtain ⟨l,mk⟩:=x
      intro hg
      have hc:=Carries.later (T:=T) (c:=c) (w:=w) (w':=w') (apply_rt (T:=T) (fr:={ fn:=fn,tmps:=tmps,todo:=.inRangeFunc l::k,defers:=mk++defers,mode:=mode,kind:=kind,roundOf:=ro }) (cs:=cs) (dy:=none)
       (TameQ.bind' (q_resolve (Frame.eval { fn:=fn,tmps:=tmps,todo:=.code (.rangeFunc f ps a b)::k,defers:=defers,mode:=mode,kind:=kind,roundOf:=ro }) { callee:=.value f,args:=#[.const (.func (.yield l) #[] #[])],argTypes:=#[] } 0 rfl) fun d hd=>q_invoke hP _ hd _) hq.heap (show JOk J w' from hJ.mono hq.size)) up.1 up.2 mapS_congr (good_after.1 hg)
      refine ⟨by rw [wd_after];exact hc.1,fun ha=>?_⟩
      rw [mapS_after]
      rw [wd_after] at ha
      exact congrArg (GStep.after _) (hc.2 ha)
     | halt h w'=>exact fun hg=>hg.elim
   | refuse why=>exact carries_ended
   | region id ops draw =>
    dsimp only
    refine carries_ite (carries_go _) ?_
    have hrun:∀ (q:Question) (w:World),(choose q).run P w=((choose q).runT P w #[]).1:=fun q w=>by
     unfold choose
     simp only [Sem.run,Sem.runT]
     split <;> rfl
    rw [hrun,hrun]
    refine Carries.run3 (P:=P) (F:=?F3) (s:=choose (.order fn id)) (Q:=fun _=>True) TameC.h hw hJ ?hst ?hA3 ?hB3 ?hm3
    case hA3 =>
     intro r es e
     rw [e]
    case hB3 =>
     intro r es e
     rw [e]
    case hst=>exact fun _ _ _ h=>h.elim
    case hm3 =>
     intro r es hr
     cases r with
     | ok x w'=>exact fun _=>⟨Nat.le_refl _,fun _=>rfl⟩
     | halt h w'=>exact fun hg=>hg.elim
  | _=>exact hi.elim
theorem stepG_rt (hP:FuncsOk P) {main:Bool} {g:Goroutine} {w:World} (hg:GOk g) (hd:g.dying=none) (hw:HeapOk w) (hJ:JOk J w) {c:Nat}:Carries J T c w (stepG P main g w) (stepG P main g (rt J w T c)):=by
 obtain ⟨fr,cs,st,dy,of⟩:=g
 subst hd
 unfold stepG
 dsimp only
 cases hm:fr.mode with
 | run=>exact exec_rt hP hg.frame hw hJ
 | _=>exact unwind_rt hP hg.frame hw hJ
end Go.Proofs.Ytoheddpnnjldgaa.Bq
end
namespace Go.Proofs.Ytoheddpnnjldgaa
open Go.RowKit
end Go.Proofs.Ytoheddpnnjldgaa
section
namespace Go.Proofs.Ytoheddpnnjldgaa.Bq
open Go
set_option maxHeartbeats 4000000
variable {P:Program}
def bk (fr:Frame) (cs:List Frame):CallKind:=(cs.getLast?.getD fr).kind
theorem bk_push (fr a:Frame) (cs:List Frame):bk a (fr::cs)=bk fr cs:=by
 unfold bk
 rw [List.getLast?_cons]
 rfl
theorem bk_kind {fr fr':Frame} (cs:List Frame) (h:fr'.kind=fr.kind):bk fr' cs=bk fr cs:=by
 unfold bk
 cases cs.getLast? with
 | none=>exact h
 | some x=>rfl
theorem finish_kind (fr:Frame) (v:Value):(fr.finish v).kind=fr.kind:=by
 unfold Frame.finish
 split <;> rfl
theorem raise_kind (fr:Frame) (vs:List PanicEntry):(fr.raise vs).kind=fr.kind:=by
 unfold Frame.raise
 split <;> rfl
def DyOk (g:Goroutine):Prop:=∃ d,g.dying=some d∧(d.calling=true→bk g.frame g.callers=.report)
def StepD:GStep→Prop
 | .go g _ _ | .comm g _ _ _ _ _ | .spawn g _ _ _=>DyOk g
 | _=>True
theorem stepD_after {es:Array Event} {s:GStep} (h:StepD s):StepD (GStep.after es s):=by cases s <;> exact h
theorem stepD_ite {c:Prop} [Decidable c] {a b:GStep} (ha:StepD a) (hb:StepD b):StepD (if c then a else b):=by split <;> assumption
theorem map_getLast {cs cs':List Frame} (h:cs'.map (·.kind)=cs.map (·.kind)) (fr:Frame):bk fr cs'=bk fr cs:=by
 unfold bk
 have h2:(cs'.getLast?).map (·.kind)=(cs.getLast?).map (·.kind):=by
   rw [← List.getLast?_map,← List.getLast?_map,h]
 cases h3:cs'.getLast? with
 | none=>rw [h3] at h2;cases h4:cs.getLast? with
   | none=>rfl
   | some x=>rw [h4] at h2;cases h2
 | some y=>rw [h3] at h2;cases h4:cs.getLast? with
   | none=>rw [h4] at h2;cases h2
   | some x=>rw [h4] at h2;exact Option.some.inj h2
theorem recover_kinds {fr:Frame}:∀ {cs:List Frame} {v:Value} {cs':List Frame},tryRecover fr cs=some (v,cs')→cs'.map (·.kind)=cs.map (·.kind):=by
 intro cs
 induction cs generalizing fr with
 | nil=>intro v cs' h;unfold tryRecover at h;cases hk:fr.kind <;> simp [hk] at h
 | cons c cs ih =>
   intro v cs' h
   unfold tryRecover at h
   split at h
   · rename_i caller rest hk e
     cases e
     split at h
     · cases h;rfl
     · cases h
   · rename_i wr rest hk e
     cases e
     rcases Option.map_eq_some_iff.1 h with ⟨⟨v',r'⟩,h1,h2⟩
     cases h2
     simp only [List.map_cons,ih h1]
   · cases h
theorem recoverLoop_kinds (l:Nat):∀ {cs:List Frame} {v:Value} {cs':List Frame},tryRecoverLoop l cs=some (v,cs')→cs'.map (·.kind)=cs.map (·.kind):=by
 intro cs
 induction cs generalizing l with
 | nil=>intro v cs' h;cases h
 | cons c cs ih =>
   intro v cs' h
   unfold tryRecoverLoop at h
   rcases Option.map_eq_some_iff.1 h with ⟨⟨v',r'⟩,h1,h2⟩
   cases h2
   simp only [List.map_cons]
   split at h1
   · rw [ih _ h1]
   · split at h1
     · rw [recover_kinds h1]
     · rw [ih _ h1]
   · rw [ih _ h1]
section
variable {fr:Frame} {cs:List Frame} {d:Dying}
theorem stepD_go {fr':Frame} {cs':List Frame} {st:GoStatus} {w:World} {es:Array Event} (hk:bk fr cs=.report) (h:bk fr' cs'=bk fr cs):StepD (.go { frame:=fr',callers:=cs',status:=st,dying:=some d } w es):=⟨d,rfl,fun _=>h.trans hk⟩
theorem dieOf_D {a:List ByteArray} {m:String} {b:Bool} {w:World}:StepD (dieOf fr a m b w):=⟨_,rfl,fun h=>by cases h⟩
theorem fatal_D {dy:Option Dying} {m:String} {w:World}:StepD (endFatal P fr cs dy m w):=by
 unfold endFatal
 dsimp only
 split
 · exact dieOf_D
 · exact trivial
 · exact trivial
theorem printing_D {v:Value} {w:World}:StepD (endPrinting P fr v w):=by
 unfold endPrinting
 dsimp only
 split
 · exact dieOf_D
 · exact trivial
theorem early_D {g:Nat} {w:World} (hk:bk fr cs=.report):StepD (early P fr cs (some d) g w):=by
 have hnot : ∀ w : World, StepD (match w.heap[g]? with
     | some (.pending c elem)=>.go { frame:=fr,callers:=cs,status:=.running,dying:=some d } { w with heap:=w.heap.setIfInBounds g (.cells c elem) }
     | _ => .ended (.stuck "early: the variable does not wait" (fr.pos P)) w) := by
   intro w
   split
   · exact stepD_go hk rfl
   · exact trivial
 have hthere:∀ (f:FuncId) (fs:List FuncId) (w:World),StepD (.go { frame:=Frame.enter P f #[] .early,callers:=fs.map (Frame.enter P · #[] .early)++fr::cs,status:=.running,dying:=some d } w):=by
   intro f fs w
   refine stepD_go hk ?_
   unfold bk
   rw [List.getLast?_append]
   rw [List.getLast?_cons]
   rfl
 unfold early
 dsimp only
 split
 · exact hnot w
 · split
   · exact trivial
   · split
     · exact hnot w
     · split
       · exact hnot w
       · split
         · exact trivial
         · exact hthere _ _ w
         · exact trivial
         · exact hnot w
         · split
           · exact hthere _ _ w
           · split
             · exact hnot w
             · split
               · exact hnot _
               · exact hthere _ _ _
               · exact trivial
theorem apply_D {s:Sem Next} {w:World} (hk:bk fr cs=.report):StepD (stepG.apply P true fr cs (some d) s w):=by
 unfold stepG.apply
 simp only [if_true]
 generalize s.runT P w #[]=r
 obtain ⟨r,es⟩:=r
 dsimp only
 refine stepD_after ?_
 cases r with
 | ok nx w' =>
   cases nx <;> (try dsimp only)
   case value v=>exact stepD_go hk (bk_kind cs (finish_kind fr v))
   case skip=>exact stepD_go hk (bk_kind cs (finish_kind fr _))
   case enter f args=>exact stepD_go hk (bk_push _ _ _)
   case round l f t a b=>exact stepD_go hk (bk_push _ _ _)
   case defer x=>exact stepD_go hk (bk_kind cs (finish_kind _ _))
   case recover =>
     split
     · rename_i v cs' e
       have hm:cs'.map (·.kind)=cs.map (·.kind):=by
         split at e
         · split at e
           · exact recover_kinds e
           · exact recoverLoop_kinds _ e
         · exact recover_kinds e
       exact stepD_go hk ((bk_kind cs' (finish_kind fr _)).trans (map_getLast hm fr))
     · exact stepD_go hk (bk_kind cs (finish_kind fr _))
   case spawn x =>
     have hsp:∀ child,StepD (.spawn { frame:=fr.finish undef,callers:=cs,status:=.running,dying:=some d } child w'):=fun _=>⟨d,rfl,fun _=>(bk_kind cs (finish_kind fr _)).trans hk⟩
     split <;> split <;> first | exact dieOf_D | exact hsp _
   case comm a b c=>exact ⟨d,rfl,fun _=>hk⟩
   case callThen a b c e=>split <;> first | exact stepD_go hk (bk_kind cs rfl) | exact stepD_go hk (bk_push _ _ _)
   case row a b=>split <;> first | exact stepD_go hk (bk_kind cs rfl) | exact stepD_go hk (bk_push _ _ _)
   case stack a b=>split <;> first | exact stepD_go hk (bk_kind cs rfl) | exact stepD_go hk (bk_push _ _ _)
   case sleep t=>exact stepD_go hk (bk_kind cs (finish_kind fr _))
   all_goals exact trivial
 | halt h w' =>
   cases h <;> (try dsimp only)
   case panic v=>exact stepD_go hk (bk_kind cs (raise_kind fr _))
   case goexit=>exact stepD_go hk (bk_kind cs (raise_kind fr _))
   case blocked=>exact stepD_go hk rfl
   case waiting=>exact stepD_go hk rfl
   case fatal m=>exact fatal_D
   case throw m=>exact dieOf_D
   case unsupported u=>cases u <;> first | exact trivial | exact early_D hk
   all_goals exact trivial
theorem bk_cons_nil {c:Frame} {rest:List Frame}:bk fr (c::rest)=bk c rest:=bk_push c fr rest
theorem doReturn_D {main:Bool} {v:Value} {w:World} (hk:bk fr cs=.report):StepD (doReturn P main fr cs (some d) v w):=by
 unfold doReturn
 cases cs with
 | cons c rest =>
  rw [bk_cons_nil] at hk
  (try dsimp only)
  split
  ·exact stepD_go hk (bk_kind rest (finish_kind c v))
  ·exact stepD_go hk (bk_kind rest (finish_kind c v))
  ·exact stepD_go hk rfl
  ·refine stepD_go hk (bk_kind rest ?_)
   (try dsimp only)
   split
   ·split <;> rfl
   ·rfl
 | nil =>
  have hk':fr.kind=.report:=hk
  rw [hk']
  cases v <;> first | exact trivial | exact ⟨_,rfl,fun h=>by cases h⟩
theorem callDeferred_D {x:Deferred} {w:World} (hk:bk fr cs=.report):StepD (callDeferred P fr cs (some d) x w):=by
 unfold callDeferred
 refine stepD_ite trivial ?_
 dsimp only
 generalize (invoke x.target x.args).runT P w #[]=r
 obtain ⟨r,es⟩:=r
 dsimp only
 refine stepD_after ?_
 cases r with
 | ok nx w' =>
  cases nx <;> (try dsimp only)
  case enter f args=>exact stepD_go hk (bk_push _ _ _)
  case round l f t a b=>exact stepD_go hk (bk_push _ _ _)
  case callThen a b c e=>exact stepD_go hk (bk_push _ _ _)
  case row a b=>exact stepD_go hk (bk_push _ _ _)
  case recover =>
   split
   ·rename_i e
    exact stepD_go hk (map_getLast (recover_kinds e) fr)
   ·exact stepD_go hk rfl
  case alone b v=>cases b <;> exact trivial
  case coroswitch c b=>cases b <;> exact trivial
  all_goals first | exact trivial | exact stepD_go hk rfl
 | halt h w' =>
  cases h <;> (try dsimp only)
  case panic v=>exact stepD_go hk (bk_kind cs (raise_kind fr _))
  case goexit=>exact stepD_go hk (bk_kind cs (raise_kind fr _))
  case fatal m=>exact fatal_D
  case throw m=>exact dieOf_D
  all_goals first | exact trivial | exact stepD_go hk (bk_kind cs rfl)
end
end Go.Proofs.Ytoheddpnnjldgaa.Bq
end
namespace Go.Proofs.Ytoheddpnnjldgaa
open Go.RowKit
end Go.Proofs.Ytoheddpnnjldgaa
section
namespace Go.Proofs.Ytoheddpnnjldgaa.Bq
open Go
set_option maxHeartbeats 4000000
variable {P:Program}
theorem bk_same {fr fr':Frame} {cs:List Frame} (hk:bk fr cs=.report) (h:fr'.kind=fr.kind):bk fr' cs=.report:=(bk_kind cs h).trans hk
section
variable {fr:Frame} {cs:List Frame} {d:Dying}
theorem leave_D {main:Bool} {w:World} (hk:bk fr cs=.report) (b:Bool) (j:Option Code) :
  StepD (match fr.roundOf with
   | none => if b = true then .go { frame := { fr with mode := .returning }, callers := cs, status := .running, dying := some d } w else .ended (.stuck "exit, goto: no such block or label" (fr.pos P)) w
   | some l =>
    GStep.after (seen P fr.fn ((Instr.endRound l j).runT P w #[]).2) (match ((Instr.endRound l j).runT P w #[]).1 with
    | .ok v w=>doReturn P main fr cs (some d) v w
    | .halt _ w => .ended (.stuck "range over a function: no such loop" (fr.pos P)) w)) := by
 split
 ·split
  ·exact stepD_go hk (bk_kind cs rfl)
  ·exact trivial
 ·refine stepD_after ?_
  generalize ((Instr.endRound _ j).runT P w #[]).1=r
  cases r with
  | ok v w'=>exact doReturn_D hk
  | halt h w'=>exact trivial
theorem exec_D {main:Bool} {w:World} (hk:bk fr cs=.report):StepD (stepG.exec P main true fr cs (some d) w):=by
 have hto:∀ (td:List Item),StepD (.go { frame:={ fr with todo:=td },callers:=cs,status:=.running,dying:=some d } w):=fun td=>stepD_go hk (bk_kind cs rfl)
 unfold stepG.exec
 obtain ⟨fn,tmps,todo,defers,mode,kind,ro⟩:=fr
 cases todo with
 | nil=>exact leave_D hk true none
 | cons it k =>
  cases it with
  | inBlock id=>exact hto k
  | inScope b=>exact hto k
  | inLoop b=>exact hto _
  | inRangeFunc l=>exact trivial
  | call x a b c=>exact apply_D hk
  | beginRound=>exact apply_D hk
  | endRangeFunc l =>
   dsimp only
   refine stepD_after ?_
   generalize (Instr.endLoop l).runT P w #[]=r
   obtain ⟨r,es⟩:=r
   cases r with
   | ok j w'=>exact stepD_go hk (bk_kind cs rfl)
   | halt h w'=>cases h <;> first | exact trivial | exact stepD_go hk (bk_kind cs (raise_kind _ _))
  | inRegion ops t =>
   cases t with
   | nil=>exact hto k
   | cons i t =>
    refine stepD_ite ?_ (stepD_go hk (bk_kind cs (finish_kind _ _)))
    unfold stepG.oper
    split
    ·exact trivial
    ·split <;> exact apply_D hk
  | code c =>
   cases c with
   | ret=>exact leave_D hk true (some .ret)
   | skip=>exact hto k
   | label l=>exact hto k
   | seq a b=>exact hto _
   | cond c a b =>
    dsimp only
    split
    ·exact hto _
    ·exact trivial
   | block id b=>exact hto _
   | loop b=>exact hto _
   | scope b=>exact hto _
   | exit id =>
    dsimp only
    cases he:exitTo id k with
    | none=>exact leave_D hk false (some (.exit id))
    | some k'=>exact hto k'
   | goto l =>
    dsimp only
    cases he:gotoIn l k with
    | none=>exact leave_D hk false (some (.goto l))
    | some k'=>exact hto k'
   | rangeFunc f ps a b =>
    dsimp only
    refine stepD_after ?_
    generalize (Instr.enterLoop fn tmps ps a b ro).runT P w #[]=r
    obtain ⟨r,es⟩:=r
    cases r with
    | ok x w'=>exact apply_D (bk_same hk rfl)
    | halt h w'=>exact trivial
   | refuse why=>exact trivial
   | region id ops draw =>
    dsimp only
    refine stepD_ite (hto _) ?_
    generalize (choose (.order fn id)).run P w=r
    cases r with
    | ok x w'=>exact stepD_go hk (bk_kind cs rfl)
    | halt h w'=>exact trivial
  | _ =>
   rename_i a b
   dsimp only
   cases Extern.next a with
   | none=>exact trivial
   | some e=>exact apply_D hk
theorem unwind_D {main:Bool} {w:World} (hk:bk fr cs=.report):StepD (unwind P main fr cs (some d) w):=by
 unfold unwind
 split
 ·rename_i block args ds e
  refine stepD_after ?_
  generalize ((Instr.takeDeferred block).runT P w #[]).1=r
  cases r with
  | ok calls w'=>exact stepD_go hk (bk_kind cs rfl)
  | halt h w'=>exact trivial
 ·exact callDeferred_D (bk_same hk rfl)
 ·split
  ·exact trivial
  ·refine stepD_ite trivial ?_
   cases cs with
   | cons c rest =>
    rw [bk_cons_nil] at hk
    exact stepD_go hk (bk_kind rest (raise_kind _ _))
   | nil =>
    dsimp only
    split
    ·exact printing_D
    ·exact trivial
  ·split
   ·exact doReturn_D hk
   ·refine stepD_after ?_
    generalize ((results _ fr.tmps).runT P w #[]).1=r
    cases r with
    | ok v w'=>exact doReturn_D hk
    | halt h w'=>cases h <;> exact trivial
end
theorem endWith_D {w:World} {fd:Nat} {text:ByteArray} {o:Outcome}:StepD (endWith w fd text o):=by
 unfold endWith
 dsimp only
 split
 · split <;> exact trivial
 · exact trivial
 · exact trivial
theorem die_D {fr:Frame} {d:Dying} {w:World} (hc:d.calling=false):StepD (die P fr d w):=by
 have hg:∀ (d':Dying) (st:GoStatus) (w:World) (es:Array Event),d'.calling=false→StepD (.go { frame:=fr,callers:=[],status:=st,dying:=some d' } w es):=fun d' st w es h=>⟨d',rfl,fun e=>by rw [h] at e;cases e⟩
 unfold die
 split
 ·unfold writeOn
  dsimp only
  split
  ·exact trivial
  ·split <;> first | exact trivial | exact hg _ _ _ _ hc
 ·split
  ·split
   ·exact hg _ _ _ _ hc
   ·exact endWith_D
  ·dsimp only
   split
   ·exact hg _ _ _ _ hc
   ·split
    ·exact hg _ _ _ _ hc
    ·exact trivial
   ·refine stepD_after ?_
    split
    ·exact ⟨_,rfl,fun _=>rfl⟩
    ·exact hg _ _ _ _ hc
    ·exact trivial
    ·exact printing_D
    ·exact trivial
   ·exact trivial
theorem stepG_D {main:Bool} {g:Goroutine} {w:World} (h:DyOk g):StepD (stepG P main g w):=by
 obtain ⟨fr,cs,st,dy,of⟩:=g
 obtain ⟨d,hd,hk⟩:=h
 dsimp only at hd
 subst hd
 obtain ⟨todo,texts,calling,pending,re,hand,fatal⟩:=d
 unfold stepG
 cases calling with
 | false=>exact die_D rfl
 | true =>
  dsimp only
  cases hm:fr.mode with
  | run=>exact exec_D (hk rfl)
  | _=>exact unwind_D (hk rfl)
end Go.Proofs.Ytoheddpnnjldgaa.Bq
end
namespace Go.Proofs.Ytoheddpnnjldgaa
open Go.RowKit
end Go.Proofs.Ytoheddpnnjldgaa
section
namespace Go.Proofs.Ytoheddpnnjldgaa.Bq
open Go
set_option maxHeartbeats 4000000
variable {P:Program}
def Lonely (gs:Array Goroutine):Prop:=∀ r s,partners gs r s=[]
theorem ways_lonely {gs gs1:Array Goroutine} (h:Lonely gs) (h1:Lonely gs1) (w:World) (c:CommCase):ways w gs c=ways w gs1 c:=by
 unfold ways
 simp only [h _ _,h1 _ _]
theorem ways_noPartner {gs:Array Goroutine} (h:Lonely gs) (w:World) (c:CommCase) (a b:Nat):Way.partner a b ∉ ways w gs c:=by
 unfold ways
 simp only [h _ _]
 intro hm
 split at hm
 ·split at hm
  ·split at hm
   ·simp at hm
   ·split at hm <;> simp at hm
  ·split at hm
   ·simp at hm
   ·split at hm <;> simp at hm
  ·simp at hm
 ·simp at hm
theorem pick_run {rd:List (Nat×CommCase×List Way)} {d:Nat×CommCase×List Way} {q1:Question} {q2:Nat→Question} {k:Nat} {c:CommCase} {way:Way} {w w':World}
  (e:Sem.run P (do
   let a ← choose q1
   let b ← choose (q2 a)
   pure ((rd.getD a d).1,(rd.getD a d).2.1,(rd.getD a d).2.2.getD b .closed)) w=.ok (k,c,way) w') :
  (∃ a b,c=(rd.getD a d).2.1∧way=(rd.getD a d).2.2.getD b .closed)∧w'.heap=w.heap:=by
 simp only [choose,bind,Sem.bind,Sem.run,pure] at e
 split at e <;> split at e <;> (cases e;exact ⟨⟨_,_,rfl,rfl⟩,rfl⟩)
def actOk (B:Nat):MemAct→Prop
 | .send c _ | .sendDone c _ | .recv c _ _ | .recvDone c _ | .recvClosed c=>c < B
 | _=>False
structure CommOk (w:World) (i:Nat) (g g':Goroutine) (w':World) (ops:Array MemOp):Prop where
 ok:GOk g→GOk g'
 dying:g'.dying=g.dying
 bk:bk g'.frame g'.callers=bk g.frame g.callers
 st:g'.status=.running∨g'.status=.blocked
 heap:HeapOk w→HeapOk w'
 size:HeapOk w→w.heap.size≤w'.heap.size
 ops:0 < w.heap.size→∀ op∈ops,op.g=i∧actOk w'.heap.size op.act
def Twin (w:World) (rest rest1:Rest) (i:Nat) (g:Goroutine) (gs gs1:Array Goroutine) (x y:Stepped×Array MemOp):Prop :=
 (∃ o w,x=(.ended o w,#[])∧y=(.ended o w,#[]))∨∃ g' w' ops,x=(.next { world:=w',gs:=gs.setIfInBounds i g',rest },ops)∧y=(.next { world:=w',gs:=gs1.setIfInBounds i g',rest:=rest1 },ops)∧CommOk w i g g' w' ops
section
variable {rest rest1:Rest} {gs gs1:Array Goroutine} {i:Nat} {g:Goroutine} {w:World}
theorem twin_end {o:Outcome} {w1:World}:Twin w rest rest1 i g gs gs1 (.ended o w1,#[]) (.ended o w1,#[]):=.inl ⟨o,w1,rfl,rfl⟩
theorem twin_put {g':Goroutine} {w':World} {ops:Array MemOp} (h:CommOk w i g g' w' ops):Twin w rest rest1 i g gs gs1 (.next { world:=w',gs:=gs.setIfInBounds i g',rest },ops) (.next { world:=w',gs:=gs1.setIfInBounds i g',rest:=rest1 },ops):=.inr ⟨g',w',ops,rfl,rfl,h⟩
theorem fin_ok (p:Program) (cs:Array CommCase) (sh:CommShape) (k:Int) (v:Value) (b:Bool) {w':World} {ops:Array MemOp} (hh:HeapOk w→HeapOk w') (hs:w.heap.size≤w'.heap.size) (ho:0 < w.heap.size→∀ op∈ops,op.g=i∧actOk w'.heap.size op.act) :
  CommOk w i g (g.finishComm p cs sh k v b) w' ops :=
 ⟨fun h=>⟨h.frame.finish _,h.callers⟩,rfl,bk_kind _ (finish_kind _ _),.inl rfl,hh,fun _=>hs,ho⟩
end
theorem rd_mem {cs:Array CommCase} {W:CommCase→List Way} {f:Nat×CommCase×List Way→Bool} (a:Nat) (d:Nat×CommCase×List Way) :
  ((cs.zipIdx.toList.map fun x=>(x.2,x.1,W x.1)).filter f).getD a d=d∨∃ k c,c∈cs∧((cs.zipIdx.toList.map fun x=>(x.2,x.1,W x.1)).filter f).getD a d=(k,c,W c):=by
 rw [List.getD_eq_getElem?_getD]
 cases e:((cs.zipIdx.toList.map fun x=>(x.2,x.1,W x.1)).filter f)[a]? with
 | none=>exact .inl rfl
 | some y =>
  have hy:=(List.mem_filter.1 (List.mem_of_getElem? e)).1
  obtain ⟨x,hx,rfl⟩:=List.mem_map.1 hy
  refine .inr ⟨x.2,x.1,?_,rfl⟩
  have h2:x∈cs.toList.zipIdx:=by simpa using hx
  exact Array.mem_toList_iff.1 (List.fst_mem_of_mem_zipIdx h2)
theorem run_halt {α:Type} {s:Sem α} {x:Halt} {w w':World} (hr:s.run P w=.halt x w') (ht:Tame P okC s) (hw:HeapOk w):HeapOk w'∧w.heap.size≤w'.heap.size:=by
 have h:=ran_of ht hw
 have e:(s.runT P w #[]).1=.halt x w':=by rw [Sem.runT_fst];exact hr
 have h1:=h.heap
 have h2:=h.size
 rw [e] at h1 h2
 exact ⟨h1,h2⟩
theorem comm_twin {rest rest1:Rest} {gs gs1:Array Goroutine} {i:Nat} {g:Goroutine} {cs:Array CommCase} {b:Bool} {sh:CommShape} {w:World} (hst:g.status=.running) (ht:rest.timers = #[]) (ht1:rest1.timers = #[]) (h:Lonely gs) (h1:Lonely gs1) :
  Twin w rest rest1 i g gs gs1 (communicate P rest gs i g cs b sh w) (communicate P rest1 gs1 i g cs b sh w):=by
 have hw:ways w gs=ways w gs1:=funext fun c=>ways_lonely h h1 w c
 have none_ops:∀ B:Nat,0 < w.heap.size→∀ op∈(#[]:Array MemOp),op.g=i∧actOk B op.act:=fun B _ op ho=>by simp at ho
 have hwait:∀ (rest:Rest),rest.timers = #[]→waitingAt rest cs w=some w:=by
  intro rest ht
  unfold waitingAt
  have:timerAhead rest w.os.mono cs=false:=by
   unfold timerAhead
   have hc:∀ c:CommCase,(match c.chan with | .chan (some r)=>rest.timers.any fun t=>t.chan == some r && decide (t.when > w.os.mono) | _=>false)=false:=by
    intro c
    rw [ht]
    split <;> simp
   rw [Array.any_eq_false]
   intro j hj e
   exact Bool.false_ne_true ((hc _).symm.trans e)
  rw [this]
  rfl
 unfold communicate
 dsimp only
 rw [hw,hwait rest ht,hwait rest1 ht1]
 split
 ·exact twin_end
 ·rename_i hill
  split
  ·split
   ·exact twin_put ⟨fun hg=>⟨hg.frame,hg.callers⟩,rfl,rfl,.inr rfl,id,fun _=>Nat.le_refl _,none_ops _⟩
   ·exact twin_put (fin_ok P cs sh _ _ _ id (Nat.le_refl _) (none_ops _))
  ·split
   ·exact twin_end
   ·rename_i k c way w1 heq
    obtain ⟨⟨a,b',hc,hway⟩,hheap⟩:=pick_run heq
    have hw1:HeapOk w→HeapOk w1:=fun hw b o ho=>hw b o (by rwa [hheap] at ho)
    have hs1:w.heap.size≤w1.heap.size:=by rw [hheap];exact Nat.le_refl _
    have hr:∀ r,(match c.chan with | .chan (some r)=>r | _=>0)=r→0 < w.heap.size→r < w1.heap.size:=by
     intro r hr h0
     rw [hheap]
     rcases rd_mem (cs:=cs) (W:=ways w gs1) a (0,default,[]) with e | ⟨k',c',hc',e⟩
     ·rw [hc,e] at hr
      have:r=0:=hr.symm
      omega
     ·rw [hc,e] at hr
      dsimp only at hr
      have hi:∀ c∈cs,(match c.chan with | .chan none=>false | .chan (some r)=>!(w.heap[r]? matches some (.chan ..)) | _=>true)=false:=by
       intro c hc
       have h2:=hill
       rw [Array.any_eq_true'] at h2
       cases hb:(match c.chan with | .chan none=>false | .chan (some r)=>!(w.heap[r]? matches some (.chan ..)) | _=>true) with
       | false=>rfl
       | true=>exact absurd ⟨c,hc,hb⟩ h2
      have h3:=hi c' hc'
      split at hr
      ·rename_i r' e'
       rw [e'] at h3
       subst hr
       rcases Nat.lt_or_ge r' w.heap.size with h9 | h9
       ·exact h9
       ·dsimp only at h3
        rw [Array.getElem?_eq_none h9] at h3
        cases h3
      ·omega
    have hnp:∀ x y,way≠.partner x y:=by
     intro x y e9
     rw [hway] at e9
     rcases rd_mem (cs:=cs) (W:=ways w gs1) a (0,default,[]) with e | ⟨k',c',hc',e⟩
     ·rw [e] at e9
      cases e9
     ·rw [e,List.getD_eq_getElem?_getD] at e9
      dsimp only at e9
      cases e8:(ways w gs1 c')[b']? with
      | none=>rw [e8] at e9;cases e9
      | some z =>
       rw [e8] at e9
       have:z=.partner x y:=e9
       subst this
       exact ways_noPartner h1 w c' x y (List.mem_of_getElem? e8)
    simp only [h _ _,h1 _ _]
    split
    ·split
     ·rename_i v w2 hrun
      have h7 : HeapOk w → HeapOk w2 ∧ w1.heap.size ≤ w2.heap.size := fun hh => run_halt hrun (q_rp (.plain "send on closed channel")) (hw1 hh)
      refine twin_put ⟨fun hg=>⟨hg.frame.raise _,hg.callers⟩,rfl,bk_kind _ (raise_kind _ _),.inl hst,fun hh=>(h7 hh).1,fun hh=>Nat.le_trans hs1 (h7 hh).2,none_ops _⟩
     ·exact twin_end
    ·exact twin_put (fin_ok P cs sh _ _ _ hw1 hs1 (fun h0 op ho=>by
      rw [Array.mem_singleton.1 ho]
      exact ⟨rfl,hr _ rfl h0⟩))
    ·refine twin_put (fin_ok P cs sh _ _ _ (fun hh=>heapOk_set (hw1 hh) trivial) (by simpa using hs1) (fun h0 op ho=>?_))
     simp only [List.mem_toArray,List.mem_cons,List.not_mem_nil,or_false] at ho
     rcases ho with rfl | rfl <;> exact ⟨rfl,by unfold actOk;dsimp only;rw [Array.size_setIfInBounds];exact hr _ rfl h0⟩
    ·refine twin_put (fin_ok P cs sh _ _ _ (fun hh=>heapOk_set (hw1 hh) trivial) (by simpa using hs1) (fun h0 op ho=>?_))
     simp only [List.mem_toArray,List.mem_cons,List.not_mem_nil,or_false] at ho
     rcases ho with rfl | rfl <;> exact ⟨rfl,by unfold actOk;dsimp only;rw [Array.size_setIfInBounds];exact hr _ rfl h0⟩
    ·exact absurd rfl (hnp _ _)
    ·exact absurd rfl (hnp _ _)
    ·exact twin_end
end Go.Proofs.Ytoheddpnnjldgaa.Bq
end
namespace Go.Proofs.Ytoheddpnnjldgaa
open Go.RowKit
end Go.Proofs.Ytoheddpnnjldgaa
section
namespace Go.Proofs.Ytoheddpnnjldgaa.Bq
open Go
set_option maxHeartbeats 4000000
variable {P:Program}
def rest0:Rest:={ timers:=#[],alone:=none,slice:=none }
def fin0:Array Goroutine:=#[{ (default:Goroutine) with status:=.finished }]
theorem lonely_fin:Lonely fin0:=fun r s=>rfl
theorem step_one {g:Goroutine} {w:World} (hst:g.status=.running):step P (oneG g w)=(runT P (oneG g w) 0).1:=by
 rw [step,stepT,move_oneG hst]
theorem step_one_go {g g':Goroutine} {w w':World} {es:Array Event} (hst:g.status=.running) (h:stepG P true g w=.go g' w' es):step P (oneG g w)=.next (oneG g' w'):=by
 rw [step_one hst]
 simp [runT,oneG,Array.swapAt!,h]
theorem step_one_ended {g:Goroutine} {w w':World} {o:Outcome} {es:Array Event} (hst:g.status=.running) (h:stepG P true g w=.ended o w' es):step P (oneG g w)=.ended o w':=by
 rw [step_one hst]
 simp [runT,oneG,Array.swapAt!,h]
theorem step_one_spawn {g g' c:Goroutine} {w w':World} {es:Array Event} (hst:g.status=.running) (h:stepG P true g w=.spawn g' c w' es):∃ m',step P (oneG g w)=.next m'∧m'.gs.size=2:=by
 rw [step_one hst]
 simp [runT,oneG,Array.swapAt!,h]
theorem step_one_comm {g g':Goroutine} {w w':World} {cs:Array CommCase} {b:Bool} {sh:CommShape} {es:Array Event} (hst:g.status=.running) (h:stepG P true g w=.comm g' cs b sh w' es) :
  step P (oneG g w)=(communicate P rest0 fin0 0 g' cs b sh w').1:=by
 rw [step_one hst]
 simp [runT,oneG,Array.swapAt!,h,rest0,fin0]
theorem step_one_stop {g:Goroutine} {w:World} (hst:g.status=.finished∨g.status=.blocked):∃ o w',step P (oneG g w)=.ended o w':=by
 obtain ⟨fr,cs,st,dy,off⟩:=g
 obtain ⟨o', w', he, ho⟩ := endWith_ended w 2 (bytes "fatal error: all goroutines are asleep - deadlock!\n") (.fatal "all goroutines are asleep - deadlock!")
 rcases hst with h | h
 ·simp only at h
  subst h
  simp [step,stepT,move,ask,askOn,oneG,runnable_eq,due,ahead,Goroutine.canRun,List.range_succ,pure]
  obtain ⟨o2, w2, he2, -⟩ := endWith_ended w 2 (bytes "fatal error: no goroutines (main called runtime.Goexit) - deadlock!\n") (.fatal "no goroutines (main called runtime.Goexit) - deadlock!")
  rw [he2]
  exact ⟨_,_,rfl⟩
 ·simp only at h
  subst h
  refine ⟨o',w',?_⟩
  simp [step,stepT,move,ask,askOn,oneG,runnable_eq,due,ahead,Goroutine.canRun,List.range_succ,pure]
  rw [he]
def Dead (g:Goroutine) (w:World):Prop :=
 (∃ d,g.dying=some d∧((d.calling=false∧d.fatal.isSome=true)∨(GOk g∧HeapOk w∧0 < w.heap.size∧(d.calling=true→bk g.frame g.callers=.report))))∧(g.status=.running∨g.status=.finished∨g.status=.blocked)
def DeadS:GStep→Prop
 | .go g w _=>Dead g w
 | .ended .. | .spawn ..=>True
 | .comm g _ _ _ w _=>DyOk g∧GOk g∧HeapOk w∧0 < w.heap.size∧g.status=.running
 | _=>False
theorem deadS_after {es:Array Event} {s:GStep}:DeadS (GStep.after es s)↔DeadS s:=by cases s <;> rfl
theorem deadS_dieOf {fr:Frame} {a:List ByteArray} {m:String} {b:Bool} {w:World}:DeadS (dieOf fr a m b w):=⟨⟨_,rfl,.inl ⟨rfl,rfl⟩⟩,.inl rfl⟩
theorem deadS_printing {fr:Frame} {v:Value} {w:World}:DeadS (endPrinting P fr v w):=by
 unfold endPrinting
 dsimp only
 split
 · exact deadS_dieOf
 · exact trivial
theorem dead_step (hP:FuncsOk P) {main:Bool} {g:Goroutine} {w:World} (h:Dead g w):DeadS (stepG P main g w):=by
 obtain ⟨⟨d,hd,hk⟩,-⟩:=h
 cases hc:d.calling with
 | true =>
  rcases hk with ⟨h1,-⟩ | ⟨hg,hw,h0,hb⟩
  ·rw [hc] at h1;cases h1
  have h1:=stepG_ok (main:=main) hP hg (fun d' e=>by rw [hd] at e;cases e;exact hc) hw
  have h2:=stepG_D (P:=P) (main:=main) (g:=g) (w:=w) ⟨d,hd,hb⟩
  generalize stepG P main g w=s at h1 h2
  cases s with
  | go g' w' es =>
   obtain ⟨d',e',hk'⟩:=h2
   exact ⟨⟨d',e',.inr ⟨h1.1,h1.2.1,Nat.lt_of_lt_of_le h0 h1.2.2.1,hk'⟩⟩,h1.2.2.2.1.imp id .inl⟩
  | ended o w' es=>exact trivial
  | spawn g' c w' es=>exact trivial
  | comm g' cs b sh w' es =>
   exact ⟨h2,h1.2.1,h1.2.2.1,Nat.lt_of_lt_of_le h0 h1.2.2.2.1,h1.1.2⟩
  | _=>exact h1
 | false =>
  obtain ⟨fr,cs,st,dy,of⟩:=g
  dsimp only at hd
  subst hd
  obtain ⟨todo,texts,calling,pending,re,hand,fatal⟩:=d
  dsimp only at hc
  subst hc
  unfold stepG
  dsimp only
  unfold die
  cases hf:fatal with
  | some f =>
   dsimp only
   rcases writeOn_ok (P:=P) (fr:=fr) (d:=⟨todo,texts,false,pending,re,hand,some f⟩) (f:=f) (w:=w) _ rfl with ⟨o,w',es,e⟩ | ⟨st',w',es,f',hst,e⟩
   ·rw [e];exact trivial
   ·rw [e];exact ⟨⟨_,rfl,.inl ⟨rfl,rfl⟩⟩,hst.imp id .inr⟩
  | none =>
   subst hf
   rcases hk with ⟨-,h1⟩ | ⟨hg,hw,h0,-⟩
   ·cases h1
   have hg0:∀ fr':Frame,FrOk fr'→∀ (st:GoStatus) (d':Dying) (of:Option (Array CommCase×CommShape)),GOk { frame:=fr',callers:=[],status:=st,dying:=some d',offers:=of }:=fun fr' h st d' of=>⟨h,fun f h=>by cases h⟩
   dsimp only
   split
   ·split
    ·exact ⟨⟨_,rfl,.inr ⟨hg0 fr hg.frame _ _ _,hw,h0,fun h=>by cases h⟩⟩,.inr (.inr rfl)⟩
    ·rcases endWith_ended w 2 (panicReport texts) (.panic re) with ⟨o',w',he,-⟩
     rw [he];exact trivial
   ·split
    ·exact ⟨⟨_,rfl,.inr ⟨hg0 fr hg.frame _ _ _,hw,h0,fun h=>by cases h⟩⟩,.inl rfl⟩
    ·split
     ·rename_i hr
      have h3:=run_ok hr (TameC.h) hw
      exact ⟨⟨_,rfl,.inr ⟨hg0 fr hg.frame _ _ _,h3.1,Nat.lt_of_lt_of_le h0 h3.2,fun h=>by cases h⟩⟩,.inl rfl⟩
     ·exact trivial
    ·rename_i t recv name _
     rw [deadS_after]
     have hr:=ran_of (q_invoke hP (.fn (.method name) #[]) rfl #[.iface t recv]) hw
     generalize (invoke (.fn (.method name) #[]) #[.iface t recv]).runT P w #[]=r at hr
     obtain ⟨r,es⟩:=r
     dsimp only at hr ⊢
     split
     ·exact ⟨⟨_,rfl,.inr ⟨hg0 _ (FrOk.enter hP _ _ _) _ _ _,hr.heap,Nat.lt_of_lt_of_le h0 hr.size,fun _=>rfl⟩⟩,.inl rfl⟩
     ·exact ⟨⟨_,rfl,.inr ⟨hg0 fr hg.frame _ _ _,hr.heap,Nat.lt_of_lt_of_le h0 hr.size,fun h=>by cases h⟩⟩,.inl rfl⟩
     ·exact trivial
     ·exact deadS_printing
     ·exact trivial
    ·exact trivial
end Go.Proofs.Ytoheddpnnjldgaa.Bq
end
namespace Go.Proofs.Ytoheddpnnjldgaa
open Go.RowKit
end Go.Proofs.Ytoheddpnnjldgaa
section
namespace Go.Proofs.Ytoheddpnnjldgaa.Bq
open Go
set_option maxHeartbeats 4000000
variable {P:Program}
theorem run_size:∀ (n:Nat) {m m':Machine},runN P n m=.next m'→m.gs.size≤m'.gs.size
 | 0,m,m',h=>by cases h;exact Nat.le_refl _
 | n+1,m,m',h=>by
  simp only [runN] at h
  cases hs:step P m with
  | next m1=>rw [hs] at h;exact Nat.le_trans (stepT_size P m m1 true hs) (run_size n h)
  | ended o w=>rw [hs] at h;cases h
theorem one_comm {g:Goroutine} {w:World} {cs:Array CommCase} {b:Bool} {sh:CommShape} (hst:g.status=.running) {m:Machine} (h:(communicate P rest0 fin0 0 g cs b sh w).1=.next m) :
  ∃ g' w' ops,m=oneG g' w'∧communicate P rest0 fin0 0 g cs b sh w=(.next { world:=w',gs:=fin0.setIfInBounds 0 g',rest:=rest0 },ops)∧CommOk w 0 g g' w' ops:=by
 rcases comm_twin (P:=P) (rest:=rest0) (rest1:=rest0) (gs:=fin0) (gs1:=fin0) (i:=0) (g:=g) (cs:=cs) (b:=b) (sh:=sh) (w:=w) hst rfl rfl lonely_fin lonely_fin with ⟨o,w1,e,-⟩ | ⟨g',w',ops,e,-,hc⟩
 ·rw [e] at h;cases h
 ·rw [e] at h
  have hm:=Stepped.next.inj h
  exact ⟨g',w',ops,hm.symm,e,hc⟩
theorem dead_never (hP:FuncsOk P):∀ (n:Nat) {g:Goroutine} {w:World},Dead g w→∀ (fr:Frame) (cs:List Frame) (w':World),runN P n (oneG g w)≠.next (lone fr cs w')
 | 0,g,w,h,fr,cs,w',e=>by
  obtain ⟨⟨d,hd,-⟩,-⟩:=h
  have e1:=congrArg (fun s:Stepped=>match s with | .next m=>m.gs[0]? | _=>none) e
  have e2:some g=some { frame:=fr,callers:=cs,status:=.running,dying:=none }:=e1
  cases e2
  cases hd
 | n+1,g,w,h,fr,cs,w',e=>by
  simp only [runN] at e
  rcases h.2 with hst | hst
  ·have hs:=dead_step (main:=true) hP h
   cases hg:stepG P true g w with
   | go g1 w1 es =>
    rw [hg] at hs
    rw [step_one_go hst hg] at e
    exact dead_never hP n hs fr cs w' e
   | ended o w1 es =>
    rw [step_one_ended hst hg] at e
    cases e
   | spawn g1 c w1 es =>
    obtain ⟨m',h1,h2⟩:=step_one_spawn hst hg
    rw [h1] at e
    have:=run_size n e
    rw [h2] at this
    simp [lone] at this
   | comm g1 cs1 b sh w1 es =>
    rw [hg] at hs
    obtain ⟨⟨d,hd,hk⟩,h1,h2,h3,h4⟩:=hs
    rw [step_one_comm hst hg] at e
    cases hm:(communicate P rest0 fin0 0 g1 cs1 b sh w1).1 with
    | ended o w2=>rw [hm] at e;cases e
    | next m =>
     rw [hm] at e
     obtain ⟨g',w2,ops,rfl,-,hc⟩:=one_comm h4 hm
     refine dead_never hP n (g:=g') (w:=w2) ⟨⟨d,hc.dying.trans hd,.inr ⟨hc.ok h1,hc.heap h2,Nat.lt_of_lt_of_le h3 (hc.size h2),fun hcal=>hc.bk.trans (hk hcal)⟩⟩,hc.st.imp id .inr⟩ fr cs w' e
   | _=>rw [hg] at hs;exact hs.elim
  ·obtain ⟨o,w1,h1⟩:=step_one_stop (P:=P) (g:=g) (w:=w) hst
   rw [h1] at e
   cases e
structure Live (g:Goroutine) (w:World):Prop where
 st:g.status=.running
 dy:g.dying=none
 ok:GOk g
 heap:HeapOk w
 some_:0 < w.heap.size
def Own (P:Program) (g:Goroutine) (w:World) (g1:Goroutine) (w1:World):Prop :=
 (∃ es,stepG P true g w=.go g1 w1 es∧∀ x∈es,EvT w1.heap.size x) ∨
 ∃ gc cc b sh wc es ops,stepG P true g w=.comm gc cc b sh wc es∧(∀ x∈es,EvT w1.heap.size x)∧gc.status=.running∧HeapOk wc∧0 < wc.heap.size∧w.heap.size≤wc.heap.size ∧
  communicate P rest0 fin0 0 gc cc b sh wc=(.next { world:=w1,gs:=fin0.setIfInBounds 0 g1,rest:=rest0 },ops)∧CommOk wc 0 gc g1 w1 ops
theorem live_run (hP:FuncsOk P) {g:Goroutine} {w:World} (h:Live g w) {n:Nat} {fr:Frame} {cs:List Frame} {w':World} (e:runN P (n+1) (oneG g w)=.next (lone fr cs w')) :
  ∃ g1 w1,Live g1 w1∧w.heap.size≤w1.heap.size∧runN P n (oneG g1 w1)=.next (lone fr cs w') ∧
   Own P g w g1 w1:=by
 simp only [runN] at e
 have hs:=stepG_ok (main:=true) hP h.ok (fun d e=>by rw [h.dy] at e;cases e) h.heap
 have hnd:∀ g1 w1,runN P n (oneG g1 w1)=.next (lone fr cs w')→g1.status=.running∨g1.status=.finished∨g1.status=.blocked→g1.status=.running:=by
  intro g1 w1 e1 hst
  rcases hst with hst | hst
  ·exact hst
  ·cases n with
   | zero =>
    have e2:=congrArg (fun s:Stepped=>match s with | .next m=>m.gs[0]? | _=>none) e1
    have e3:some g1=some { frame:=fr,callers:=cs,status:=.running,dying:=none }:=e2
    cases e3
    rfl
   | succ n =>
    simp only [runN] at e1
    obtain ⟨o,w2,h2⟩:=step_one_stop (P:=P) (g:=g1) (w:=w1) hst
    rw [h2] at e1
    cases e1
 cases hg:stepG P true g w with
 | go g1 w1 es =>
  rw [hg] at hs
  rw [step_one_go h.st hg] at e
  have hd:g1.dying=none:=by
   cases hd:g1.dying with
   | none=>rfl
   | some d =>
    refine absurd e (dead_never hP n ?_ fr cs w')
    exact ⟨⟨d,hd,.inr ⟨hs.1,hs.2.1,Nat.lt_of_lt_of_le h.some_ hs.2.2.1,fun hc=>by rw [hs.2.2.2.2.2 h.dy d hd] at hc;cases hc⟩⟩,hs.2.2.2.1.imp id .inl⟩
  have hst:=hnd g1 w1 e (hs.2.2.2.1.imp id .inl)
  exact ⟨g1,w1,⟨hst,hd,hs.1,hs.2.1,Nat.lt_of_lt_of_le h.some_ hs.2.2.1⟩,hs.2.2.1,e,.inl ⟨es,hg,hs.2.2.2.2.1 hd⟩⟩
 | ended o w1 es=>rw [step_one_ended h.st hg] at e;cases e
 | spawn g1 c w1 es =>
  obtain ⟨m',h1,h2⟩:=step_one_spawn h.st hg
  rw [h1] at e
  have:=run_size n e
  rw [h2] at this
  simp [lone] at this
 | comm gc cc b sh wc es =>
  rw [hg] at hs
  rw [step_one_comm h.st hg] at e
  cases hm:(communicate P rest0 fin0 0 gc cc b sh wc).1 with
  | ended o w2=>rw [hm] at e;cases e
  | next m =>
   rw [hm] at e
   obtain ⟨g',w2,ops,rfl,hcm,hc⟩:=one_comm hs.1.2 hm
   have hst:=hnd g' w2 e (hc.st.imp id .inr)
   have h3:=hc.size hs.2.2.1
   exact ⟨g',w2,⟨hst,hc.dying.trans (hs.1.1.trans h.dy),hc.ok hs.2.1,hc.heap hs.2.2.1,Nat.lt_of_lt_of_le h.some_ (Nat.le_trans hs.2.2.2.1 h3)⟩,Nat.le_trans hs.2.2.2.1 h3,e,
    .inr ⟨gc,cc,b,sh,wc,es,ops,hg,fun x hx=>EvT.mono h3 (hs.2.2.2.2 x hx),hs.1.2,hs.2.2.1,Nat.lt_of_lt_of_le h.some_ hs.2.2.2.1,hs.2.2.2.1,hcm,hc⟩⟩
 | _=>rw [hg] at hs;exact hs.elim
end Go.Proofs.Ytoheddpnnjldgaa.Bq
end
namespace Go.Proofs.Ytoheddpnnjldgaa
open Go.RowKit
end Go.Proofs.Ytoheddpnnjldgaa
section
namespace Go.Proofs.Ytoheddpnnjldgaa.Bq
open Go
set_option maxHeartbeats 4000000
variable {P:Program} {J:Nat→Option Obj} {T:Nat→Question→Nat}
theorem ways_rt {w:World} (hJ:JOk J w) (c:Nat) (gs:Array Goroutine) (cc:CommCase):ways (rt J w T c) gs cc=ways w gs cc:=by
 unfold ways
 split
 ·rename_i r _
  rcases hx_of hJ r with e | ⟨o,o',e1,e2,h1,h2⟩
  ·rw [show (rt J w T c).heap[r]? = w.heap[r]? from e]
  ·rw [show (rt J w T c).heap[r]? = some o from e1,e2]
   cases o <;> first | (cases h1;done) | (cases o' <;> first | (cases h2;done) | (cases cc.send <;> rfl))
 ·rfl
theorem chan_rt {w:World} (hJ:JOk J w) (c r:Nat) {cap:Nat} {buf:Array Value} {closed:Bool} {sent rcvd:Nat} {tm:Bool} (h:w.heap[r]? = some (.chan cap buf closed sent rcvd tm)):(rt J w T c).heap[r]? = some (.chan cap buf closed sent rcvd tm):=by
 show (un J w.heap)[r]? = _
 rw [un_get,h]
 rfl
theorem ill_rt {w:World} (hJ:JOk J w) (c:Nat) (cs:Array CommCase):(cs.any fun cc=>match cc.chan with | .chan none=>false | .chan (some r)=>!((rt J w T c).heap[r]? matches some (.chan ..)) | _=>true)=(cs.any fun cc=>match cc.chan with | .chan none=>false | .chan (some r)=>!(w.heap[r]? matches some (.chan ..)) | _=>true):=by
 congr 1
 funext cc
 split
 ·rfl
 ·rename_i r _
  rcases hx_of hJ r with e | ⟨o,o',e1,e2,h1,h2⟩
  ·rw [show (rt J w T c).heap[r]? = w.heap[r]? from e]
  ·rw [show (rt J w T c).heap[r]? = some o from e1,e2]
   cases o <;> first | (cases h1;done) | (cases o' <;> first | (cases h2;done) | rfl)
 ·rfl
theorem run_rt {α:Type} {s:Sem α} {a:α} {w w':World} {Q:α→Prop} (hs:TameQ P okC Q s) (hw:HeapOk w) (hJ:JOk J w) {c:Nat} (hr:s.run P w=.ok a w') :
  w.drawn≤w'.drawn∧w'.tape=w.tape∧(Agree T c w w'.drawn→s.run P (rt J w T c)=.ok a (rt J w' T (c+(w'.drawn - w.drawn)))):=by
 have e:(s.runT P w #[]).1=.ok a w':=by rw [Sem.runT_fst];exact hr
 have up:=runT_up P s w #[]
 rw [e] at up
 refine ⟨up.1,up.2,fun ha=>?_⟩
 have h:=rt_tame s hs w hw hJ #[] T c (by rw [e];exact ha) (by rw [e];exact fun _ _ h=>by cases h)
 rw [← Sem.runT_fst P s _ #[],h,e]
 show rtR J ((s.runT P w #[]).1) T _=_
 rw [e]
 rfl
theorem halt_rt {α:Type} {s:Sem α} {v:Value} {w w':World} {Q:α→Prop} (hs:TameQ P okC Q s) (hw:HeapOk w) (hJ:JOk J w) {c:Nat} (hr:s.run P w=.halt (.panic v) w') :
  w.drawn≤w'.drawn∧w'.tape=w.tape∧(Agree T c w w'.drawn→s.run P (rt J w T c)=.halt (.panic v) (rt J w' T (c+(w'.drawn - w.drawn)))):=by
 have e:(s.runT P w #[]).1=.halt (.panic v) w':=by rw [Sem.runT_fst];exact hr
 have up:=runT_up P s w #[]
 rw [e] at up
 refine ⟨up.1,up.2,fun ha=>?_⟩
 have h:=rt_tame s hs w hw hJ #[] T c (by rw [e];exact ha) (by rw [e];exact fun _ _ h=>by cases h)
 rw [← Sem.runT_fst P s _ #[],h,e]
 show rtR J ((s.runT P w #[]).1) T _=_
 rw [e]
 rfl
def CommRt (J:Nat→Option Obj) (T:Nat→Question→Nat) (c:Nat) (w:World) (x y:Stepped×Array MemOp):Prop :=
 (∃ o w1,x=(.ended o w1,#[]))∨∃ w' gs rest ops,x=(.next { world:=w',gs,rest },ops)∧w.drawn≤w'.drawn∧(Agree T c w w'.drawn→y=(.next { world:=rt J w' T (c+(w'.drawn - w.drawn)),gs,rest },ops))
theorem commRt_put {c:Nat} {w:World} {gs:Array Goroutine} {rest:Rest} {ops:Array MemOp} {y:Stepped×Array MemOp} (h:y=(.next { world:=rt J w T c,gs,rest },ops)):CommRt J T c w (.next { world:=w,gs,rest },ops) y :=
 .inr ⟨w,gs,rest,ops,rfl,Nat.le_refl _,fun _=>by rw [h,Nat.sub_self];rfl⟩
theorem comm_rt {rest:Rest} {gs:Array Goroutine} {i:Nat} {g:Goroutine} {cs:Array CommCase} {b:Bool} {sh:CommShape} {w:World} (hw:HeapOk w) (hJ:JOk J w) (c:Nat) (ht:rest.timers = #[]) (h:Lonely gs) :
  CommRt J T c w (communicate P rest gs i g cs b sh w) (communicate P rest gs i g cs b sh (rt J w T c)):=by
 have hways:ways (rt J w T c) gs=ways w gs:=funext fun cc=>ways_rt hJ c gs cc
 have hwait:∀ w:World,waitingAt rest cs w=some w:=by
  intro w
  unfold waitingAt
  have:timerAhead rest w.os.mono cs=false:=by
   unfold timerAhead
   have hc:∀ c:CommCase,(match c.chan with | .chan (some r)=>rest.timers.any fun t=>t.chan == some r && decide (t.when > w.os.mono) | _=>false)=false:=by
    intro c
    rw [ht]
    split <;> simp
   rw [Array.any_eq_false]
   intro j hj e
   exact Bool.false_ne_true ((hc _).symm.trans e)
  rw [this]
  rfl
 have hill:=ill_rt (T:=T) hJ c cs
 have hill2:∀ A B:Stepped×Array MemOp,¬ (cs.any fun cc=>match cc.chan with | .chan none=>false | .chan (some r)=>!(w.heap[r]? matches some (.chan ..)) | _=>true)=true →
   (if (cs.any fun cc=>match cc.chan with | .chan none=>false | .chan (some r)=>!((rt J w T c).heap[r]? matches some (.chan ..)) | _=>true)=true then A else B)=B:=fun A B h=>if_neg (by rw [hill];exact h)
 generalize hy:communicate P rest gs i g cs b sh (rt J w T c)=y
 unfold communicate
 dsimp only
 rw [hwait]
 split
 ·exact .inl ⟨_,_,rfl⟩
 ·rename_i h0
  unfold communicate at hy
  dsimp only at hy
  rw [hways,hwait] at hy
  have hy2:=(hill2 _ _ h0).symm.trans hy
  clear hy
  split
  ·rename_i h1
   rw [if_pos h1] at hy2
   split
   ·rename_i h2
    rw [if_pos h2] at hy2
    exact commRt_put hy2.symm
   ·rename_i h2
    rw [if_neg h2] at hy2
    exact commRt_put hy2.symm
  ·rename_i h1
   rw [if_neg h1] at hy2
   split
   ·exact .inl ⟨_,_,rfl⟩
   ·rename_i k cc way w1 heq
    have hp:=fun c=>run_rt (J:=J) (T:=T) (c:=c) (Q:=fun _=>True) (s:=_) (by
     refine Tame.bind' (TameC.h) fun _=>Tame.bind' (TameC.h) fun _=>trivial) hw hJ heq
    have hd:=(hp c).1
    have hheap:=(pick_run heq).2
    have hJ1:JOk J w1:=fun b o e=>by rw [hheap];exact hJ b o e
    have hgo:Agree T c w w1.drawn→_:=fun ha=>by
     have h5:=(hp c).2.2 ha
     rw [h5] at hy2
     exact hy2
    have fin:∀ (w':World) (gs':Array Goroutine) (ops:Array MemOp) (f:World→World),(∀ w:World,(f w).drawn=w.drawn)→(∀ c,f (rt J w1 T c)=rt J (f w1) T c)→(Agree T c w w1.drawn→y=(.next { world:=f (rt J w1 T (c+(w1.drawn - w.drawn))),gs:=gs',rest },ops)) →
      CommRt J T c w (.next { world:=f w1,gs:=gs',rest },ops) y:=by
     intro w' gs' ops f hf hr hyy
     refine .inr ⟨f w1,gs',rest,ops,rfl,by rw [hf];exact hd,fun ha=>?_⟩
     rw [hf] at ha ⊢
     rw [hyy ha,hr]
    simp only [h _ _] at hgo ⊢
    split
    ·split
     ·rename_i v w2 hrun
      have hq := fun c => halt_rt (Q := fun _ => True) (J := J) (T := T) (c := c) (q_rp (.plain "send on closed channel")) (show HeapOk w1 from fun b o ho => hw b o (by rwa [hheap] at ho)) hJ1 hrun
      refine .inr ⟨w2,_,rest,_,rfl,Nat.le_trans hd (hq c).1,fun ha=>?_⟩
      have ha1:Agree T c w w1.drawn:=fun j hj q=>ha j (Nat.lt_of_lt_of_le hj (hq c).1) q
      have h5:=(hq (c+(w1.drawn - w.drawn))).2.2 (fun j hj q=>by
       have h6:=ha (w1.drawn - w.drawn+j) (by omega) q
       rw [show c+(w1.drawn - w.drawn)+j=c+(w1.drawn - w.drawn+j) by omega,h6,(hp c).2.1,show w.drawn+(w1.drawn - w.drawn+j)=w1.drawn+j by omega])
      have h9:=hgo ha1
      rw [h5] at h9
      rw [show c+(w2.drawn - w.drawn)=c+(w1.drawn - w.drawn)+(w2.drawn - w1.drawn) by have:=(hq c).1;omega]
      exact h9.symm
     ·exact .inl ⟨_,_,rfl⟩
    ·refine fin w1 _ _ id (fun _=>rfl) (fun _=>rfl) fun ha=>?_
     exact (hgo ha).symm
    ·rename_i cap buf closed sent rcvd tm v hs hob hsend
     refine fin w1 _ _ (fun w=>{ w with heap:=w.heap.setIfInBounds _ _ }) (fun _=>rfl) (fun c=>rt_set T c _ rfl) fun ha=>?_
     have h9:=hgo ha
     rw [chan_rt hJ1 _ _ hob,hsend] at h9
     exact h9.symm
    ·rename_i cap buf closed sent rcvd tm hs hob hsend
     refine fin w1 _ _ (fun w=>{ w with heap:=w.heap.setIfInBounds _ _ }) (fun _=>rfl) (fun c=>rt_set T c _ rfl) fun ha=>?_
     have h9:=hgo ha
     rw [chan_rt hJ1 _ _ hob,hsend] at h9
     exact h9.symm
    ·rename_i cap buf closed sent rcvd tm h' hk v hs hob hsend
     refine fin w1 _ _ (fun w=>{ w with heap:=w.heap.setIfInBounds _ _ }) (fun _=>rfl) (fun c=>rt_set T c _ rfl) fun ha=>?_
     have h9:=hgo ha
     rw [chan_rt hJ1 _ _ hob,hsend] at h9
     exact h9.symm
    ·rename_i cap buf closed sent rcvd tm h' hk hs hob hsend
     refine fin w1 _ _ (fun w=>{ w with heap:=w.heap.setIfInBounds _ _ }) (fun _=>rfl) (fun c=>rt_set T c _ rfl) fun ha=>?_
     have h9:=hgo ha
     rw [chan_rt hJ1 _ _ hob,hsend] at h9
     exact h9.symm
    ·exact .inl ⟨_,_,rfl⟩
end Go.Proofs.Ytoheddpnnjldgaa.Bq
end
namespace Go.Proofs.Ytoheddpnnjldgaa
open Go.RowKit
end Go.Proofs.Ytoheddpnnjldgaa
section
namespace Go.Proofs.Ytoheddpnnjldgaa.Bq
open Go Go.Conc
set_option maxHeartbeats 4000000
variable {P:Program} {J:Nat→Option Obj} {T:Nat→Question→Nat}
theorem own_step {g g1:Goroutine} {w w1:World} (hst:g.status=.running) (h:Own P g w g1 w1):step P (oneG g w)=.next (oneG g1 w1):=by
 rcases h with ⟨es,h,-⟩ | ⟨gc,cc,b,sh,wc,es,ops,h,-,-,-,-,-,hc,-⟩
 ·exact step_one_go hst h
 ·rw [step_one_comm hst h,hc]
  rfl
theorem own_comm {gc g1:Goroutine} {wc w1:World} {cc:Array CommCase} {b:Bool} {sh:CommShape} {ops:Array MemOp} {rest:Rest} {gs:Array Goroutine} (hst:gc.status=.running) (hw:HeapOk wc) (hJ:JOk J wc) (ht:rest.timers = #[]) (hl:Lonely gs)
  (h:communicate P rest0 fin0 0 gc cc b sh wc=(.next { world:=w1,gs:=fin0.setIfInBounds 0 g1,rest:=rest0 },ops)) (c:Nat) :
  wc.drawn≤w1.drawn∧(Agree T c wc w1.drawn→communicate P rest gs 0 gc cc b sh (rt J wc T c)=(.next { world:=rt J w1 T (c+(w1.drawn - wc.drawn)),gs:=gs.setIfInBounds 0 g1,rest },ops)):=by
 have h1:communicate P rest gs 0 gc cc b sh wc=(.next { world:=w1,gs:=gs.setIfInBounds 0 g1,rest },ops):=by
  rcases comm_twin (P:=P) (rest:=rest) (rest1:=rest0) (gs:=gs) (gs1:=fin0) (i:=0) (g:=gc) (cs:=cc) (b:=b) (sh:=sh) (w:=wc) hst ht rfl hl lonely_fin with ⟨o,w2,-,e⟩ | ⟨g',w2,ops2,e1,e2,-⟩
  ·rw [h] at e;cases e
  ·rw [h] at e2
   have e3:=congrArg (fun x:Stepped×Array MemOp=>match x.1 with | .next m=>(m.world,m.gs[0]?) | _=>(wc,none)) e2
   have e4:(w1,some g1)=(w2,some g'):=e3
   have e5:=congrArg (fun x:Stepped×Array MemOp=>x.2) e2
   cases e4
   have e6:ops=ops2:=e5
   subst e6
   exact e1
 rcases comm_rt (P:=P) (T:=T) (rest:=rest) (gs:=gs) (i:=0) (g:=gc) (cs:=cc) (b:=b) (sh:=sh) hw hJ c ht hl with ⟨o,w2,e⟩ | ⟨w2,gs2,rest2,ops2,e,e1,e2⟩
 ·rw [h1] at e;cases e
 ·rw [h1] at e
  cases e
  exact ⟨e1,e2⟩
theorem un_none (h:Array Obj):un (fun _=>none) h=h:=by
 refine un_ext fun b=>?_
 rw [un_get]
 cases h[b]? with
 | none=>rfl
 | some o=>simp [un1]
theorem rt_none (w:World) (T:Nat→Question→Nat) (c:Nat):rt (fun _=>none) w T c = { w with tape:=T,drawn:=c }:=by
 unfold rt
 rw [un_none]
theorem jok_none (w:World):JOk (fun _=>none) w:=fun b o h=>by cases h
theorem step_tape (hP:FuncsOk P) {g:Goroutine} {w:World} (hl:Live g w) {s:GStep} (h:stepG P true g w=s) (hg:Good s):w.drawn≤(GStep.wd s).drawn∧(GStep.wd s).tape=w.tape:=by
 have hs:=stepG_rt (J:=fun _=>none) (T:=w.tape) (c:=w.drawn) (main:=true) hP hl.ok hl.dy hl.heap (jok_none w)
 have e:rt (fun _=>none) w w.tape w.drawn=w:=by rw [rt_none]
 rw [e,h] at hs
 obtain ⟨h1,h2⟩:=hs hg
 refine ⟨h1,?_⟩
 have h3:=h2 fun j hj q=>rfl
 have h4:=congrArg (fun s=>(GStep.wd s).tape) h3
 rw [h4]
 cases s <;> first | rfl | exact hg.elim
end Go.Proofs.Ytoheddpnnjldgaa.Bq
end
namespace Go.Proofs.Ytoheddpnnjldgaa
open Go.RowKit
end Go.Proofs.Ytoheddpnnjldgaa
section
namespace Go.Proofs.Ytoheddpnnjldgaa.Bq
open Go Go.Conc
open Go.ConcN (sumTo upd sumTo_upd upd_ne upd_same)
set_option maxHeartbeats 4000000
variable {P:Program} {J:Nat→Option Obj} {T:Nat→Question→Nat}
abbrev NoShun:Loc→Prop:=fun _=>False
theorem evL_of {B:Nat} {e:Event} (h:EvT B e):EvL NoShun B e:=by
 obtain ⟨l,wr,sy⟩:=e
 refine ⟨fun x _ hs=>hs.elim,?_,?_,?_⟩
 ·rintro rfl
  exact h.elim
 ·rintro rfl
  exact h.elim
 ·cases l with
  | cell a=>exact h
  | obj r=>cases wr <;> cases sy <;> exact h
  | output=>exact trivial
  | goroutines=>exact h.elim
  | mark m =>
   cases m <;> first | exact h.elim | exact trivial
theorem lonely_leavers {t:Trace} {gs:Array Goroutine} {q:Nat→Nat} (hL:Leavers P t gs q):Lonely (gs.setIfInBounds 0 ph):=by
 intro r s
 unfold partners
 rw [List.flatMap_eq_nil_iff]
 rintro ⟨g,i⟩ hm
 rw [Array.toList_zipIdx,List.mk_mem_zipIdx_iff_getElem?] at hm
 have h3:(gs.setIfInBounds 0 ph)[i]? = some g:=by rw [← Array.getElem?_toList];exact hm
 have h4:g.status≠.blocked:=by
  rw [Array.getElem?_setIfInBounds] at h3
  split at h3
  ·split at h3
   ·cases h3;intro h;cases h
   ·cases h3
  ·rename_i hne
   have:=(hL.old i g (by omega) h3).status
   intro h
   rw [h] at this
   rcases this with h | h <;> cases h
 dsimp only
 cases hs:g.status <;> first | rfl | exact absurd hs h4
theorem actOk_low {B:Nat} {a:MemAct} (h:actOk B a):a.low B∧a.touch? = none∧(∀ d g (op:MemOp),op.act=a→deafStep g d op=d):=by
 cases a <;> first | exact h.elim | (refine ⟨h,rfl,fun d g op e=>?_⟩;unfold deafStep;rw [e])
theorem deaf_quiet (t:Trace) (g:Nat) {u:Trace} {B:Nat} (h:∀ op∈u,actOk B op.act):Deaf (t++u) g=Deaf t g:=by
 obtain ⟨l⟩:=u
 rw [Deaf_append]
 have h':∀ op∈l,actOk B op.act:=fun op ho=>h op (by simpa using ho)
 clear h
 generalize Deaf t g=d
 induction l generalizing d with
 | nil=>rfl
 | cons y l ih =>
  rw [List.foldl_cons,(actOk_low (h' y (List.mem_cons_self ..))).2.2 d g y rfl]
  exact ih (fun op ho=>h' op (List.mem_cons_of_mem _ ho)) d
theorem own_company (hP:FuncsOk P) {g g1:Goroutine} {w w1:World} (hl:Live g w) (hl1:Live g1 w1) (hs:w.heap.size≤w1.heap.size) (hJ:JOk J w) (ho:Own P g w g1 w1) {gs:Array Goroutine} {sl:Option (Nat×Nat)} {t:Trace} {q:Nat→Nat}
  (h0:gs[0]? = some g) (hL:Leavers P t gs q) (hP0:Past NoShun w.heap.size t) {d:Nat} (ha:Agree T d w w1.drawn) :
  ∃ gs1 ops,runT P (crowd gs (rt J w T d) sl) 0=(.next (crowd gs1 (rt J w1 T (d+(w1.drawn - w.drawn))) sl),ops)∧gs1.size=gs.size∧gs1[0]? = some g1∧Leavers P (t++ops) gs1 q∧Past NoShun w1.heap.size (t++ops):=by
 have hlt:0 < gs.size:=(Array.getElem?_eq_some_iff.1 h0).1
 have hev:∀ {es:Array Event},(∀ x∈es,EvT w1.heap.size x)→Past NoShun w1.heap.size (t++MemOp.ofEvents 0 g.frame.fn g.frame.place es):=fun he=>(hP0.mono hs).own fun e hx=>evL_of (he e hx)
 have hown0:∀ (es:Array Event),∀ op∈MemOp.ofEvents 0 g.frame.fn g.frame.place es,op.g=0:=fun es op hop=>by obtain ⟨e,_,rfl⟩:=Conc.mem_ofEvents hop;rfl
 rcases ho with ⟨es,h,he⟩ | ⟨gc,cc,b,sh,wc,es,ops,h,he,hst,hwc,h0c,hsz,hc,hok⟩
 ·have hst:=stepG_rt (J:=J) (T:=T) (c:=d) (main:=true) hP hl.ok hl.dy hl.heap hJ
  rw [h] at hst
  have h2:stepG P true g (rt J w T d)=.go g1 (rt J w1 T (d+(w1.drawn - w.drawn))) es:=(hst hl1.dy).2 ha
  refine ⟨_,_,runT_crowd_go (P:=P) (sl:=sl) (i:=0) h0 h2,by simp,by simp [hlt],⟨fun j x hj hx=>?_,fun j hj=>?_⟩,hev he⟩
  ·have hne:0≠j:=by omega
   rw [Array.getElem?_setIfInBounds_ne hne,Array.getElem?_map] at hx
   obtain ⟨y,hy,rfl⟩:=Option.map_eq_some_iff.1 hx
   have hq:=hL.old j y hj hy
   rw [woken_quitsD hq,Deaf_other t (by omega) _ (hown0 es)]
   exact hq
  ·rw [Deaf_other t (g':=0) (by simp at hj;omega) _ (hown0 es)]
   exact hL.above j (by simpa using hj)
 ·have hst2:=stepG_rt (J:=J) (T:=T) (c:=d) (main:=true) hP hl.ok hl.dy hl.heap hJ
  rw [h] at hst2
  obtain ⟨h1,h2⟩:=hst2 trivial
  have h1':w.drawn≤wc.drawn:=h1
  have hup:wc.tape=w.tape:=(step_tape hP hl h trivial).2
  have hlone:=lonely_leavers hL
  have h3:=fun c=>own_comm (P:=P) (J:=J) (T:=T) (rest:=(crowd gs (rt J w T d) sl).rest) (gs:=gs.setIfInBounds 0 ph) hst hwc (hJ.mono hsz) rfl hlone hc c
  have h4:=(h3 0).1
  have e2:stepG P true g (rt J w T d)=.comm gc cc b sh (rt J wc T (d+(wc.drawn - w.drawn))) es:=h2 fun j hj q=>ha j (Nat.lt_of_lt_of_le hj h4) q
  have e3:=(h3 (d+(wc.drawn - w.drawn))).2 fun j hj q=>by
   have h6:=ha (wc.drawn - w.drawn+j) (by omega) q
   rw [show d+(wc.drawn - w.drawn)+j=d+(wc.drawn - w.drawn+j) by omega,h6,hup,show w.drawn+(wc.drawn - w.drawn+j)=wc.drawn+j by omega]
  have e4:=runT_crowd_comm (P:=P) (sl:=sl) (w:=rt J w T d) (i:=0) h0 e2
  rw [e3,show d+(wc.drawn - w.drawn)+(w1.drawn - wc.drawn)=d+(w1.drawn - w.drawn) by omega] at e4
  have hops:=hok.ops h0c
  refine ⟨_,_,e4,by simp,by simp [hlt],⟨fun j x hj hx=>?_,fun j hj=>?_⟩,?_⟩
  ·have hne:0≠j:=by omega
   rw [Array.getElem?_setIfInBounds_ne hne,Array.getElem?_setIfInBounds_ne hne] at hx
   have hq:=hL.old j x hj hx
   rw [Deaf_other t (g:=j) (g':=0) (by omega) _ (fun op hop=>(Array.mem_append.1 hop).elim (hown0 es op) fun ho=>(hops op ho).1)]
   exact hq
  ·rw [Deaf_other t (g:=j) (g':=0) (by simp at hj;omega) _ (fun op hop=>(Array.mem_append.1 hop).elim (hown0 es op) fun ho=>(hops op ho).1)]
   exact hL.above j (by simpa using hj)
  ·show Past NoShun w1.heap.size (t++(MemOp.ofEvents 0 g.frame.fn g.frame.place es++ops))
   rw [← Array.append_assoc]
   exact (hev he).app0 (fun op ho=>(hops op ho).1) (fun op ho b hb hs=>hs.elim) (deaf_quiet _ _ fun op ho=>(hops op ho).2) (fun op ho=>(actOk_low (hops op ho).2).1)
end Go.Proofs.Ytoheddpnnjldgaa.Bq
end
namespace Go.Proofs.Ytoheddpnnjldgaa
open Go.RowKit
end Go.Proofs.Ytoheddpnnjldgaa
section
namespace Go.Proofs.Ytoheddpnnjldgaa.Bq
open Go Go.Conc
open Go.ConcN (sumTo upd sumTo_upd upd_ne upd_same)
set_option maxHeartbeats 4000000
variable {P:Program} {J:Nat→Option Obj} {T:Nat→Question→Nat}
theorem until_own {g:Goroutine} (hrun:g.status=.running) {B:Nat} {W:World}:∀ (M:Nat) (gs:Array Goroutine) (c:Nat) (sl:Option (Nat×Nat)) (t:Trace) (q:Nat→Nat),sumTo gs.size q≤M→gs[0]? = some g→Leavers P t gs q→Past NoShun B t →
  ∃ N gs1 sl1 t1 q1 d1 d2 sl2,runNT P N (crowd gs (W.at c) sl) t=(.next (crowd gs1 (W.at d1) sl1),t1)∧stepT P (crowd gs1 (W.at d1) sl1)=runT P (crowd gs1 (W.at d2) sl2) 0∧gs1[0]? = some g∧Leavers P t1 gs1 q1∧Past NoShun B t1:=by
 intro M
 induction M with
 | zero =>
  intro gs c sl t q hM h0 hL hP
  have haw:∀ g∈gs,awake g:=by
   intro g' hg
   obtain ⟨i,hi,rfl⟩:=Array.mem_iff_getElem.1 hg
   rcases Nat.eq_zero_or_pos i with rfl | hpos
   ·have:gs[0]=g:=by simpa [Array.getElem?_eq_getElem hi] using h0
    rw [this];exact awake_of (.inl hrun)
   ·exact awake_of ((hL.old i _ hpos (Array.getElem?_eq_getElem hi)).status.elim .inl fun x=>.inr (.inr x))
  obtain ⟨i,g',d,sl',hi,hg,hst⟩:=crowd_pick (P:=P) (w:=W.at c) (sl:=sl) haw ⟨0,g,h0,hrun⟩
  rcases Nat.eq_zero_or_pos i with rfl | hpos
  ·exact ⟨0,gs,sl,t,q,c,d,sl',rfl,hst,h0,hL,hP⟩
  ·have hq:=hL.old i g' hpos hi
   have hlt:i < gs.size:=(Array.getElem?_eq_some_iff.1 hi).1
   have hz:q i=0:=by
    have h1:sumTo gs.size (upd q i 0)+q i=sumTo gs.size q+0:=by simpa using sumTo_upd q 0 id hlt
    omega
   rw [hz] at hq
   rw [hq.1] at hg
   cases hg
 | succ M ih =>
  intro gs c sl t q hM h0 hL hP
  have haw:∀ g∈gs,awake g:=by
   intro g' hg
   obtain ⟨i,hi,rfl⟩:=Array.mem_iff_getElem.1 hg
   rcases Nat.eq_zero_or_pos i with rfl | hpos
   ·have:gs[0]=g:=by simpa [Array.getElem?_eq_getElem hi] using h0
    rw [this];exact awake_of (.inl hrun)
   ·exact awake_of ((hL.old i _ hpos (Array.getElem?_eq_getElem hi)).status.elim .inl fun x=>.inr (.inr x))
  obtain ⟨i,g',d,sl',hi,hg,hst⟩:=crowd_pick (P:=P) (w:=W.at c) (sl:=sl) haw ⟨0,g,h0,hrun⟩
  rcases Nat.eq_zero_or_pos i with rfl | hpos
  ·exact ⟨0,gs,sl,t,q,c,d,sl',rfl,hst,h0,hL,hP⟩
  ·have hq:=hL.old i g' hpos hi
   have hi0:(i == 0)=false:=by simp;omega
   have hlt:i < gs.size:=(Array.getElem?_eq_some_iff.1 hi).1
   cases hqi:q i with
   | zero=>rw [hqi] at hq;rw [hq.1] at hg;cases hg
   | succ k =>
    rw [hqi] at hq
    rcases hq with ⟨hf,_⟩ | ⟨_,g2,es,hm,hstp,hq'⟩
    ·rw [hf] at hg;cases hg
    have hrunT:=runT_crowd_go (P:=P) (sl:=sl') (i:=i) hi (by rw [hi0];exact hstp (W.at d))
    have hsz:((gs.map (woken P g' g2 (W.at d))).setIfInBounds i g2).size=gs.size:=by simp
    have hsum:sumTo gs.size (upd q i k)+(k+1)=sumTo gs.size q+k:=by
     have:=sumTo_upd q k id hlt
     simpa [hqi] using this
    have hst':stepT P (crowd gs (W.at c) sl)=runT P (crowd gs (W.at d) sl') i:=hst
    obtain ⟨N,gs1,sl1,t1,q1,d1,d2,sl2,hr,hrest⟩:=ih ((gs.map (woken P g' g2 (W.at d))).setIfInBounds i g2) d sl' (t++MemOp.ofEvents i g'.frame.fn g'.frame.place es) (upd q i k) (by rw [hsz];omega)
     (by
      have hne:i≠0:=by omega
      rw [Array.getElem?_setIfInBounds_ne hne,Array.getElem?_map,h0]
      simp [woken_run hrun])
     ⟨fun j x hj hx=>by
      by_cases hji:i=j
      ·subst hji
       rw [Array.getElem?_setIfInBounds_self_of_lt (by simpa using hlt)] at hx
       obtain rfl:=Option.some.inj hx
       rw [upd_same,Deaf_own]
       exact hq'
      ·rw [Array.getElem?_setIfInBounds_ne hji,Array.getElem?_map] at hx
       obtain ⟨y,hy,rfl⟩:=Option.map_eq_some_iff.1 hx
       have hqj:=hL.old j y hj hy
       rw [woken_quitsD hqj,upd_ne q k (Ne.symm hji),Deaf_other t hji _ (fun op hop=>by obtain ⟨e,_,rfl⟩:=Conc.mem_ofEvents hop;rfl)]
       exact hqj,fun j hj=>by
      rw [Deaf_other t (g':=i) (by simp at hj;omega) _ (fun op hop=>by obtain ⟨e,_,rfl⟩:=Conc.mem_ofEvents hop;rfl)]
      exact hL.above j (by simpa using hj)⟩
     (hP.mute (by omega) hm)
    exact ⟨N+1,gs1,sl1,t1,q1,d1,d2,sl2,by simp only [runNT,hst',hrunT];exact hr,hrest⟩
def Comp (P:Program) (J:Nat→Option Obj) (g:Goroutine) (w:World) (Post:Goroutine→World→Prop):Prop :=
 JOk J w→Live g w→∀ (T:Nat→Question→Nat) (c:Nat) (gs:Array Goroutine) (sl:Option (Nat×Nat)) (t:Trace) (q:Nat→Nat),gs[0]? = some g→Leavers P t gs q→Past NoShun w.heap.size t →
  ∃ N gs' g' w' c' sl' t' q',runNT P N (crowd gs (rt J w T c) sl) t=(.next (crowd gs' (rt J w' T c') sl'),t')∧gs'[0]? = some g'∧Post g' w'∧Live g' w'∧w.heap.size≤w'.heap.size∧Leavers P t' gs' q'∧Past NoShun w'.heap.size t'
def tp (w:World) (T:Nat→Question→Nat) (c:Nat):World:={ w with tape:=T,drawn:=c }
inductive Tree (P:Program) (Fin:Goroutine→World→Prop):Goroutine→World→Prop
 | fin {g:Goroutine} {w:World} (h:Fin g w):Tree P Fin g w
 | step {g:Goroutine} {w:World} (g1:(Nat→Question→Nat)→Nat→Goroutine) (w1:(Nat→Question→Nat)→Nat→World) (h:∀ T c,Own P g (tp w T c) (g1 T c) (w1 T c)∧Live (g1 T c) (w1 T c)∧w.heap.size≤(w1 T c).heap.size) (ht:∀ T c,Tree P Fin (g1 T c) (w1 T c)):Tree P Fin g w
theorem live_tp {g:Goroutine} {w:World} {T:Nat→Question→Nat} {c:Nat} (h:Live g w):Live g (tp w T c):=⟨h.st,h.dy,h.ok,h.heap,h.some_⟩
theorem comp_refl {g:Goroutine} {w:World} {Post:Goroutine→World→Prop} (h:Post g w):Comp P J g w Post :=
 fun _ hl T c gs sl t q h0 hL hPa=>⟨0,gs,g,w,c,sl,t,q,rfl,h0,h,hl,Nat.le_refl _,hL,hPa⟩
theorem runNT_then {a b:Nat} {m m1:Machine} {t t1:Trace} {x:Stepped×Trace} (h:runNT P a m t=(.next m1,t1)) (h1:runNT P b m1 t1=x):runNT P (a+b) m t=x:=by
 induction a generalizing m t with
 | zero=>cases h;simpa using h1
 | succ a ih =>
  rw [show a+1+b=(a+b)+1 by omega]
  simp only [runNT] at h ⊢
  cases hs:stepT P m with
  | mk s ops =>
   rw [hs] at h
   cases s with
   | next m2=>exact ih h
   | ended o w=>cases h
theorem comp_trans {g:Goroutine} {w:World} {Post Post':Goroutine→World→Prop} (h:Comp P J g w Post) (h':∀ g' w',Post g' w'→Live g' w'→w.heap.size≤w'.heap.size→Comp P J g' w' Post'):Comp P J g w Post':=by
 intro hJ hl T c gs sl t q h0 hL hPa
 obtain ⟨N,gs1,g1,w1,c1,sl1,t1,q1,hr,h01,hp,hl1,hs1,hL1,hP1⟩:=h hJ hl T c gs sl t q h0 hL hPa
 obtain ⟨N2,gs2,g2,w2,c2,sl2,t2,q2,hr2,h02,hp2,hl2,hs2,hL2,hP2⟩:=h' g1 w1 hp hl1 hs1 (hJ.mono hs1) hl1 T c1 gs1 sl1 t1 q1 h01 hL1 hP1
 exact ⟨N+N2,gs2,g2,w2,c2,sl2,t2,q2,runNT_then hr hr2,h02,hp2,hl2,Nat.le_trans hs1 hs2,hL2,hP2⟩
theorem comp_tree (hP:FuncsOk P) {Fin:Goroutine→World→Prop} {g:Goroutine} {w:World} (h:Tree P Fin g w):Comp P J g w Fin:=by
 induction h with
 | fin h=>exact comp_refl h
 | @step g w g1s w1s h _ ih =>
  intro hJ hl T c gs sl t q h0 hL hPa
  obtain ⟨N,gs1,sl1,t1,q1,d1,d2,sl2,hr,hst,h01,hL1,hP1⟩:=until_own (P:=P) hl.st (W:=rt J w T c) _ gs c sl t q (Nat.le_refl _) h0 hL hPa
  obtain ⟨ho,hl1,hs1⟩:=h T d2
  have hT:Comp P J _ _ Fin:=ih T d2
  generalize g1s T d2=g1 at ho hl1 hT
  generalize w1s T d2=w1 at ho hl1 hs1 hT
  obtain ⟨gs2,ops,hrun,-,h02,hL2,hP2⟩:=own_company (P:=P) (J:=J) (T:=T) (w:=tp w T d2) (d:=d2) (sl:=sl2) hP (live_tp hl) hl1 hs1 hJ ho h01 hL1 hP1 (fun j hj q=>rfl)
  obtain ⟨N3,gs3,g3,w3,c3,sl3,t3,q3,hr3,h03,hp3,hl3,hs3,hL3,hP3⟩:=hT (hJ.mono hs1) hl1 T _ gs2 sl2 _ q1 h02 hL2 hP2
  have hone:runNT P 1 (crowd gs1 ((rt J w T c).at d1) sl1) t1=(.next (crowd gs2 (rt J w1 T (d2+(w1.drawn - (tp w T d2).drawn))) sl2),t1++ops):=by
   simp only [runNT,hst]
   have e:(rt J w T c).at d2=rt J (tp w T d2) T d2:=rfl
   rw [e,hrun]
  exact ⟨N+(1+N3),gs3,g3,w3,c3,sl3,t3,q3,runNT_then hr (runNT_then hone hr3),h03,hp3,hl3,Nat.le_trans hs1 hs3,hL3,hP3⟩
end Go.Proofs.Ytoheddpnnjldgaa.Bq
end
namespace Go.Proofs.Ytoheddpnnjldgaa
open Go.RowKit
end Go.Proofs.Ytoheddpnnjldgaa
section
namespace Go.Proofs.Ytoheddpnnjldgaa.Bq
open Go Go.Conc
set_option maxHeartbeats 4000000
variable {P:Program}
theorem rt_tp (w:World) (T:Nat→Question→Nat) (c:Nat):rt (fun _=>none) w T c=tp w T c:=rt_none w T c
theorem own_tp (hP:FuncsOk P) {g g1:Goroutine} {w w1:World} (hl:Live g w) (hl1:Live g1 w1) (ho:Own P g w g1 w1) {T:Nat→Question→Nat} {c:Nat} (ha:Agree T c w w1.drawn) :
  w.drawn≤w1.drawn∧Own P g (tp w T c) g1 (tp w1 T (c+(w1.drawn - w.drawn))):=by
 have hJ:=jok_none w
 have hst:=stepG_rt (J:=fun _=>none) (T:=T) (c:=c) (main:=true) hP hl.ok hl.dy hl.heap hJ
 rcases ho with ⟨es,h,he⟩ | ⟨gc,cc,b,sh,wc,es,ops,h,he,hs,hwc,h0c,hsz,hc,hok⟩
 ·rw [h,rt_tp] at hst
  obtain ⟨h1,h2⟩:=hst hl1.dy
  refine ⟨h1,.inl ⟨es,?_,he⟩⟩
  rw [h2 ha]
  show GStep.go g1 (rt (fun _=>none) w1 T _) es=_
  rw [rt_tp]
 ·rw [h,rt_tp] at hst
  obtain ⟨h1,h2⟩:=hst trivial
  have h1':w.drawn≤wc.drawn:=h1
  have hup:wc.tape=w.tape:=(step_tape hP hl h trivial).2
  have h3:=fun c=>own_comm (P:=P) (J:=fun _=>none) (T:=T) (rest:=rest0) (gs:=fin0) hs hwc (jok_none wc) rfl lonely_fin hc c
  have h4:=(h3 0).1
  refine ⟨Nat.le_trans h1' h4,.inr ⟨gc,cc,b,sh,tp wc T (c+(wc.drawn - w.drawn)),es,ops,?_,he,hs,hwc,h0c,hsz,?_,⟨hok.ok,hok.dying,hok.bk,hok.st,hok.heap,hok.size,hok.ops⟩⟩⟩
  ·rw [h2 fun j hj q=>ha j (Nat.lt_of_lt_of_le hj h4) q]
   show GStep.comm gc cc b sh (rt (fun _=>none) wc T _) es=_
   rw [rt_tp]
  ·have e3:=(h3 (c+(wc.drawn - w.drawn))).2 fun j hj q=>by
    have h6:=ha (wc.drawn - w.drawn+j) (by omega) q
    rw [show c+(wc.drawn - w.drawn)+j=c+(wc.drawn - w.drawn+j) by omega,h6,hup,show w.drawn+(wc.drawn - w.drawn+j)=wc.drawn+j by omega]
   rw [rt_tp,rt_tp,show c+(wc.drawn - w.drawn)+(w1.drawn - wc.drawn)=c+(w1.drawn - w.drawn) by omega] at e3
   exact e3
structure Node where
 len:Nat
 f:Nat→Question→Nat
 g:Goroutine
 w:World
structure Way (P:Program) (Fin:Goroutine→World→Prop) (g0:Goroutine) (w0:World) (k:Nat) (x:Node):Prop where
 live:Live x.g x.w
 run:∀ T:Nat→Question→Nat,(∀ i,i < x.len→T i=x.f i)→runN P k (oneG g0 (tp w0 T 0))=.next (oneG x.g (tp x.w T x.len))
 not:∀ T:Nat→Question→Nat,(∀ i,i < x.len→T i=x.f i)→∀ j,j < k→∀ fr cs w',runN P j (oneG g0 (tp w0 T 0))=.next (lone fr cs w')→¬ Fin { frame:=fr,callers:=cs,status:=.running,dying:=none } w'
 bad : ¬ Tree P Fin x.g x.w
theorem way_next (hP:FuncsOk P) {Fin:Goroutine→World→Prop} {g0:Goroutine} {w0:World}
  (H:∀ T:Nat→Question→Nat,∃ n fr cs w',runN P n (oneG g0 (tp w0 T 0))=.next (lone fr cs w')∧Fin { frame:=fr,callers:=cs,status:=.running,dying:=none } w')
  (hF:∀ g w T c,Fin g w→Fin g (tp w T c)) {k:Nat} {x:Node} (hx:Way P Fin g0 w0 k x) :
  ∃ y:Node,Way P Fin g0 w0 (k+1) y∧x.len≤y.len∧∀ i,i < x.len→y.f i=x.f i:=by
 have hback:∀ (w:World) (T:Nat→Question→Nat) (c:Nat),tp (tp w T c) w.tape w.drawn=w:=fun w T c=>rfl
 have hnf:∀ T c,¬ Fin x.g (tp x.w T c):=fun T c h=>hx.bad (.fin (by have:=hF _ _ x.w.tape x.w.drawn h;rwa [hback] at this))
 -- some tape on which no child will do
 have hex:∃ T c,∀ g1 w1,Own P x.g (tp x.w T c) g1 w1→Live g1 w1→x.w.heap.size≤w1.heap.size→¬ Tree P Fin g1 w1:=by
  refine Classical.byContradiction fun hno=>hx.bad ?_
  have hall:∀ T c,∃ y:Goroutine×World,(Own P x.g (tp x.w T c) y.1 y.2∧Live y.1 y.2∧x.w.heap.size≤y.2.heap.size)∧Tree P Fin y.1 y.2:=by
   intro T c
   refine Classical.byContradiction fun h1=>hno ⟨T,c,fun g1 w1 a1 a2 a3 a4=>h1 ⟨(g1,w1),⟨a1,a2,a3⟩,a4⟩⟩
  exact .step (fun T c=>(Classical.choose (hall T c)).1) (fun T c=>(Classical.choose (hall T c)).2) (fun T c=>(Classical.choose_spec (hall T c)).1) (fun T c=>(Classical.choose_spec (hall T c)).2)
 obtain ⟨T,c,hT⟩:=hex
 -- the tape that begins as the way's, and goes on so
 let T2:Nat→Question→Nat:=fun i=>if i < x.len then x.f i else T (c+(i - x.len))
 have hT2:∀ i,i < x.len→T2 i=x.f i:=fun i hi=>if_pos hi
 obtain ⟨n,fr,cs,w',hn,hfin⟩:=H T2
 have hkn:k≤n:=Nat.le_of_not_lt fun h=>hx.not T2 hT2 n h fr cs w' hn hfin
 have hrun:=hx.run T2 hT2
 obtain ⟨m,rfl⟩:∃ m,n=k+m:=⟨n - k,by omega⟩
 rw [runN_add,hrun] at hn
 have hn:runN P m (oneG x.g (tp x.w T2 x.len))=.next (lone fr cs w'):=hn
 cases m with
 | zero =>
  exfalso
  have e1:=congrArg (fun s:Stepped=>match s with | .next m=>(m.world,m.gs[0]?) | _=>(w0,none)) hn
  have e2:(tp x.w T2 x.len,some x.g)=(w',some { frame:=fr,callers:=cs,status:=.running,dying:=none }):=e1
  obtain ⟨e3,e4⟩:=Prod.mk.inj e2
  cases e3
  refine hnf T2 x.len ?_
  have e5:=Option.some.inj e4
  rw [e5]
  exact hfin
 | succ m =>
  obtain ⟨g1,w1,hl1,hs1,hr1,ho⟩:=live_run hP (live_tp hx.live) hn
  have hl0:Live x.g (tp x.w T2 x.len):=live_tp hx.live
  have hup:x.len≤w1.drawn:=(own_tp hP hl0 hl1 ho (T:=T2) (c:=x.len) fun j hj q=>rfl).1
  have hag:Agree T c (tp x.w T2 x.len) w1.drawn:=fun j hj q=>by
   show T (c+j) q=T2 (x.len+j) q
   show T (c+j) q=(if x.len+j < x.len then x.f (x.len+j) else T (c+(x.len+j - x.len))) q
   rw [if_neg (by omega),Nat.add_sub_cancel_left]
  have ho2:=(own_tp hP hl0 hl1 ho hag).2
  have hl2:Live g1 (tp w1 T (c+(w1.drawn - x.len))):=live_tp hl1
  refine ⟨⟨w1.drawn,T2,g1,tp w1 T (c+(w1.drawn - x.len))⟩,⟨hl2,fun T3 h3=>?_,fun T3 h3 j hj=>?_,hT _ _ ho2 hl2 hs1⟩,hup,hT2⟩
  ·have h4:=hx.run T3 fun i hi=>(h3 i (Nat.lt_of_lt_of_le hi hup)).trans (hT2 i hi)
   rw [runN_add,h4]
   have h5:=(own_tp hP hl0 hl1 ho (T:=T3) (c:=x.len) fun j hj q=>congrFun (h3 _ hj) q).2
   have h6:=own_step (P:=P) (by exact hx.live.st) h5
   have h7:x.len+(w1.drawn - (tp x.w T2 x.len).drawn)=w1.drawn:=by
    show x.len+(w1.drawn - x.len)=w1.drawn
    omega
   rw [h7] at h6
   show runN P 1 (oneG x.g (tp x.w T3 x.len))=_
   simp only [runN]
   have h8:step P (oneG x.g (tp x.w T3 x.len))=.next (oneG g1 (tp w1 T3 w1.drawn)):=h6
   rw [h8]
   rfl
  ·have h4:=fun i (hi:i < x.len)=>(h3 i (Nat.lt_of_lt_of_le hi hup)).trans (hT2 i hi)
   rcases Nat.lt_or_ge j k with h9 | h9
   ·exact hx.not T3 h4 j h9
   ·obtain rfl:j=k:=by omega
    intro fr cs w' e hfin
    rw [hx.run T3 h4] at e
    have e1:=congrArg (fun s:Stepped=>match s with | .next m=>(m.world,m.gs[0]?) | _=>(w0,none)) e
    have e2:(tp x.w T3 x.len,some x.g)=(w',some { frame:=fr,callers:=cs,status:=.running,dying:=none }):=e1
    obtain ⟨e3,e4⟩:=Prod.mk.inj e2
    cases e3
    refine hnf T3 x.len ?_
    have e5:=Option.some.inj e4
    rw [e5]
    exact hfin
theorem tree_of_lone (hP:FuncsOk P) {Fin:Goroutine→World→Prop} {g0:Goroutine} {w0:World} (hl:Live g0 w0)
  (H:∀ T:Nat→Question→Nat,∃ n fr cs w',runN P n (oneG g0 (tp w0 T 0))=.next (lone fr cs w')∧Fin { frame:=fr,callers:=cs,status:=.running,dying:=none } w')
  (hF:∀ g w T c,Fin g w→Fin g (tp w T c)):Tree P Fin g0 w0:=by
 refine Classical.byContradiction fun hbad=>?_
 have root:Way P Fin g0 w0 0 ⟨0,fun _ _=>0,g0,w0⟩:=⟨hl,fun T _=>rfl,fun T _ j hj=>absurd hj (Nat.not_lt_zero _),hbad⟩
 let next:(k:Nat)→{x:Node // Way P Fin g0 w0 k x}→{x:Node // Way P Fin g0 w0 (k+1) x}:=fun k x=>⟨Classical.choose (way_next hP H hF x.2),(Classical.choose_spec (way_next hP H hF x.2)).1⟩
 let seq:(k:Nat)→{x:Node // Way P Fin g0 w0 k x}:=fun k=>Nat.rec ⟨_,root⟩ next k
 have hnext:∀ k,(seq k).1.len≤(seq (k+1)).1.len∧∀ i,i < (seq k).1.len→(seq (k+1)).1.f i=(seq k).1.f i:=fun k=>(Classical.choose_spec (way_next hP H hF (seq k).2)).2
 have hlater:∀ d k,(seq k).1.len≤(seq (k+d)).1.len∧∀ i,i < (seq k).1.len→(seq (k+d)).1.f i=(seq k).1.f i:=by
  intro d
  induction d with
  | zero=>exact fun k=>⟨Nat.le_refl _,fun _ _=>rfl⟩
  | succ d ih =>
   intro k
   obtain ⟨a1,a2⟩:=ih k
   obtain ⟨b1,b2⟩:=hnext (k+d)
   exact ⟨Nat.le_trans a1 b1,fun i hi=>(b2 i (Nat.lt_of_lt_of_le hi a1)).trans (a2 i hi)⟩
 haveI:∀ i,Decidable (∃ k,i < (seq k).1.len):=fun i=>Classical.propDecidable _
 let T:Nat→Question→Nat:=fun i=>if h:∃ k,i < (seq k).1.len then (seq (Classical.choose h)).1.f i else fun _=>0
 have hT:∀ k i,i < (seq k).1.len→T i=(seq k).1.f i:=by
  intro k i hi
  have hex:∃ k,i < (seq k).1.len:=⟨k,hi⟩
  have e:T i=(seq (Classical.choose hex)).1.f i:=dif_pos hex
  rw [e]
  have hc:=Classical.choose_spec hex
  generalize Classical.choose hex=k' at hc
  rcases Nat.le_total k k' with h | h
  ·obtain ⟨d,rfl⟩:=Nat.exists_eq_add_of_le h
   exact (hlater d k).2 i hi
  ·obtain ⟨d,rfl⟩:=Nat.exists_eq_add_of_le h
   exact ((hlater d k').2 i hc).symm
 obtain ⟨n,fr,cs,w',hn,hfin⟩:=H T
 exact (seq (n+1)).2.not T (hT (n+1)) n (Nat.lt_succ_self n) fr cs w' hn hfin
end Go.Proofs.Ytoheddpnnjldgaa.Bq
end
namespace Go.Proofs.Ytoheddpnnjldgaa
open Go.RowKit
end Go.Proofs.Ytoheddpnnjldgaa
section
namespace Go.Proofs.Ytoheddpnnjldgaa.Bq
open Go Go.Conc
set_option maxHeartbeats 4000000
variable {P:Program} {J:Nat→Option Obj}
abbrev gr (fr:Frame) (cs:List Frame):Goroutine:={ frame:=fr,callers:=cs,status:=.running,dying:=none }
theorem comp_step (hP:FuncsOk P) {g:Goroutine} {w:World} {Post:Goroutine→World→Prop}
  (h:Live g w→∀ T d,∃ g1 w1 es,stepG P true g (tp w T d)=.go g1 w1 es∧g1.dying=none∧g1.status=.running∧Comp P J g1 w1 Post):Comp P J g w Post:=by
 intro hJ hl T c gs sl t q h0 hL hPa
 obtain ⟨N,gs1,sl1,t1,q1,d1,d2,sl2,hr,hst,h01,hL1,hP1⟩:=until_own (P:=P) hl.st (W:=rt J w T c) _ gs c sl t q (Nat.le_refl _) h0 hL hPa
 obtain ⟨g1,w1,es,hg,hdy,hru,hT⟩:=h hl T d2
 have hok:=stepG_ok (main:=true) hP (live_tp (T:=T) (c:=d2) hl).ok (fun d e=>by rw [hl.dy] at e;cases e) (live_tp (T:=T) (c:=d2) hl).heap
 rw [hg] at hok
 have hs1:w.heap.size≤w1.heap.size:=hok.2.2.1
 have hl1:Live g1 w1:=⟨hru,hdy,hok.1,hok.2.1,Nat.lt_of_lt_of_le hl.some_ hs1⟩
 obtain ⟨gs2,ops,hrun,-,h02,hL2,hP2⟩:=own_company (P:=P) (J:=J) (T:=T) (w:=tp w T d2) (d:=d2) (sl:=sl2) hP (live_tp hl) hl1 hs1 hJ (.inl ⟨es,hg,hok.2.2.2.2.1 hdy⟩) h01 hL1 hP1 (fun j hj q=>rfl)
 obtain ⟨N3,gs3,g3,w3,c3,sl3,t3,q3,hr3,h03,hp3,hl3,hs3,hL3,hP3⟩:=hT (hJ.mono hs1) hl1 T _ gs2 sl2 _ q1 h02 hL2 hP2
 have hone:runNT P 1 (crowd gs1 ((rt J w T c).at d1) sl1) t1=(.next (crowd gs2 (rt J w1 T (d2+(w1.drawn - (tp w T d2).drawn))) sl2),t1++ops):=by
  simp only [runNT,hst]
  have e:(rt J w T c).at d2=rt J (tp w T d2) T d2:=rfl
  rw [e,hrun]
 exact ⟨N+(1+N3),gs3,g3,w3,c3,sl3,t3,q3,runNT_then hr (runNT_then hone hr3),h03,hp3,hl3,Nat.le_trans hs1 hs3,hL3,hP3⟩
theorem comp_tp {g:Goroutine} {w:World} {T:Nat→Question→Nat} {c:Nat} {Post:Goroutine→World→Prop} (h:Comp P J g w Post):Comp P J g (tp w T c) Post:=fun hJ hl=>h hJ ⟨hl.st,hl.dy,hl.ok,hl.heap,hl.some_⟩
theorem comp_pt {g:Goroutine} {w:World} {T:Nat→Question→Nat} {c:Nat} {Post:Goroutine→World→Prop} (h:Comp P J g (tp w T c) Post):Comp P J g w Post:=fun hJ hl=>h hJ ⟨hl.st,hl.dy,hl.ok,hl.heap,hl.some_⟩
theorem comp_goT (hP:FuncsOk P) {fr fr':Frame} {cs cs':List Frame} {w:World} {Post:Goroutine→World→Prop} (h:∀ T d,(stepG P true (gr fr cs) (tp w T d)).bare=.go (gr fr' cs') (tp w T d)) (hc:Comp P J (gr fr' cs') w Post):Comp P J (gr fr cs) w Post :=
 comp_step hP fun _ T d=>by
  have h1:=h T d
  generalize hs:stepG P true (gr fr cs) (tp w T d)=s at h1
  cases s with
  | go g1 w1 es =>
   simp only [GStep.bare,GStep.go.injEq] at h1
   obtain ⟨e1,e2,-⟩:=h1
   exact ⟨g1,w1,es,rfl,by rw [e1],by rw [e1],by rw [e1,e2];exact comp_tp hc⟩
  | _=>simp [GStep.bare] at h1
theorem comp_go (hP:FuncsOk P) {fr fr':Frame} {cs cs':List Frame} {w:World} {Post:Goroutine→World→Prop} (h:∀ w,(stepG P true (gr fr cs) w).bare=.go (gr fr' cs') w) (hc:Comp P J (gr fr' cs') w Post):Comp P J (gr fr cs) w Post :=
 comp_step hP fun _ T d=>by
  have h1:=h (tp w T d)
  generalize hs:stepG P true (gr fr cs) (tp w T d)=s at h1
  cases s with
  | go g1 w1 es =>
   simp only [GStep.bare,GStep.go.injEq] at h1
   obtain ⟨e1,e2,-⟩:=h1
   exact ⟨g1,w1,es,rfl,by rw [e1],by rw [e1],by rw [e1,e2];exact comp_tp hc⟩
  | _=>simp [GStep.bare] at h1
theorem comp_lone (hP:FuncsOk P) {fr:Frame} {cs:List Frame} {w:World} {Post:Goroutine→World→Prop}
  (h:∀ T,∃ fr' cs' w',Steps P (lone fr cs (tp w T 0)) (lone fr' cs' w')∧Comp P J (gr fr' cs') w' Post):Comp P J (gr fr cs) w Post:=by
 intro hJ hl
 have ht:=tree_of_lone (Fin:=fun g w=>Comp P J g w Post) hP hl (fun T=>by
  obtain ⟨fr',cs',w',⟨n,hn⟩,hc⟩:=h T
  exact ⟨n,fr',cs',w',hn,hc⟩) (fun g w T c h=>comp_tp h)
 exact comp_trans (comp_tree hP ht) (fun g' w' h _ _=>h) hJ hl
def AfterB (P:Program) (J:Nat→Option Obj) (b:Frame) (k:List Item) (cs:List Frame) (Post:Goroutine→World→Prop):Exit→Act→World→Prop
 | .normal,a,w=>Comp P J (gr (b.at a k) cs) w Post
 | .exit id,a,w=>∃ k',exitTo id k=some k'∧Comp P J (gr (b.at a k') cs) w Post
 | .goto l,a,w=>∃ k',gotoIn l k=some k'∧Comp P J (gr (b.at a k') cs) w Post
 | .ret,a,w=>∀ todo,Comp P J (gr { b.at a todo with mode:=.returning } cs) w Post
 | .panic chain,a,w=>∀ todo,Comp P J (gr { b.at a todo with mode:=.panicking chain } cs) w Post
 | .outgrown,_,_=>True
def wpB (P:Program) (J:Nat→Option Obj) (c:Code) (Q:Exit→Act→World→Prop) (a:Act) (w:World):Prop :=
 ∀ (b:Frame) (k:List Item) (cs:List Frame) (Post:Goroutine→World→Prop),b.kind≠.early→(∀ e a' w',Q e a' w'→AfterB P J b k cs Post e a' w')→Comp P J (gr (b.at a (.code c::k)) cs) w Post
section
variable {Q:Exit→Act→World→Prop} {a:Act} {w:World}
theorem wpB_mono {c:Code} {Q':Exit→Act→World→Prop} (h:wpB P J c Q a w) (hq:∀ e a w,Q e a w→Q' e a w):wpB P J c Q' a w :=
 fun b k cs Post hk hA=>h b k cs Post hk fun e a' w' q=>hA e a' w' (hq _ _ _ q)
theorem wpB_skip (hP:FuncsOk P) (h:Q .normal a w):wpB P J Code.skip Q a w:=fun b k cs Post hk hA =>
 comp_go hP (fun w=>by simp [stepG,stepG.exec,Frame.at]) (hA _ _ _ h)
theorem wpB_exit (hP:FuncsOk P) {id:Nat} (h:Q (.exit id) a w):wpB P J (Code.exit id) Q a w:=by
 intro b k cs Post hk hA
 obtain ⟨k',he,hc⟩:=hA _ _ _ h
 exact comp_go hP (fun w=>by simp [stepG,stepG.exec,Frame.at,he]) hc
theorem wpB_ret (hP:FuncsOk P) (h:Q .ret a w):wpB P J Code.ret Q a w:=fun b k cs Post hk hA =>
 comp_go hP (fun w=>by simp [stepG,stepG.exec,Frame.at]) (hA _ _ _ h (.code .ret::k))
theorem wpB_seq (hP:FuncsOk P) {x y:Code} (h:wpB P J x (Exit.then (wpB P J y Q) Q) a w):wpB P J (Code.seq x y) Q a w:=by
 intro b k cs Post hk hA
 refine comp_go hP (fun w=>by simp [stepG,stepG.exec,Frame.at]) (h b (.code y::k) cs Post hk fun e a' w' q=>?_)
 cases e with
 | normal=>exact q b k cs Post hk hA
 | exit id=>exact (hA _ _ _ q).elim fun k' h=>⟨k',by simpa [exitTo] using h.1,h.2⟩
 | goto l=>exact (hA _ _ _ q).elim fun k' h=>⟨k',by simpa [gotoIn] using h.1,h.2⟩
 | ret=>exact hA _ _ _ q
 | panic ch=>exact hA _ _ _ q
 | outgrown=>exact trivial
theorem wpB_cond (hP:FuncsOk P) {c:Operand} {x y:Code} {t:Bool} (hc:a.eval c=.bool t) (h:wpB P J (if t then x else y) Q a w):wpB P J (Code.cond c x y) Q a w:=by
 intro b k cs Post hk hA
 refine comp_go hP (fun w=>?_) (h b k cs Post hk hA)
 have:=Frame.eval_at b a (.code (.cond c x y)::k) c
 simp only [Frame.at] at this
 simp [stepG,stepG.exec,Frame.at,this,hc]
theorem wpB_block (hP:FuncsOk P) {id:Nat} {c:Code} (h:wpB P J c (Exit.inBlock id Q) a w):wpB P J (Code.block id c) Q a w:=by
 intro b k cs Post hk hA
 refine comp_go hP (fun w=>by simp [stepG,stepG.exec,Frame.at]) (h b (.inBlock id::k) cs Post hk fun e a' w' q=>?_)
 have hin:∀ a' w',Q .normal a' w'→Comp P J (gr (b.at a' (.inBlock id::k)) cs) w' Post:=fun a' w' q=>comp_go hP (fun w=>by simp [stepG,stepG.exec,Frame.at]) (hA _ _ _ q)
 cases e with
 | normal=>exact hin _ _ q
 | exit id' =>
  by_cases hid:id'=id
  ·simp only [Exit.inBlock,hid,if_true] at q
   exact ⟨k,by simp [exitTo,hid],hA _ _ _ q⟩
  ·simp only [Exit.inBlock,hid,if_false] at q
   have h9:(id == id')=false:=by simp;exact fun h=>hid h.symm
   exact (hA _ _ _ q).elim fun k' h=>⟨k',by simpa [exitTo,h9] using h.1,h.2⟩
 | goto l=>exact (hA _ _ _ q).elim fun k' h=>⟨k',by simpa [gotoIn] using h.1,h.2⟩
 | ret=>exact hA _ _ _ q
 | panic ch=>exact hA _ _ _ q
 | outgrown=>exact trivial
theorem wpB_loop_n (hP:FuncsOk P) {c:Code} (I:Nat→Act→World→Prop) (h₀:∃ m,I m a w)
  (round:∀ m a w,I m a w→wpB P J c (Exit.then (fun a' w'=>∃ m',m' < m∧I m' a' w') Q) a w):wpB P J (Code.loop c) Q a w:=by
 intro b k cs Post hk hA
 have key:∀ m a w,I m a w→Comp P J (gr (b.at a (.code c :: .inLoop c::k)) cs) w Post:=by
  intro m
  induction m using Nat.strongRecOn with
  | _ m ih =>
   intro a w hI
   refine round m a w hI b (.inLoop c::k) cs Post hk fun e a' w' q=>?_
   cases e with
   | normal =>
    obtain ⟨m',hlt,hI'⟩:=q
    exact comp_go hP (fun w=>by simp [stepG,stepG.exec,Frame.at]) (ih m' hlt a' w' hI')
   | exit id=>exact (hA _ _ _ q).elim fun k' h=>⟨k',by simpa [exitTo] using h.1,h.2⟩
   | goto l=>exact (hA _ _ _ q).elim fun k' h=>⟨k',by simpa [gotoIn] using h.1,h.2⟩
   | ret=>exact hA _ _ _ q
   | panic ch=>exact hA _ _ _ q
   | outgrown=>exact trivial
 obtain ⟨m,h₀⟩:=h₀
 exact comp_go hP (fun w=>by simp [stepG,stepG.exec,Frame.at]) (key m a w h₀)
end
end Go.Proofs.Ytoheddpnnjldgaa.Bq
end
namespace Go.Proofs.Ytoheddpnnjldgaa
open Go.RowKit
end Go.Proofs.Ytoheddpnnjldgaa
section
namespace Go.Proofs.Ytoheddpnnjldgaa.Bq
open Go Go.Conc
set_option maxHeartbeats 4000000
variable {P:Program} {J:Nat→Option Obj}
def AfterC (P:Program) (J:Nat→Option Obj) (c:Frame) (cs:List Frame) (Post:Goroutine→World→Prop):Ending→World→Prop
 | .returned v,w=>Comp P J (gr (c.finish v) cs) w Post
 | .panicked chain,w=>Comp P J (gr (c.raise chain) cs) w Post
 | .outgrown,_=>False
def CallsB (P:Program) (J:Nat→Option Obj) (f:FuncId) (args:Array Value) (w:World) (R:Ending→World→Prop):Prop :=
 ∀ (c:Frame) (cs:List Frame) (Post:Goroutine→World→Prop),(∀ e w',R e w'→AfterC P J c cs Post e w')→Comp P J (gr (Frame.enter P f args .normal) (c::cs)) w Post
section
variable {f:FuncId} {args:Array Value} {w:World} {R:Ending→World→Prop}
theorem CallsB.tp {T:Nat→Question→Nat} {d:Nat} (h:CallsB P J f args w R):CallsB P J f args (tp w T d) R:=fun c cs Post hA=>comp_tp (h c cs Post hA)
theorem callsB_of_wpB (hP:FuncsOk P) {fn:Func} {c:Code} (hf:P.funcs[f]? = some fn) (hb:fn.body=some c)
  (h:wpB P J c (bodyPost P fn R) { tmps:=args++Array.replicate (fn.ntmps - args.size) undef,defers:=[] } w):CallsB P J f args w R:=by
 intro c0 cs Post hA
 let b:Frame:={ (default:Frame) with fn:=f,kind:=.normal }
 have henter:Frame.enter P f args .normal=b.at { tmps:=args++Array.replicate (fn.ntmps - args.size) undef,defers:=[] } [.code c]:=by
  simp [Frame.enter,Frame.at,hf,hb,b]
 rw [henter]
 have hret:∀ (a:Act) (w:World) (todo:List Item),(a.defers=[]∧∃ v,(results fn a.tmps).run P w=.ok v w∧R (.returned v) w)→Comp P J (gr { b.at a todo with mode:=.returning } (c0::cs)) w Post:=by
  rintro a w todo ⟨hd,v,hr,hR⟩
  refine comp_step hP fun hl T d=>⟨gr (c0.finish v) cs,tp w T d,?_⟩
  have h1:=(run_rt (J:=fun _=>none) (T:=T) (c:=d) (t_results fn a.tmps) hl.heap (jok_none w) hr).2.2 fun j hj q=>by omega
  rw [rt_none,rt_none,Nat.sub_self,Nat.add_zero] at h1
  have h2:(results fn a.tmps).run P (tp w T d)=.ok v (tp w T d):=h1
  have h3:(stepG P true (gr { b.at a todo with mode:=.returning } (c0::cs)) (tp w T d)).bare=.go (gr (c0.finish v) cs) (tp w T d):=by
   simp [stepG,unwind,doReturn,Frame.at,hd,hf,h2,b]
  generalize hs:stepG P true (gr { b.at a todo with mode:=.returning } (c0::cs)) (tp w T d)=s at h3
  cases s with
  | go g1 w1 es =>
   simp only [GStep.bare,GStep.go.injEq] at h3
   obtain ⟨e1,e2,-⟩:=h3
   exact ⟨es,by rw [e1,e2],rfl,rfl,comp_tp (hA _ _ hR)⟩
  | _=>simp [GStep.bare] at h3
 refine h b [] (c0::cs) Post (by simp [b]) fun e a' w' q=>?_
 cases e with
 | normal=>exact comp_go hP (fun w=>by simp [stepG,stepG.exec,Frame.at]) (hret a' w' [] q)
 | ret=>exact fun todo=>hret a' w' todo q
 | panic chain =>
  intro todo
  obtain ⟨hd,hR⟩:=q
  refine comp_go hP (fun w=>?_) (hA _ _ hR)
  simp [stepG,unwind,Frame.at,Frame.catches,hd,hf,b]
 | exit id=>exact q.elim
 | goto l=>exact q.elim
 | outgrown=>exact trivial
end
end Go.Proofs.Ytoheddpnnjldgaa.Bq
end
namespace Go.Proofs.Ytoheddpnnjldgaa
open Go.RowKit
end Go.Proofs.Ytoheddpnnjldgaa
section
namespace Go.Proofs.Ytoheddpnnjldgaa.Bq
open Go Go.Conc
set_option maxHeartbeats 4000000
variable {P:Program} {J:Nat→Option Obj}
def nq (Q:Exit→Act→World→Prop):Exit→Act→World→Prop
 | .normal,a,w=>Q .normal a w
 | .ret,a,w=>Q .ret a w
 | .panic c,a,w=>Q (.panic c) a w
 | _,_,_=>False
section
variable {Q:Exit→Act→World→Prop} {a:Act} {w:World}
theorem wpB_lone (hP:FuncsOk P) {c:Code} (h:∀ T,c.wp P (nq Q) a (tp w T 0)):wpB P J c Q a w:=by
 intro b k cs Post hkd hA
 refine comp_lone hP fun T=>?_
 obtain ⟨e,a',w',q,harr⟩:=h T b k cs
 cases e with
 | normal=>exact ⟨_,_,w',harr,hA _ _ _ q⟩
 | ret =>
  obtain ⟨todo,hs⟩:=harr
  exact ⟨_,_,w',hs,hA _ _ _ q todo⟩
 | panic c =>
  obtain ⟨todo,hs⟩:=harr
  exact ⟨_,_,w',hs,hA _ _ _ q todo⟩
 | exit id=>exact q.elim
 | goto l=>exact q.elim
 | outgrown=>exact q.elim
def wpRB (P:Program) (J:Nat→Option Obj) (ops:Array Oper) (Q:Exit→Act→World→Prop) (l:List Nat) (a:Act) (w:World):Prop :=
 ∀ (b:Frame) (k:List Item) (cs:List Frame) (Post:Goroutine→World→Prop),b.kind≠.early→(∀ e a' w',Q e a' w'→AfterB P J b k cs Post e a' w')→Comp P J (gr (b.at a (.inRegion ops l::k)) cs) w Post
theorem rb_region (hP:FuncsOk P) {id:Nat} {ops:Array Oper} (h:wpRB P J ops Q (List.range ops.size) a w):wpB P J (Code.region id ops false) Q a w:=fun b k cs Post hkd hA =>
 comp_go hP (fun w=>by simp [stepG,stepG.exec,Frame.at]) (h b k cs Post hkd hA)
theorem rb_nil (hP:FuncsOk P) {ops:Array Oper} (h:Q .normal a w):wpRB P J ops Q [] a w:=fun b k cs Post hkd hA =>
 comp_go hP (fun w=>by simp [stepG,stepG.exec,Frame.at]) (hA _ _ _ h)
def pq (K:Act→World→Prop) (Q:Exit→Act→World→Prop):Exit→Act→World→Prop
 | .normal,a,w=>K a w
 | .panic c,a,w=>Q (.panic c) a w
 | _,_,_=>False
theorem ops_pre {ops:Array Oper} {K:Act→World→Prop} (l2:List Nat):∀ (l:List Nat) (a:Act) (w:World),wpOps P ops (pq K Q) l a w→∀ (b:Frame) (k:List Item) (cs:List Frame),
  (∃ a' w',K a' w'∧Steps P (lone (b.at a (.inRegion ops (l++l2)::k)) cs w) (lone (b.at a' (.inRegion ops l2::k)) cs w')) ∨
  ∃ ch a' w' todo,Q (.panic ch) a' w'∧Steps P (lone (b.at a (.inRegion ops (l++l2)::k)) cs w) (lone { b.at a' todo with mode:=.panicking ch } cs w'):=by
 intro l
 induction l with
 | nil=>exact fun a w h b k cs=>.inl ⟨a,w,h,.refl _ _⟩
 | cons i rest ih =>
  intro a w h b k cs
  have go:∀ (a1:Act) (w1:World),Steps P (lone (b.at a (.inRegion ops (i::rest++l2)::k)) cs w) (lone (b.at a1 (.inRegion ops (rest++l2)::k)) cs w1)→wpOps P ops (pq K Q) rest a1 w1 →
    (∃ a' w',K a' w'∧Steps P (lone (b.at a (.inRegion ops (i::rest++l2)::k)) cs w) (lone (b.at a' (.inRegion ops l2::k)) cs w')) ∨
    ∃ ch a' w' todo,Q (.panic ch) a' w'∧Steps P (lone (b.at a (.inRegion ops (i::rest++l2)::k)) cs w) (lone { b.at a' todo with mode:=.panicking ch } cs w'):=by
   intro a1 w1 hs hr
   rcases ih a1 w1 hr b k cs with ⟨a',w',hk,h2⟩ | ⟨ch,a',w',todo,hq,h2⟩
   ·exact .inl ⟨a',w',hk,hs.trans h2⟩
   ·exact .inr ⟨ch,a',w',todo,hq,hs.trans h2⟩
  have hap:(i::rest++l2)=i::(rest++l2):=rfl
  rw [hap] at go ⊢
  simp only [wpOps] at h
  cases ho:ops[i]? with
  | none =>
   simp only [ho] at h
   have hs:=step_op_skip (P:=P) (b:=b) (a:=a) (k:=k) (cs:=cs) (w:=w) (ops:=ops) (i:=i) (rest:=rest++l2) (by simp [ho])
   simp only [ho,Option.bind_none,Act.put] at hs
   exact go _ _ (.one hs) h
  | some o =>
   simp only [ho] at h
   by_cases hw:Region.wanted o (yielded ops a.tmps)=true
   ·simp only [hw,if_true] at h
    rcases h with h | ⟨-,a₀,w₀,hq⟩
    case inr=>exact hq.elim
    have hg:=stepG_op (P:=P) (b:=b) (k:=k) (cs:=cs) (w:=w) (rest:=rest++l2) ho hw
    have hfin:∀ v,(b.at a (.inRegion ops (i::(rest++l2))::k)).finish v=b.at (a.put o.dst v) (.inRegion ops (rest++l2)::k):=by
     intro v;rw [Frame.finish_at,ho];rfl
    simp only [Oper.wp,Oper.upon] at h
    split at h
    ·rename_i v w' hr
     exact go _ _ (.one (step_lone_go (by rw [hg,← hfin];simp [stepG.apply,hr]))) h
    ·rename_i w' hr
     exact go _ _ (.one (step_lone_go (by rw [hg,← hfin];simp [stepG.apply,hr]))) h
    ·rename_i d w' hr
     refine go _ _ (.one (step_lone_go ?_)) h
     have h5:({ b.at a (.inRegion ops (i::(rest++l2))::k) with defers:=d::a.defers }:Frame).finish undef=b.at ({ a with defers:=d::a.defers }.put o.dst undef) (.inRegion ops (rest++l2)::k):=by
      have h6:=Frame.finish_at b { a with defers:=d::a.defers } ops i (rest++l2) k undef
      rw [ho] at h6;exact h6
     rw [hg];simp only [stepG.apply,Sem.runT_eq,hr,GStep.bare_after]
     exact congrArg (fun fr=>GStep.go { frame:=fr,callers:=cs,status:=.running,dying:=none } w') h5
    ·rename_i f args w' hr
     obtain ⟨e,w'',fr,hR,hsteps,_,hleave⟩:=h (b.at a (.inRegion ops (i::(rest++l2))::k)::cs)
     have henter:step P (lone (b.at a (.inRegion ops (i::(rest++l2))::k)) cs w)=.next (lone (Frame.enter P f args .normal) (b.at a (.inRegion ops (i::(rest++l2))::k)::cs) w') :=
      step_lone_go (by rw [hg];simp [stepG.apply,hr,Frame.at])
     cases e with
     | returned v=>exact go _ _ (.head henter (hsteps.trans (.one (by rw [← hfin];exact step_leave_returned hleave)))) hR
     | panicked chain =>
      refine .inr ⟨chain,a,w'',.inRegion ops (i::(rest++l2))::k,hR,.head henter (hsteps.trans (.one ?_))⟩
      rw [← Frame.raise_at];exact step_leave_panicked hleave
     | outgrown=>obtain ⟨a₀,w₀,hq⟩:=hR;exact hq.elim
    ·rename_i row args w' hr
     obtain ⟨v,w'',hR,hsteps⟩:=h (b.at a (.inRegion ops (i::(rest++l2))::k)) cs
     have henter:step P (lone (b.at a (.inRegion ops (i::(rest++l2))::k)) cs w)=.next (lone (Frame.ofRow P row args .normal) (b.at a (.inRegion ops (i::(rest++l2))::k)::cs) w') :=
      step_lone_go (by rw [hg];simp [stepG.apply,hr,Frame.at])
     exact go _ _ (.head henter (by rw [← hfin];exact hsteps)) hR
    ·rename_i v w' hr
     refine .inr ⟨_,a,w',.inRegion ops (i::(rest++l2))::k,h,.one (step_lone_go ?_)⟩
     rw [hg,← Frame.raise_at];simp [stepG.apply,hr]
    ·exact h.elim
   ·simp only [hw,if_false,Bool.false_eq_true] at h
    have hs:=step_op_skip (P:=P) (b:=b) (a:=a) (k:=k) (cs:=cs) (w:=w) (ops:=ops) (i:=i) (rest:=rest++l2) (by simp [ho];simpa using hw)
    simp only [ho,Option.bind_some] at hs
    exact go _ _ (.one hs) h
theorem rb_call (hP:FuncsOk P) {ops:Array Oper} {i:Nat} {rest:List Nat} {o:Oper} {f:FuncId} {args:Array Value} {R:Ending→World→Prop} (ho:ops[i]? = some o) (hw:Region.wanted o (yielded ops a.tmps)=true)
  (hr:∀ T d,(execOp a.eval o).run P (tp w T d)=.ok (.enter f args) (tp w T d)) (hc:CallsB P J f args w R) (h:∀ e w',R e w'→∃ v,e=.returned v∧wpRB P J ops Q rest (a.put o.dst v) w'):wpRB P J ops Q (i::rest) a w:=by
 intro b k cs Post hkd hA
 have hfin:∀ v,(b.at a (.inRegion ops (i::rest)::k)).finish v=b.at (a.put o.dst v) (.inRegion ops rest::k):=by
  intro v;rw [Frame.finish_at,ho];rfl
 refine comp_goT hP (fun T d=>?_) (hc (b.at a (.inRegion ops (i::rest)::k)) cs Post fun e w' q=>?_)
 ·have hg:=stepG_op (P:=P) (b:=b) (k:=k) (cs:=cs) (w:=tp w T d) (rest:=rest) ho hw
  show (stepG P true { frame:=b.at a (.inRegion ops (i::rest)::k),callers:=cs,status:=.running,dying:=none } (tp w T d)).bare=_
  rw [hg]
  simp [stepG.apply,hr T d,Frame.at]
 ·obtain ⟨v,rfl,hk⟩:=h e w' q
  show Comp P J (gr ((b.at a (.inRegion ops (i::rest)::k)).finish v) cs) w' Post
  rw [hfin]
  exact hk b k cs Post hkd hA
end
end Go.Proofs.Ytoheddpnnjldgaa.Bq
end
namespace Go.Proofs.Ytoheddpnnjldgaa
open Go.RowKit
end Go.Proofs.Ytoheddpnnjldgaa
section
namespace Go.Proofs.Ytoheddpnnjldgaa.Bq
open Go Go.Conc
set_option maxHeartbeats 4000000
variable {P:Program} {J:Nat→Option Obj}
open Classical in
noncomputable def san1 (o:Obj):Obj:=if okC o then o else bad
noncomputable def san (w:World):World:={ w with heap:=w.heap.map san1 }
open Classical in
noncomputable def sanJ (w:World) (b:Nat):Option Obj:=(w.heap[b]?).bind fun o=>if okC o then none else some o
theorem okC_junk {o:Obj} (h : ¬ okC o):junk o=true:=by
 cases o <;> first | rfl | exact absurd trivial h
theorem okC_good {o:Obj} (h:okC o):isBad o=false:=by
 unfold isBad
 split
 · exact h.elim
 · rfl
theorem san_get (w:World) (b:Nat):(san w).heap[b]? = (w.heap[b]?).map san1:=by simp [san]
theorem san_size (w:World):(san w).heap.size=w.heap.size:=by simp [san]
theorem sanJ_ok (w:World):JOk (sanJ w) (san w):=by
 intro b o h
 obtain ⟨x,hx,h⟩:=Option.bind_eq_some_iff.1 h
 split at h
 ·cases h
 ·rename_i hn
  cases h
  exact ⟨okC_junk hn,by rw [san_size];exact (Array.getElem?_eq_some_iff.1 hx).1,hn⟩
theorem san_heap (w:World):HeapOk (san w):=by
 intro b o h
 rw [san_get] at h
 obtain ⟨x,-,rfl⟩:=Option.map_eq_some_iff.1 h
 unfold san1
 split
 · rename_i hx;exact .inl hx
 · exact .inr rfl
theorem san_un (w:World):un (sanJ w) (san w).heap=w.heap:=by
 refine un_ext fun b=>?_
 rw [un_get,san_get]
 cases hb:w.heap[b]? with
 | none=>rfl
 | some o =>
  simp only [Option.map_some,Option.some.injEq]
  unfold san1
  split
  ·rename_i ho;exact un1_good (okC_good ho)
  ·rename_i ho
   show (if isBad bad then (sanJ w b).getD bad else bad)=o
   have:sanJ w b=some o:=by simp [sanJ,hb,ho]
   rw [this]
   rfl
theorem san_rt (w:World):rt (sanJ w) (san w) w.tape w.drawn=w:=by
 show { w with heap:=un (sanJ w) (san w).heap } = w
 rw [san_un]
def TopEnd (P:Program) (f:FuncId) (fn:Func) (R:Value→World→Prop) (g:Goroutine) (w:World):Prop :=
 ∃ (b:Frame) (a:Act) (todo:List Item) (v:Value),g=gr { b.at a todo with mode:=.returning } []∧b.fn=f∧b.kind=.normal∧a.defers=[]∧(results fn a.tmps).run P w=.ok v w∧R v w
theorem comp_top (hP:FuncsOk P) {f:FuncId} {fn:Func} {c:Code} {args:Array Value} {w:World} {R:Value→World→Prop} (hf:P.funcs[f]? = some fn) (hb:fn.body=some c)
  (h:wpB P J c (bodyPost P fn fun e w=>∃ v,e=.returned v∧R v w) { tmps:=args++Array.replicate (fn.ntmps - args.size) undef,defers:=[] } w):Comp P J (gr (Frame.enter P f args .normal) []) w (TopEnd P f fn R):=by
 let b:Frame:={ (default:Frame) with fn:=f,kind:=.normal }
 have henter:Frame.enter P f args .normal=b.at { tmps:=args++Array.replicate (fn.ntmps - args.size) undef,defers:=[] } [.code c]:=by
  simp [Frame.enter,Frame.at,hf,hb,b]
 rw [henter]
 have hret:∀ (a:Act) (w:World) (todo:List Item),(a.defers=[]∧∃ v,(results fn a.tmps).run P w=.ok v w∧∃ v',Ending.returned v=.returned v'∧R v' w)→Comp P J (gr { b.at a todo with mode:=.returning } []) w (TopEnd P f fn R):=by
  rintro a w todo ⟨hd,v,hr,v',e,hR⟩
  cases e
  exact comp_refl ⟨b,a,todo,v,rfl,rfl,rfl,hd,hr,hR⟩
 refine h b [] [] _ (by simp [b]) fun e a' w' q=>?_
 cases e with
 | normal=>exact comp_go hP (fun w=>by simp [stepG,stepG.exec,Frame.at]) (hret a' w' [] q)
 | ret=>exact fun todo=>hret a' w' todo q
 | panic chain =>
  obtain ⟨-,v,hv,-⟩:=q
  cases hv
 | exit id=>exact q.elim
 | goto l=>exact q.elim
 | outgrown=>exact trivial
theorem top_ended {f:FuncId} {fn:Func} {R:Value→World→Prop} {g:Goroutine} {w:World} (hf:P.funcs[f]? = some fn) (hi:P.inits.idxOf? f=none) (h:TopEnd P f fn R g w) (hl:Live g w) (hJ:JOk J w) (T:Nat→Question→Nat) (d:Nat) :
  ∃ v es,stepG P true g (rt J w T d)=.ended (.done v) (rt J w T d) es∧(∀ e∈es,EvL NoShun w.heap.size e)∧R v w:=by
 obtain ⟨b,a,todo,v,rfl,hbf,hbk,hd,hr,hR⟩:=h
 have h1:=(run_rt (J:=J) (T:=T) (c:=d) (t_results fn a.tmps) hl.heap hJ hr).2.2 fun j hj q=>by omega
 rw [Nat.sub_self,Nat.add_zero] at h1
 have h2:((results fn a.tmps).runT P (rt J w T d) #[]).1=.ok v (rt J w T d):=by rw [Sem.runT_fst];exact h1
 have h3:=rt_tame (results fn a.tmps) (t_results fn a.tmps) w hl.heap hJ #[] T d (by rw [Sem.runT_fst,hr];exact fun j hj q=>by have:w.drawn+j < w.drawn:=hj;omega) (by rw [Sem.runT_fst,hr];exact fun _ _ h=>by cases h)
 have h4:=runT_tame (P:=P) (results fn a.tmps) (t_results fn a.tmps) w hl.heap #[]
 obtain ⟨es',he,hev⟩:=h4.ev
 have e5:((results fn a.tmps).runT P w #[]).1=.ok v w:=by rw [Sem.runT_fst];exact hr
 rw [e5] at hev
 have h6:(results fn a.tmps).runT P (rt J w T d) #[]=(.ok v (rt J w T d),es'):=by
  refine Prod.ext h2 ?_
  rw [h3]
  show ((results fn a.tmps).runT P w #[]).2=es'
  rw [he,Array.empty_append]
 refine ⟨v,seen P f es',?_,fun e hes=>evL_of (hev e (seen_sub e hes)),hR⟩
 show stepG P true (gr { b.at a todo with mode:=.returning } []) (rt J w T d)=_
 subst hbf
 have h7:Sem.events P (results fn a.tmps) (rt J w T d) #[]=es':=congrArg Prod.snd h6
 simp [stepG,unwind,doReturn,Frame.at,hd,hf,h1,h7,hbk,hi,GStep.after]
theorem good_of_comp {f:FuncId} {fn:Func} {args:Array Value} {W:World} {R:Value→World→Prop} (hf:P.funcs[f]? = some fn) (hi:P.inits.idxOf? f=none) (h0:0 < W.heap.size) (hg:GOk (gr (Frame.enter P f args .normal) []))
  (h:Comp P (sanJ W) (gr (Frame.enter P f args .normal) []) (san W) (TopEnd P f fn R)) :
  ∃ M last o w' t',runNT P (M+1) (solo (G (Frame.enter P f args .normal) []) W) #[]=(.ended o w',t')∧runN P M (solo (G (Frame.enter P f args .normal) []) W)=.next last ∧
   step P last=.ended o w'∧Conc.Good P (fun v W'=>∃ w d,R v w∧W'=rt (sanJ W) w W.tape d∧W.heap.size≤w.heap.size) last o w' t':=by
 have hl:Live (gr (Frame.enter P f args .normal) []) (san W):=⟨rfl,rfl,hg,san_heap W,by rw [san_size];exact h0⟩
 obtain ⟨N,gs',g',w',c',sl',t',q',hr,h01,hT,hl',hs,hL',hP'⟩:=h (sanJ_ok W) hl W.tape W.drawn #[gr (Frame.enter P f args .normal) []] none #[] (fun _=>0) rfl (leavers_one P _) (past_nil.mono (Nat.zero_le _))
 rw [san_rt] at hr
 have hJ':JOk (sanJ W) w':=(sanJ_ok W).mono hs
 obtain ⟨N2,last,o,w2,t2,hr2,hr3,hst,hgood⟩:=beside_ends (P:=P) (Shun:=NoShun) (B:=w'.heap.size) (D:=fun _ _ es=>∀ e∈es,EvL NoShun w'.heap.size e) (Post:=fun v W'=>∃ w d,R v w∧W'=rt (sanJ W) w W.tape d∧W.heap.size≤w.heap.size) (n:=0) (sl:=sl') (w:=rt (sanJ W) w' W.tape c') (a:=g')
  (fun _ _ _ h=>h) h01 hL' hP' (by
   intro w1 h1
   obtain ⟨d,rfl⟩:=h1
   obtain ⟨v,es,he,hes,hR⟩:=top_ended hf hi hT hl' hJ' W.tape d
   exact ⟨hl'.st,v,es,he,hes,w',d,hR,rfl,by rw [← san_size];exact hs⟩)
 refine ⟨N+N2,last,o,w2,t2,?_,?_,hst,hgood⟩
 ·rw [Nat.add_assoc]
  exact runNT_then hr hr2
 ·have h9:runN P N (solo (G (Frame.enter P f args .normal) []) W)=.next (crowd gs' (rt (sanJ W) w' W.tape c') sl'):=by
   rw [← runNT_fst P N _ #[]]
   exact congrArg Prod.fst hr
  rw [runN_add,h9]
  exact hr3
end Go.Proofs.Ytoheddpnnjldgaa.Bq
end
namespace Go.Proofs.Ytoheddpnnjldgaa
open Go.RowKit
end Go.Proofs.Ytoheddpnnjldgaa
section
namespace Go.Proofs.Ytoheddpnnjldgaa.Bi
open Go Go.Conc
set_option maxHeartbeats 1000000
variable {P:Program} {main:Bool} {X Y:Type} {Sit:X→World→Prop} {Gd:X→X→World→World→Array Event→Prop}
structure Terms (Sit:X→World→Prop) (Gd:X→X→World→World→Array Event→Prop):Prop where
 idle:∀ x w,Sit x w→Gd x x w w #[]
inductive TreeI (P:Program) (main:Bool) (Sit:X→World→Prop) (Gd:X→X→World→World→Array Event→Prop) (Stop:X→Goroutine→Prop):X→Goroutine→Prop
 | stop {x:X} {g:Goroutine} (h:Stop x g):TreeI P main Sit Gd Stop x g
 | step {x:X} {g:Goroutine} (hst:g.status=.running) (hdy:g.dying=none) (x1:World→X) (g1:World→Goroutine) (w1:World→World) (es:World→Array Event)
   (h:∀ w,Sit x w→stepG P main g w=.go (g1 w) (w1 w) (es w)∧Gd x (x1 w) w (w1 w) (es w)) (ht:∀ w,Sit x w→TreeI P main Sit Gd Stop (x1 w) (g1 w)):TreeI P main Sit Gd Stop x g
theorem tree_idle (T:Terms Sit Gd) {Stop:X→Goroutine→Prop} {x:X} {fr fr':Frame} {cs cs':List Frame} (h:∀ w,stepG P main (G fr cs) w=.go (G fr' cs') w) (ht:TreeI P main Sit Gd Stop x (G fr' cs')):TreeI P main Sit Gd Stop x (G fr cs) :=
 .step rfl rfl (fun _=>x) (fun _=>G fr' cs') (fun w=>w) (fun _=>#[]) (fun w hw=>⟨h w,T.idle x w hw⟩) (fun _ _=>ht)
def AfterI (P:Program) (main:Bool) (Sit:X→World→Prop) (Gd:X→X→World→World→Array Event→Prop) (Stop:X→Goroutine→Prop) (b:Frame) (k:List Item) (cs:List Frame):Exit→X→Act→Prop
 | .normal,x,a=>TreeI P main Sit Gd Stop x (G (b.at a k) cs)
 | .exit id,x,a=>∃ k',exitTo id k=some k'∧TreeI P main Sit Gd Stop x (G (b.at a k') cs)
 | .ret,x,a=>∀ todo,TreeI P main Sit Gd Stop x (G { b.at a todo with mode:=.returning } cs)
 | _,_,_=>False
theorem AfterI.push {Stop:X→Goroutine→Prop} {b:Frame} {y:Item} {k:List Item} {cs:List Frame} {e:Exit} {x:X} {a:Act} (hx:y.plain=true) (he:e≠.normal)
  (h:AfterI P main Sit Gd Stop b k cs e x a):AfterI P main Sit Gd Stop b (y::k) cs e x a:=by
 cases e with
 | normal=>exact absurd rfl he
 | exit id=>obtain ⟨k',hk,hg⟩:=h;exact ⟨k',by cases y <;> simp_all [exitTo,Item.plain],hg⟩
 | ret=>exact h
 | goto l=>exact h
 | panic ch=>exact h
 | outgrown=>exact h
def thenI (k:Y→X→Act→Prop) (Q:Exit→Y→X→Act→Prop):Exit→Y→X→Act→Prop
 | .normal,s,x,a=>k s x a
 | e,s,x,a=>Q e s x a
def blockI (id:Nat) (Q:Exit→Y→X→Act→Prop):Exit→Y→X→Act→Prop
 | .exit id',s,x,a=>if id'=id then Q .normal s x a else Q (.exit id') s x a
 | e,s,x,a=>Q e s x a
def wpI (P:Program) (main:Bool) (Sit:X→World→Prop) (Gd:X→X→World→World→Array Event→Prop) (St:Y→X→Goroutine→Prop) (fn:FuncId) (c:Code) (Q:Exit→Y→X→Act→Prop) (s:Y) (x:X) (a:Act):Prop :=
 ∀ (b:Frame) (k:List Item) (cs:List Frame),b.fn=fn→b.kind≠.early→(∀ e s' x' a',Q e s' x' a'→AfterI P main Sit Gd (St s') b k cs e x' a')→TreeI P main Sit Gd (St s) x (G (b.at a (.code c::k)) cs)
def opsI (P:Program) (main:Bool) (Sit:X→World→Prop) (Gd:X→X→World→World→Array Event→Prop) (St:Y→X→Goroutine→Prop) (fn:FuncId) (ops:Array Oper) (todo:List Nat) (Q:Exit→Y→X→Act→Prop) (s:Y) (x:X) (a:Act):Prop :=
 ∀ (b:Frame) (k:List Item) (cs:List Frame),b.fn=fn→b.kind≠.early→(∀ e s' x' a',Q e s' x' a'→AfterI P main Sit Gd (St s') b k cs e x' a')→TreeI P main Sit Gd (St s) x (G (b.at a (.inRegion ops todo::k)) cs)
section rules
variable {fn:FuncId} {Q:Exit→Y→X→Act→Prop} {St:Y→X→Goroutine→Prop} {s:Y} {x:X} {a:Act}
theorem wpI_skip (T:Terms Sit Gd) (h:Q .normal s x a):wpI P main Sit Gd St fn .skip Q s x a:=fun _ _ _ _ _ hc=>tree_idle T (fun _=>stepG_skip) (hc _ _ _ _ h)
theorem wpI_ret (T:Terms Sit Gd) (h:Q .ret s x a):wpI P main Sit Gd St fn .ret Q s x a:=fun _ _ _ _ _ hc=>tree_idle T (fun _=>stepG_ret') (hc _ _ _ _ h _)
theorem wpI_exit (T:Terms Sit Gd) {id:Nat} (h:Q (.exit id) s x a):wpI P main Sit Gd St fn (.exit id) Q s x a:=fun _ _ _ _ _ hc=>by
 obtain ⟨k',hk',hg⟩:=hc _ _ _ _ h
 exact tree_idle T (fun _=>stepG_exit hk') hg
theorem wpI_seq (T:Terms Sit Gd) {y z:Code} (h:wpI P main Sit Gd St fn y (thenI (wpI P main Sit Gd St fn z Q) Q) s x a):wpI P main Sit Gd St fn (.seq y z) Q s x a:=by
 intro b k cs hb hk hc
 refine tree_idle T (fun _=>stepG_seq) (h b (.code z::k) cs hb hk fun e s' x' a' q=>?_)
 cases e with
 | normal=>exact q b k cs hb hk hc
 | exit id=>exact (hc _ _ _ _ q).push rfl (by simp)
 | ret=>exact (hc _ _ _ _ q).push (y:=.code z) rfl (by simp)
 | goto l=>exact hc _ _ _ _ q
 | panic ch=>exact hc _ _ _ _ q
 | outgrown=>exact hc _ _ _ _ q
theorem wpI_cond (T:Terms Sit Gd) {c:Operand} {y z:Code} {t:Bool} (hc:a.eval c=.bool t) (h:wpI P main Sit Gd St fn (if t then y else z) Q s x a):wpI P main Sit Gd St fn (.cond c y z) Q s x a :=
 fun b k cs hb hk hq=>tree_idle T (fun _=>stepG_cond hc) (h b k cs hb hk hq)
theorem wpI_block (T:Terms Sit Gd) {id:Nat} {c:Code} (h:wpI P main Sit Gd St fn c (blockI id Q) s x a):wpI P main Sit Gd St fn (.block id c) Q s x a:=by
 intro b k cs hb hk hc
 refine tree_idle T (fun _=>stepG_block) (h b (.inBlock id::k) cs hb hk fun e s' x' a' q=>?_)
 cases e with
 | normal=>exact tree_idle T (fun _=>stepG_inBlock) (hc _ _ _ _ q)
 | exit id' =>
  by_cases hid:id'=id
  ·simp only [blockI,hid,if_true] at q
   exact ⟨k,by simp [exitTo,hid],hc _ _ _ _ q⟩
  ·simp only [blockI,hid,if_false] at q
   obtain ⟨k',hk',hg⟩:=hc _ _ _ _ q
   have:(id == id')=false:=by simp;exact fun h=>hid h.symm
   exact ⟨k',by simp [exitTo,this,hk'],hg⟩
 | ret=>exact hc _ _ _ _ q
 | goto l=>exact hc _ _ _ _ q
 | panic ch=>exact hc _ _ _ _ q
 | outgrown=>exact hc _ _ _ _ q
theorem wpI_loop (T:Terms Sit Gd) {c:Code} (I:Nat→Y→X→Act→Prop) (h₀:∃ m,I m s x a)
  (round:∀ m s x a,I m s x a→wpI P main Sit Gd St fn c (thenI (fun s' x' a'=>∃ m',m' < m∧I m' s' x' a') Q) s x a):wpI P main Sit Gd St fn (.loop c) Q s x a:=by
 intro b k cs hb hk hc
 have key:∀ m s x a,I m s x a→TreeI P main Sit Gd (St s) x (G (b.at a (.code c :: .inLoop c::k)) cs):=by
  intro m
  induction m using Nat.strongRecOn with
  | _ m ih =>
   intro s x a hI
   refine round m s x a hI b (.inLoop c::k) cs hb hk fun e s' x' a' q=>?_
   cases e with
   | normal =>
    obtain ⟨m',hlt,hI'⟩:=q
    exact tree_idle T (fun _=>stepG_inLoop) (ih m' hlt s' x' a' hI')
   | exit id=>exact (hc _ _ _ _ q).push rfl (by simp)
   | ret=>exact (hc _ _ _ _ q).push (y:=.inLoop c) rfl (by simp)
   | goto l=>exact hc _ _ _ _ q
   | panic ch=>exact hc _ _ _ _ q
   | outgrown=>exact hc _ _ _ _ q
 obtain ⟨m,h₀⟩:=h₀
 exact tree_idle T (fun _=>stepG_loop) (key m s x a h₀)
theorem wpI_region (T:Terms Sit Gd) {id:Nat} {ops:Array Oper} (h:opsI P main Sit Gd St fn ops (List.range ops.size) Q s x a):wpI P main Sit Gd St fn (.region id ops false) Q s x a :=
 fun b k cs hb hk hc=>tree_idle T (fun _=>stepG_region) (h b k cs hb hk hc)
theorem opsI_nil (T:Terms Sit Gd) {ops:Array Oper} (h:Q .normal s x a):opsI P main Sit Gd St fn ops [] Q s x a:=fun _ _ _ _ _ hc=>tree_idle T (fun _=>stepG_region_end) (hc _ _ _ _ h)
theorem opsI_unwanted (T:Terms Sit Gd) {ops:Array Oper} {i:Nat} {rest:List Nat} {o:Oper} (ho:ops[i]? = some o) (hw:Region.wanted o (yielded ops a.tmps)=false)
  (h:opsI P main Sit Gd St fn ops rest Q s x (a.put o.dst undef)):opsI P main Sit Gd St fn ops (i::rest) Q s x a :=
 fun b k cs hb hk hc=>tree_idle T (fun _=>stepG_unwanted ho hw) (h b k cs hb hk hc)
theorem opsI_value {ops:Array Oper} {i:Nat} {rest:List Nat} {o:Oper} (ho:ops[i]? = some o) (hw:Region.wanted o (yielded ops a.tmps)=true) (v:World→Value) (x1:World→X) (w1:World→World)
  (h:∀ w,Sit x w→(execOp a.eval o).run P w=.ok (.value (v w)) (w1 w)∧Gd x (x1 w) w (w1 w) (listed P fn a o w)) (hn:∀ w,Sit x w→opsI P main Sit Gd St fn ops rest Q s (x1 w) (a.put o.dst (v w))):opsI P main Sit Gd St fn ops (i::rest) Q s x a:=by
 intro b k cs hb hk hc
 refine .step rfl rfl x1 (fun w=>G (b.at (a.put o.dst (v w)) (.inRegion ops rest::k)) cs) w1 (fun w=>listed P fn a o w) (fun w hw1=>⟨?_,(h w hw1).2⟩) (fun w hw1=>hn w hw1 b k cs hb hk hc)
 rw [stepG_value ho hw hk (h w hw1).1,hb]
def bodyPostI (P:Program) (fn:Func) (Post:Y→X→Value→Prop):Exit→Y→X→Act→Prop
 | .normal,s,x,a | .ret,s,x,a=>a.defers=[]∧∃ v,ResultsC P fn a.tmps v∧Post s x v
 | _,_,_,_=>False
def CallsI (P:Program) (main:Bool) (Sit:X→World→Prop) (Gd:X→X→World→World→Array Event→Prop) (St:Y→X→Goroutine→Prop) (f:FuncId) (args:Array Value) (s:Y) (x:X) (Post:Y→X→Value→Prop):Prop :=
 ∀ (c:Frame) (cs:List Frame),(∀ s' x' v,Post s' x' v→TreeI P main Sit Gd (St s') x' (G (c.finish v) cs))→TreeI P main Sit Gd (St s) x (G (Frame.enter P f args .normal) (c::cs))
theorem callsI_of_wpI (T:Terms Sit Gd) {f:FuncId} {fn':Func} {c:Code} {args:Array Value} {Post:Y→X→Value→Prop} (hf:P.funcs[f]? = some fn') (hb:fn'.body=some c)
  (h:wpI P main Sit Gd St f c (bodyPostI P fn' Post) s x { tmps:=args++Array.replicate (fn'.ntmps - args.size) undef,defers:=[] }):CallsI P main Sit Gd St f args s x Post:=by
 intro c0 cs hc
 rw [enter_at _ hf hb]
 have hleave:∀ (s':Y) (x':X) (a':Act) (todo:List Item),(a'.defers=[]∧∃ v,ResultsC P fn' a'.tmps v∧Post s' x' v)→TreeI P main Sit Gd (St s') x' (G { (base f).at a' todo with mode:=.returning } (c0::cs)):=by
  rintro s' x' a' todo ⟨hd,v,hr,hp⟩
  exact tree_idle T (fun w=>stepG_leave (b:=base f) rfl hd hf (hr w).1 (hr w).2) (hc _ _ _ hp)
 refine h (base f) [] _ rfl (by simp [base]) fun e s' x' a' q=>?_
 cases e with
 | normal=>exact tree_idle T (fun w=>stepG_end) (hleave s' x' a' [] q)
 | ret=>exact fun todo=>hleave s' x' a' todo q
 | exit id=>exact q.elim
 | goto l=>exact q.elim
 | panic ch=>exact q.elim
 | outgrown=>exact q.elim
theorem opsI_call {ops:Array Oper} {i:Nat} {rest:List Nat} {o:Oper} {f:FuncId} {args:Array Value} {Post:Y→X→Value→Prop} (ho:ops[i]? = some o) (hw:Region.wanted o (yielded ops a.tmps)=true)
  (x1:World→X) (w1:World→World) (h:∀ w,Sit x w→(execOp a.eval o).run P w=.ok (.enter f args) (w1 w)∧Gd x (x1 w) w (w1 w) (listed P fn a o w))
  (hcall:∀ w,Sit x w→CallsI P main Sit Gd St f args s (x1 w) Post) (hn:∀ s' x' v,Post s' x' v→opsI P main Sit Gd St fn ops rest Q s' x' (a.put o.dst v)):opsI P main Sit Gd St fn ops (i::rest) Q s x a:=by
 intro b k cs hb hk hc
 have hfin:∀ v,(b.at a (.inRegion ops (i::rest)::k)).finish v=b.at (a.put o.dst v) (.inRegion ops rest::k):=fun v=>by rw [Frame.finish_at,ho];rfl
 refine .step rfl rfl x1 (fun _=>G (Frame.enter P f args .normal) (b.at a (.inRegion ops (i::rest)::k)::cs)) w1 (fun w=>listed P fn a o w) (fun w hw1=>⟨?_,(h w hw1).2⟩) (fun w hw1=>hcall w hw1 _ cs fun s' x' v q=>?_)
 ·rw [stepG_enter ho hw hk (h w hw1).1,hb]
 ·rw [hfin]
  exact hn s' x' v q b k cs hb hk hc
theorem wpI_draw {id:Nat} {ops:Array Oper} (hd:∀ w,Sit x w→Gd x x w { w with drawn:=w.drawn+1 } #[]) (h:∀ t,opsI P main Sit Gd St fn ops (Region.schedule (P.follows .mixedOrders) ops t) Q s x a):wpI P main Sit Gd St fn (.region id ops true) Q s x a:=by
 intro b k cs hb hk hc
 exact .step rfl rfl (fun _=>x) (fun w=>G (b.at a (.inRegion ops (Region.schedule (P.follows .mixedOrders) ops (w.tape w.drawn (.order b.fn id)))::k)) cs) (fun w=>{ w with drawn:=w.drawn+1 }) (fun _=>#[])
  (fun w hw=>⟨stepG_region_draw,hd w hw⟩) (fun w hw=>h _ b k cs hb hk hc)
def opI (P:Program) (main:Bool) (Sit:X→World→Prop) (Gd:X→X→World→World→Array Event→Prop) (St:Y→X→Goroutine→Prop) (fn:FuncId) (ops:Array Oper) (i:Nat) (K:Y→X→Act→Prop) (s:Y) (x:X) (a:Act):Prop :=
 ∀ (rest:List Nat) (Q:Exit→Y→X→Act→Prop),(∀ s' x' a',K s' x' a'→opsI P main Sit Gd St fn ops rest Q s' x' a')→opsI P main Sit Gd St fn ops (i::rest) Q s x a
def anyI (P:Program) (main:Bool) (Sit:X→World→Prop) (Gd:X→X→World→World→Array Event→Prop) (St:Y→X→Goroutine→Prop) (fn:FuncId) (md:Region.Mode) (ops:Array Oper) (Q:Exit→Y→X→Act→Prop):Nat→Array Bool→Y→X→Act→Prop
 | 0,_,s,x,a=>Q .normal s x a
 | fuel+1,listed,s,x,a=>(Region.ready md ops listed=[]→Q .normal s x a)∧∀ i∈Region.ready md ops listed,opI P main Sit Gd St fn ops i (fun s' x' a'=>anyI P main Sit Gd St fn md ops Q fuel (listed.setIfInBounds i true) s' x' a') s x a
theorem anyI_sound (T:Terms Sit Gd) {md:Region.Mode} {ops:Array Oper}:∀ (fuel t:Nat) (listed:Array Bool) (s:Y) (x:X) (a:Act),anyI P main Sit Gd St fn md ops Q fuel listed s x a→opsI P main Sit Gd St fn ops (Region.linearise.go md ops fuel t listed []) Q s x a:=by
 intro fuel
 induction fuel with
 | zero=>intro t listed s x a h;simpa [Region.linearise.go] using opsI_nil T h
 | succ fuel ih =>
  intro t listed s x a h
  obtain ⟨h₀,h₁⟩:=h
  simp only [Region.linearise.go]
  change opsI P main Sit Gd St fn ops (match (Region.ready md ops listed)[t % (Region.ready md ops listed).length]? with
   | some i=>Region.linearise.go md ops fuel (t / (Region.ready md ops listed).length) (listed.setIfInBounds i true) [i]
   | none=>[].reverse) Q s x a
  cases hi:(Region.ready md ops listed)[t % (Region.ready md ops listed).length]? with
  | none =>
   have hnil:Region.ready md ops listed=[]:=by
    cases hr:Region.ready md ops listed with
    | nil=>rfl
    | cons y ys =>
     rw [hr] at hi
     have hlt:t % (y::ys).length < (y::ys).length:=Nat.mod_lt _ (by simp)
     simp at hi
     simp at hlt
     omega
   simpa using opsI_nil T (h₀ hnil)
  | some i =>
   simp only []
   rw [linearise_go_acc,List.reverse_singleton,List.singleton_append]
   exact h₁ i (List.mem_of_getElem? hi) _ Q fun s' x' a' q=>ih _ _ s' x' a' q
end rules
end Go.Proofs.Ytoheddpnnjldgaa.Bi
end
namespace Go.Proofs.Ytoheddpnnjldgaa
open Go.RowKit
end Go.Proofs.Ytoheddpnnjldgaa


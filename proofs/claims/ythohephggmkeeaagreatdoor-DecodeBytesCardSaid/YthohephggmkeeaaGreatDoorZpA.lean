/- Parts of the proof of DecodeBytes: merged and given short names by a program of ours. -/
import Derived.Orders
import Derived.Below
import Derived.KernelRfl
import Derived.Eval
import Derived.RangeFuncRecord
import Derived.Laws.Sem
import Derived.Scope
import Derived.Test.YthohephggmkeeaaGreatDoorRows
set_option linter.unusedVariables false
set_option linter.unusedSimpArgs false
open Array renaming getD_eq_getD_getElem? → a1W, getElem?_eq_getElem → a2M, getElem?_setIfInBounds_self_of_lt → a3O, getElem?_setIfInBounds_ne → a3U, length_toList → a4B, all_eq_true' → a4H, getElem?_eq_none → a6A, mem_of_getElem? → a6T
open Bool renaming and_eq_true → a1S, false_eq_true → a2A, not_true → a3P, or_eq_true → a4L, not_eq_true' → a4T, or_eq_false_iff → a5P
open List renaming getElem?_cons_succ → a1B, getElem?_eq_getElem → a1I, getD_eq_getElem?_getD → a1P, length_cons → a1U, getElem?_eq_none → a1X, mem_cons_of_mem → a2E, drop_eq_getElem_cons → a2J, length_eq_zero_iff → a2K, mem_range → a2U, mem_append → a2X, map_congr_left → a2Y, mem_cons → a3C, mem_of_getElem? → a3E, all_eq_true → a3L, map_cons → a4D, mem_map → a4J, getElem_of_mem → a4K, toList_toArray → a4W, mem_append_left → a5B, mem_cons_self → a5L, mem_append_right → a6F, mem_filter → a6K, length_erase_of_mem → a6L, map_nil → a6Y
open Nat renaming le_refl → a1J, zero_add → a1Q, lt_or_ge → a1Y, eq_of_beq_eq_true → a2W, le_trans → a3K, add_assoc → a4E, mod_lt → a4X, lt_of_lt_of_le → a5M, blt_eq → a5Z, le_of_ble_eq_true → a6G
open Option renaming map_some → a2Q, getD_some → a5H
open Option.some renaming inj → a1Z
namespace Go.En
open Go
variable{A B:Prop}{N:Nat}{S:Nat->Prop}{T:Type}{cs:List Frame}{rs:List ResultVar}
abbrev a7B:=World
abbrev a7C:=Value
variable{R:a7C->a7B->Prop}{args:Array a7C}
abbrev Env:=Nat->a7C
variable{g':Env}
def put(g:Env)(d:Option Tmp)(v:a7C):Env:=
 match d with
 |some d=>λi=>match Nat.beq i d with|true=>v|false=>g i
 |none=>g
def ev(g:Env):Operand->a7C
 | .tmp t=>g t
 | .const v=>v
 | .global b=> .pointer (some ⟨b,0,none⟩)
 | .func f=> .func (.func f) #[] #[]
def Ret(P:Program)(f:FuncId)(args:Array a7C)(w:a7B)(v:a7C)(w':a7B):Prop:=
 Calls P f args w λe w''=>e= .returned v/\w''=w'
def aL(P:Program)(f:FuncId)(args:Array a7C)(w:a7B)(R:a7C->a7B->Prop):Prop:=
 ∃v w',Ret P f args w v w'/\R v w'
theorem aL.mono {P:Program}{f:FuncId}{w:a7B}{R':a7C->a7B->Prop}(h:aL P f args w R)
 (hr:∀v w',R v w'->R' v w'):aL P f args w R':=
 let⟨v,w',a,b⟩:=h;⟨v,w',a,hr _ _ b⟩
def aXn(P:Program)(l:Nat)(f:FuncId)(tmps:Array a7C)(a0Z bd:Code)(w:a7B)(v:a7C)(w':a7B):Prop:=
 RoundIn Fence.wide 0 P l f tmps a0Z bd w λe w''=>e= .returned v/\w''=w'
def aXj(P:Program)(l:Nat)(f:FuncId)(tmps:Array a7C)(a0Z bd:Code)(w:a7B)(R:a7C->a7B->Prop):Prop:=
 ∃v w',aXn P l f tmps a0Z bd w v w'/\R v w'
def aKk(P:Program)(r:Result Next)(K:a7C->a7B->Prop):Prop:=
 match r with
 | .ok (.value v) w=>K v w
 | .ok .skip w=>K undef w
 | .ok (.enter f args) w=>aL P f args w K
 | .ok (.round l f tmps a0Z bd) w=>aXj P l f tmps a0Z bd w K
 |_=>False
theorem aBn(P:Program)(v:a7C)(w:a7B)(K:a7C->a7B->Prop):aKk P (.ok (.value v) w) K=K v w:=Eq.trans rfl rfl
theorem stepR_skip(P:Program)(w:a7B)(K:a7C->a7B->Prop):aKk P (.ok .skip w) K=K undef w:=Eq.trans rfl rfl
theorem aBm(P:Program)(f:FuncId)(args:Array a7C)(w:a7B)(K:a7C->a7B->Prop):aKk P (.ok (.enter f args) w) K=aL P f args w K:=Eq.trans rfl rfl
def bF(P:Program)(s:Sem Next)(w:a7B)(K:a7C->a7B->Prop):Prop:=aKk P (s.run P w) K
def aFe(P:Program)(s:Sem Next)(v:a7C)(w:a7B):Prop:=s.run P w= .ok (.value v) w
def Gd(b:Bool)(s:(a7C->a7B->Prop)->Prop)(w:a7B)(K:a7C->a7B->Prop):Prop:=
 match b with
 |true=>s K
 |false=>K undef w
def asB(v:a7C):Option Bool:=match v with| .bool b=>some b|_=>none
def isB(v:a7C)(want:Bool):Bool:=asB v==some want
def JJ(v:a7C)(A B:Prop):Prop:=
 match v with
 | .bool b=>(match b with|true=>A|false=>B)
 |_=>False
def H5 (ops:Array Oper)(j:Nat):Option Tmp:=(ops[j]?).bind (·.dst)
def Ax(g:Env)(t:Option Tmp)(want:Bool):Bool:=match t with|some t=>isB (g t) want|none=>false
def V(s:Sem a7C):Sem Next:=do pure (.value (<-s))
def U(s:Sem Unit):Sem Next:=do s;pure .skip
def Oe(op:BinOp):Bool:=match op with| .eql| .neq=>true|_=>false
def bZ(op:BinOp)(t:TypeId)(ox oy:Operand)(x y:a7C):Sem Next:=
 match Oe op with
 |true=>V (do eqGuard op t ox oy x y;binOp op t x y)
 |false=>V (binOp op t x y)
def yM(b:Builtin)(ats:Array TypeId)(ty:TypeId)(args:List a7C):Sem Next:=builtin b ats ty #[] args.toArray
def Ps(f:a7C)(args:List a7C):Sem Next:=do let d<-Deferred.ofValue f args.toArray;invoke d.target d.args
def aGz(fn:Fn)(first captured:List a7C):Sem Next:=V (Instr.makeFunc fn first.toArray captured.toArray)
def dK(t:TypeId)(ps:List (Nat×a7C)):Sem Next:=V (Instr.build t ps.toArray)
def fX(t:TypeId)(n:Nat)(ps:List (Nat×a7C)):Sem Next:=V (Instr.buildSlice t n ps.toArray)
def Ue(g:Env)(o:Oper):Sem Next:=
 match o.op with
 | .binOp op t x y _=>bZ op t x y (ev g x) (ev g y)
 | .makeFunc fn first captured=>aGz fn (first.toList.map (ev g)) (captured.toList.map (ev g))
 | .build t ps=>dK t (ps.toList.map λp=>(p.1,ev g p.2))
 | .buildSlice t n ps=>fX t n (ps.toList.map λp=>(p.1,ev g p.2))
 | .call c=>(match c.callee with
   | .builtin b=>yM b c.argTypes o.type (c.args.toList.map (ev g))
   | .value f=>Ps (ev g f) (c.args.toList.map (ev g))
   |_=>execOp (ev g) o)
 |_=>execOp (ev g) o
def QW(P:Program)(g:Env)(o:Oper)(w:a7B)(K:a7C->a7B->Prop):Prop:=
 match o.op with
 | .move x=>K (ev g x) w
 | .assign x=>K (ev g x) w
 | .call c=>(match c.callee with
   | .value (.func f)=>aL P f (c.args.toList.map (ev g)).toArray w K
   |_=>bF P (Ue g o) w K)
 |_=>bF P (Ue g o) w K
def Oz(P:Program)(ops:Array Oper)(g:Env)(o:Oper)(w:a7B)(K:a7C->a7B->Prop):Prop:=
 match o.guard with
 |none=>QW P g o w K
 |some (j,want)=>Gd (Ax g (H5 ops j) want) (QW P g o w) w K
def aDj(P:Program)(ops:Array Oper):List Oper->Env->a7B->(Env->a7B->Prop)->Prop
 |[],g,w,K=>K g w
 |o::rest,g,w,K=>Oz P ops g o w λv w'=>aDj P ops rest (put g o.dst v) w' K
structure Rec where
 heavy:Bool
 o:Oper
 g:Env
 w:a7B
 v:a7C
def gOf(ops:Array Oper)(o:Oper)(g:Env):Bool:=match o.guard with|none=>true|some (j,want)=>Ax g (H5 ops j) want
def Gs(b:Bool)(p:Prop):Prop:=match b with|true=>p|false=>True
def amJ(P:Program)(ops:Array Oper)(q:Rec)(o:Oper)(g:Env)(w':a7B)(v:a7C):Prop:=
 match q.heavy with
 |true=>Gs (gOf ops o g) (aFe P (Ue g o) v q.w)
 |false=>Gs (gOf ops q.o q.g) (aFe P (Ue q.g q.o) q.v w')
def aDV(i j:Nat):List (Nat×Nat)->Bool
 |[]=>false
 |(a,b)::r=>match Nat.beq a i with
  |true=>(match Nat.beq b j with|true=>true|false=>aDV i j r)
  |false=>aDV i j r
def qP(i:Nat):List Nat->Bool
 |[]=>false
 |a::r=>match Nat.beq a i with|true=>true|false=>qP i r
def aJy:List Rec->Nat->Option Rec
 |[],_=>none
 |q::_,0=>some q
 |_::r,n+1=>aJy r n
def aS7 (P:Program)(ops:Array Oper)(o:Oper)(g:Env)(w':a7B)(v:a7C)(hist:List Rec):List Nat->Prop
 |[]=>True
 |k::ks=>(match aJy hist k with
  |some q=>amJ P ops q o g w' v
  |none=>False)/\aS7 P ops o g w' v hist ks
abbrev Ann:=List Nat×List (Nat×Nat)
abbrev Te:=List (Bool×List Nat)
def sO(P:Program)(ops:Array Oper):List Oper->Te->List Rec->Env->a7B->(Env->a7B->Prop)->Prop
 |[],_,_,g,w,K=>K g w
 |_::_,[],_,_,_,_=>False
 |o::rest,(hv,ks)::pl,hist,g,w,K=>
  Oz P ops g o w λv w'=>
   match hv,ks with
   |true,[]=>sO P ops rest pl (⟨true,o,g,w,v⟩::hist) (put g o.dst v) w' K
   |true,k::ks=>aS7 P ops o g w' v hist (k::ks)/\sO P ops rest pl (⟨true,o,g,w,v⟩::hist) (put g o.dst v) w' K
   |false,[]=>w'=w/\sO P ops rest pl (⟨false,o,g,w,v⟩::hist) (put g o.dst v) w K
   |false,k::ks=>w'=w/\aS7 P ops o g w v hist (k::ks)/\sO P ops rest pl (⟨false,o,g,w,v⟩::hist) (put g o.dst v) w K
def aN{α:Type}(F:(α->a7B->Prop)->α->a7B->Prop)(g:α)(w:a7B):Prop:=
 ∃I:Nat->α->a7B->Prop,(∃n,I n g w)/\∀n g w,I n g w->F (λg' w'=>∃m,m<n/\I m g' w') g w
def vZ(K:Env->a7B->Prop)(Q:Exit->Env->a7B->Prop):Exit->Env->a7B->Prop:=
 λe g w=>(λ(_:Program->Sem Next->a7B->(a7C->a7B->Prop)->Prop)=>match e with| .normal=>K g w|e=>Q e g w) bF
def blk(id:Nat)(Q:Exit->Env->a7B->Prop):Exit->Env->a7B->Prop:=
 λe g w=>(λ(_:Program->Sem Next->a7B->(a7C->a7B->Prop)->Prop)=>match e with| .exit i=>(match Nat.beq i id with|true=>Q .normal g w|false=>Q (.exit i) g w)|e=>Q e g w) bF
inductive HT where
 |leaf (an:Ann) (pl:Te)
 |perm (π:List Nat) (es:List (Nat×Nat)) (an:Ann) (pl:Te)
 |split(a b:Nat) (x y:HT)
structure FA where
 f:FuncId
 t:Nat->HT
def zR:List Nat->Nat->Nat
 |[],_=>0
 |a::r,i=>match Nat.beq a i with|true=>0|false=>zR r i+1
def Mq(π:List Nat)(i:Nat):List (Nat×Nat)->List Edge
 |[]=>[]
 |(a,b)::r=>match Nat.beq b i with|true=>⟨zR π a,.data⟩::Mq π i r|false=>Mq π i r
def Sm(π:List Nat)(es:List (Nat×Nat))(i:Nat)(o:Oper):Oper:=
 {dst:=o.dst,op:=o.op,type:=o.type,pos:=o.pos,after:=(o.after.toList.map (λe=>(⟨zR π e.on,e.ground⟩:Edge))++Mq π i es).toArray,
  guard:=match o.guard with|none=>none|some (j,b)=>some (zR π j,b)}
def atC(π:List Nat)(es:List (Nat×Nat))(l:List Oper):List Nat->List Oper
 |[]=>[]
 |i::r=>match l[i]? with|some o=>Sm π es i o::atC π es l r|none=>atC π es l r
def qI(π:List Nat)(es:List (Nat×Nat))(ops:Array Oper):Array Oper:=(atC π es ops.toList π).toArray
def aRv(f:FuncId)(id:Nat)(ops:Array Oper)(a b:Nat)(w:a7B):Bool:=
 Nat.ble ((Region.schedule true ops (w.tape w.drawn (.order f id))).idxOf a) ((Region.schedule true ops (w.tape w.drawn (.order f id))).idxOf b)
def Ord(b:Bool)(A B:Prop):Prop:=match b with|true=>A|false=>B
def aIO(P:Program)(f:FuncId)(id:Nat)(ops:Array Oper):HT->Env->a7B->a7B->(Env->a7B->Prop)->Prop
 | .leaf _ pl,g,_,w,K=>sO P ops ops.toList pl [] g w K
 | .perm π es _ pl,g,_,w,K=>sO P (qI π es ops) (qI π es ops).toList pl [] g w K
 | .split a b x y,g,w0,w,K=>Ord (aRv f id ops a b w0) (aIO P f id ops x g w0 w K) (aIO P f id ops y g w0 w K)
def DS:Nat:=1000003
def aIP:a7C->List Deferred
 | .pointer (some a)=>[{target:= .collected a.block,args:= #[]}]
 |_=>[]
def noMark:a7C->Bool
 | .pointer _=>false
 |_=>true
def tmpsOf(N:Nat)(g:Env):Array a7C:=Array.ofFn (n:=N) λi=>g i.val
def aOz(P:Program)(f:FuncId):Nat:=match P.funcs[f]? with|some fn=>fn.ntmps|none=>0
def aXz(Q:Exit->Env->a7B->Prop)(g:Env):Option Code->a7B->Prop
 |none,w=>Q .normal g w
 |some .ret,w=>Q .ret g w
 |some (.exit i),w=>Q (.exit i) g w
 |_,_=>False
def aXl(l:Nat)(Q:Exit->Env->a7B->Prop)(g:Env)(w:a7B):Prop:=
 ∃r:Loop,w.heap[l]?=some (.loop r)/\r.state≠.busy/\aXz Q g r.pending (w.putObj l (.loop {r with state:= .exhausted}))
def rfW(f:FuncId)(N:Nat)(ps:Array Tmp)(a0Z bd:Code)(g:Env)(w:a7B):a7B:=
 (w.alloc (.deferred (some []))).alloc (.loop {state:= .ready,pending:=none,fn:=f,tmps:=tmpsOf N g,params:=ps,assign:=a0Z,body:=bd,defers:=w.heap.size})
def aX1 (P:Program)(r:Result Next)(K:a7C->a7B->Prop):Prop:=
 match r with
 | .ok (.enter f args) w=>aL P f args w K
 |_=>False
def apY(l:Nat):a7C:= .func (.yield l) #[] #[]
def RF(P:Program)(f:FuncId)(gf:Operand)(ps:Array Tmp)(a0Z bd:Code)(Q:Exit->Env->a7B->Prop)(g:Env)(w:a7B):Prop:=
 match noMark (g DS)with
 |true=>aX1 P ((Ps (ev g gf) [apY (w.heap.size+1)]).run P (rfW f (aOz P f) ps a0Z bd g w)) λ_ w3=>
  aXl (w.heap.size+1) Q (put g (some DS) (.pointer (some ⟨w.heap.size,0,none⟩))) w3
 |false=>False
def bQ(P:Program)(ann:FA):Code->(Exit->Env->a7B->Prop)->Env->a7B->Prop
 | .skip,Q,g,w=>Q .normal g w
 | .region id ops draw,Q,g,w=>match draw with
   |false=>aDj P ops ops.toList g w (Q .normal)
   |true=>aIO P ann.f id ops (ann.t id) g w {w with drawn:=w.drawn+1} (Q .normal)
 | .seq x y,Q,g,w=>bQ P ann x (vZ (λg w=>bQ P ann y Q g w) Q) g w
 | .cond c x y,Q,g,w=>JJ (ev g c) (bQ P ann x Q g w) (bQ P ann y Q g w)
 | .block id c,Q,g,w=>bQ P ann c (blk id Q) g w
 | .loop c,Q,g,w=>aN (λX g w=>bQ P ann c (vZ X Q) g w) g w
 | .scope c,Q,g,w=>bQ P ann c Q g w
 | .label _,Q,g,w=>Q .normal g w
 | .exit id,Q,g,w=>Q (.exit id) g w
 | .ret,Q,g,w=>Q .ret g w
 | .rangeFunc gf ps a0Z bd,Q,g,w=>RF P ann.f gf ps a0Z bd Q g w
 |_,_,_,_=>False
def aNn(N:Nat)(o:Oper):Bool:=match o.dst with|some d=>Nat.blt d N|none=>true
def bef(b:Array Nat)(i j:Nat):Bool:=(b.getD j 0).testBit i
def looks(ops:Array Oper)(o:Oper):List Tmp:=
 (o.op.operands.toList.filterMap λ| .tmp t=>some t|_=>none)++(match o.guard with|some (j,_)=>(H5 ops j).toList|none=>[])
def aQy(ops:Array Oper)(x y:Oper):Bool:=
 (match x.dst with|some d=>(looks ops y).contains d||y.dst==some d|none=>false)||
 (match y.dst with|some d=>(looks ops x).contains d|none=>false)
def aAW(o:Oper):Bool:=match o.op with| .select .. =>true|_=>false
def aQ1 (o:Oper):Bool:=match o.op with| .call {callee:= .value (.func _),.. }=>true|_=>false
def aF9 (o:Oper):Bool:=match o.op with| .defer .. =>true|_=>false
def aGl:Operand->Bool| .tmp t=>Nat.blt t DS|_=>true
def aCu(P:Program)(o:Oper):Bool:=
 match o.op with
 | .call c=>(match c.callee with
   | .value (.func f)=>(match P.funcs[f]? with|some fn=>fn.body.isSome&& !(fn.name== "runtime.NumGoroutine")|none=>false)
   | .builtin b=>(match b with| .print| .println=>false|_=>true)
   |_=>true)
 |_=>true
def Ex(P:Program)(o:Oper):Bool:=aCu P o&&(o.op.operands.toList.all aGl&&(!aAW o&& !aF9 o))
def VI(o:Oper):Bool:=match o.op with| .move _| .assign _=>true|_=>false
def aaX(ops:Array Oper)(b:Array Nat)(an:Ann)(i j:Nat)(x y:Oper):Bool:=
 bef b i j||
 (!aQy ops x y&&
   match qP i an.1,qP j an.1 with
   |true,true=>false
   |false,false=>true
   |true,false=>VI y||aDV i j an.2
   |false,true=>VI x||aDV i j an.2)
def aIC(ops:Array Oper)(b:Array Nat)(an:Ann):Bool:=
 (List.range ops.size).all λj=>(List.range j).all λi=>
  match ops[i]?,ops[j]? with
  |some x,some y=>aaX ops b an i j x y
  |_,_=>false
def aFX(ops:Array Oper):Bool:=
 (List.range ops.size).all λi=>match ops[i]? with
  |some o=>o.after.all λe=> !Region.binds .any e||Nat.blt e.on i
  |none=>false
def aFM(ops:Array Oper)(b:Array Nat):Bool:=
 (List.range ops.size).all λj=>(List.range ops.size).all λi=>
  !bef b i j||(match ops[j]? with
   |some o=>o.after.any λe=>Region.binds .any e&&(Nat.beq e.on i||bef b i e.on)
   |none=>false)
def aDk(ops:Array Oper)(an:Ann):Bool:=
 aFX ops&&aFM ops (Region.before ops)&&aIC ops (Region.before ops) an&&(ops.all λo=> !aAW o)&&
  (List.range ops.size).all λi=>match ops[i]? with|some o=> !aQ1 o||qP i an.1|none=>false
def aD5 (n:Nat)(an:Ann)(pl:Te):Bool:=
 (List.range n).all λi=>match pl[i]? with
  |some (h,ks)=>h==qP i an.1&&an.2.all λp=> !Nat.beq p.2 i||(Nat.blt p.1 i&&ks.contains (i-1-p.1))
  |none=>false
def aLI(π:List Nat)(ops:Array Oper):Bool:=
 Nat.beq π.length ops.size&&((List.range ops.size).all λk=>match π[k]? with|some i=>Nat.beq (zR π i) k&&Nat.blt i ops.size|none=>false)&&
  ((List.range ops.size).all λi=>match π[zR π i]? with|some j=>Nat.beq j i|none=>false)&&
  ((List.range ops.size).all λi=>match ops[i]? with
    |some o=>(o.after.all λe=>Nat.blt e.on ops.size)&&(match o.guard with|some (j,_)=>Nat.blt j ops.size|none=>true)
    |none=>false)
def apO(P:Program)(N:Nat)(ops:Array Oper):List (Nat×Nat)->HT->Bool
 |_,.leaf an pl=>aDk ops an&&aD5 ops.size an pl
 |path,.perm π es an pl=>(es.all λp=>aDV p.1 p.2 path&&Nat.blt p.1 ops.size)&&aLI π ops&&(qI π es ops).all (aNn N)&&(qI π es ops).all (Ex P)&&
  aDk (qI π es ops) an&&aD5 (qI π es ops).size an pl
 |path,.split a b x y=> !Nat.beq a b&&apO P N ops ((a,b)::path) x&&apO P N ops ((b,a)::path) y
def codeOk(P:Program)(N:Nat)(ann:FA):Code->Bool
 | .skip| .exit _| .ret| .label _=>true
 | .scope c=>codeOk P N ann c
 | .region id ops draw=>ops.all (aNn N)&&ops.all (Ex P)&&(!draw||apO P N ops [] (ann.t id))
 | .seq x y=>codeOk P N ann x&&codeOk P N ann y
 | .cond c x y=>aGl c&&(codeOk P N ann x&&codeOk P N ann y)
 | .block _ c=>codeOk P N ann c
 | .loop c=>codeOk P N ann c
 | .rangeFunc gf _ _ _=>aGl gf
 |_=>false
def zK:Code->Bool
 | .seq x y=>zK x&&zK y
 | .cond _ x y=>zK x&&zK y
 | .block _ c=>zK c
 | .loop c=>zK c
 | .scope c=>zK c
 | .rangeFunc .. =>false
 |_=>true
def aJ2:ResultVar->Bool
 | .tmp t=>Nat.blt t DS
 | .cell a _=>Nat.blt a DS
theorem Uf(g:Env)(d i:Nat)(v:a7C):put g (some d) v i=if i=d then v else g i:=by
 unfold put;by_cases h:i=d
 .subst h;simp
 .have:Nat.beq i d=false:=by
   cases hb:Nat.beq i d
   .rfl
   .exact absurd (a2W hb) h
  simp[this,h]
theorem aII{P:Program}{o:Oper}(h:Ex P o=true):aCu P o=true:=by
 unfold Ex at h;simp only[a1S]at h;exact h.1
theorem aK2 {P:Program}{o:Oper}(h:Ex P o=true):∀x∈o.op.operands,aGl x=true:=by
 unfold Ex at h;simp only[a1S]at h;intro x hx;exact a3L.1 h.2.1 x (by simpa using hx)
theorem aK3 {P:Program}{o:Oper}(h:Ex P o=true):aAW o=false:=by
 unfold Ex at h;simp only[a1S,a4T]at h;exact h.2.2.1
theorem aK1 {P:Program}{o:Oper}(h:Ex P o=true):aF9 o=false:=by
 unfold Ex at h;simp only[a1S,a4T]at h;exact h.2.2.2
def alZ(N:Nat)(ops:Array Oper):Prop:=∀(i:Nat) (o:Oper),ops[i]?=some o->∀t,o.dst=some t->t<N
structure Rel(N:Nat)(g:Env)(a:Act):Prop where
 le:N<=DS
 defers:a.defers=aIP (g DS)
 size:a.tmps.size=N
 at_:∀i,i≠DS->a.tmps.getD i undef=g i
theorem Rel.ev {g:Env}{a:Act}(h:Rel N g a)(x:Operand)(hx:aGl x=true):a.eval x=ev g x:=by
 cases x with
 |tmp t=>
  have:t<DS:=(a5Z (x:=t) (y:=DS))▸hx;have e:=h.at_ t (Nat.ne_of_lt this);simp[Act.eval,En.ev,<-e]
 |_=>simp[Act.eval,En.ev]
theorem Rel.put {g:Env}{a:Act}(h:Rel N g a)(d:Option Tmp)(v:a7C)(hd:∀t,d=some t->t<N):
 Rel N (put g d v) (a.put d v):=by
 cases d with
 |none=>exact h
 |some t=>
  obtain⟨h0,h1,h2,h3⟩:=h;have ht:=hd t rfl;refine⟨h0, ?_,by simp[Act.put,h2],λi hne=> ?_⟩
  .rw [Uf,if_neg (Nat.ne_of_gt (a5M ht h0))];exact h1
  .rw [Uf,<-h3 i hne];by_cases hi:i=t
   .subst hi;simp[Act.put,h2,ht]
   .have hi':t≠i:=λe=>hi e.symm;simp[Act.put,hi,a3U hi']
theorem Rel.wanted {g:Env}{a:Act}(h:Rel N g a)(ops:Array Oper)(hd:alZ N ops)(o:Oper):
 Region.wanted o (yielded ops a.tmps)=match o.guard with|none=>true|some (j,want)=>Ax g (H5 ops j) want:=by
 unfold Region.wanted;cases o.guard with
 |none=>rfl
 |some p=>
  obtain⟨j,want⟩:=p;simp only[yielded,Ax,H5];cases ho:ops[j]? with
  |none=>simp
  |some o'=>
   cases hdd:o'.dst with
   |none=>simp[hdd]
   |some t=>
    have hlt:=hd j o' ho t hdd;have hle:=h.le;have h3:=h.at_ t (Nat.ne_of_lt (a5M hlt hle));simp only[hdd,Option.bind_some,isB,asB,<-h3];simp only[a1W];cases ht:a.tmps[t]? with
    |none=>simp[undef]
    |some v=>cases v<;>simp
def upX(P:Program)(o:Oper)(a:Act)(next:Act->a7B->Prop):Result Next->Prop
 | .ok (.value v) w'=>next (a.put o.dst v) w'
 | .ok .skip w'=>next (a.put o.dst undef) w'
 | .ok (.enter f args) w'=>∃v w'',Ret P f args w' v w''/\next (a.put o.dst v) w''
 | .ok (.round l f tmps a0Z bd) w'=>∃v w'',aXn P l f tmps a0Z bd w' v w''/\next (a.put o.dst v) w''
 |_=>False
def aL1 (P:Program)(o:Oper)(a:Act)(w:a7B)(next:Act->a7B->Prop):Prop:=aF9 o=false/\upX P o a next ((execOp a.eval o).run P w)
def afC(P:Program)(ops:Array Oper)(i:Nat)(K:Act->a7B->Prop)(a:Act)(w:a7B):Prop:=
 match ops[i]? with
 |none=>K a w
 |some o=>if Region.wanted o (yielded ops a.tmps)then aL1 P o a w K else K (a.put o.dst undef) w
def Il(P:Program)(ops:Array Oper)(Q:Act->a7B->Prop):List Nat->Act->a7B->Prop
 |[],a,w=>Q a w
 |i::rest,a,w=>afC P ops i (Il P ops Q rest) a w
def aE6 (P:Program)(ops:Array Oper)(Q:Act->a7B->Prop):Nat->Array Bool->Act->a7B->Prop
 |0,listed,a,w=>Region.ready .any ops listed=[]/\Q a w
 |fuel+1,listed,a,w=>
  (Region.ready .any ops listed=[]->Q a w)/\∀i∈Region.ready .any ops listed,afC P ops i (aE6 P ops Q fuel (listed.setIfInBounds i true)) a w
theorem aGy{P:Program}{o:Oper}{a:Act}{w:a7B}{K K':Act->a7B->Prop}(h:∀a w,K a w->K' a w)(hh:aL1 P o a w K):aL1 P o a w K':=by
 refine⟨hh.1, ?_⟩;have hh:=hh.2;generalize(execOp a.eval o).run P w=r at*;cases r with
 |ok x w'=>
  cases x<;>simp only[upX]at hh⊢<;>first|exact h _ _ hh|(obtain⟨v,w'',h1,h2⟩:=hh;exact⟨v,w'',h1,h _ _ h2⟩)|exact hh
 |halt x w'=>exact hh.elim
theorem aMm{P:Program}{ops:Array Oper}{i:Nat}{a:Act}{w:a7B}{K K':Act->a7B->Prop}(h:∀a w,K a w->K' a w)(hh:afC P ops i K a w):afC P ops i K' a w:=by
 unfold afC at*;split
 .exact h _ _ (by simpa[*]using hh)
 .rename_i o ho;simp only[ho]at hh;split
  .rename_i hw;simp only[hw,if_true]at hh;exact aGy h hh
  .rename_i hw;simp only[hw]at hh;exact h _ _ hh
def aE4 (ro:Option Nat):Fence:={Fence.wide with round:=ro}
theorem aPr{P:Program}{ops:Array Oper}{Q:Act->a7B->Prop}(ro:Option Nat):∀(L:List Nat) (a:Act) (w:a7B),Il P ops Q L a w→
 wpOpsIn (aE4 ro) 0 P ops (λe a w=>e= .normal/\Q a w) L a w:=by
 intro L
 induction L with
 |nil=>intro a w h;exact⟨rfl,h⟩
 |cons i L ih=>
  intro a w h;simp only[Il,afC]at h;simp only[wpOpsIn];cases ho:ops[i]? with
  |none=>rw[ho]at h;exact ih _ _ h
  |some o=>
   rw[ho]at h;simp only at h⊢;by_cases hw:Region.wanted o (yielded ops a.tmps)=true
   .rw [if_pos hw]at h⊢;obtain⟨hd,h⟩:=h;refine⟨λ_ _=>trivial, ?_⟩;rw[Oper.semAt_eq _ _ _ (λc hc=>by simp[aF9,hc]at hd)];generalize(execOp a.eval o).run P w=r at*;cases r with
    |halt x w'=>exact h.elim
    |ok x w'=>
     cases x<;>simp only[upX]at h<;>simp only[Oper.uponIn]<;>try(exact h.elim)
     .exact ih _ _ h
     .exact ih _ _ h
     .obtain ⟨v,w'',h1,h2⟩:=h;refine⟨λhn=>by simp[aE4,Fence.wide]at hn, ?_⟩;have:=callsIn_wide (n:=0).2 h1;refine CallsIn.mono (F:=aE4 ro) (n:=0) this ?_;rintro e w3 ⟨rfl,rfl⟩;exact ih _ _ h2
     .obtain ⟨v,w'',h1,h2⟩:=h;refine⟨λhn=>by simp[aE4,Fence.wide]at hn, ?_⟩;refine RoundIn.mono (F:=aE4 ro) (n:=0) h1 ?_;rintro e w3 ⟨rfl,rfl⟩;exact ih _ _ h2
   .rw [if_neg hw]at h⊢;exact⟨λ_ _=>trivial,ih _ _ h⟩
section
variable{P:Program}{ops:Array Oper}
def aAD(P:Program)(ops:Array Oper)(g:Env)(o:Oper)(w:a7B)(v:a7C)(w':a7B):Prop:=
 ∀K:a7C->a7B->Prop,K v w'->Oz P ops g o w K
theorem aMB{s:Sem Next}{w:a7B}{K:a7C->a7B->Prop}(h:bF P s w K):
 ∃v w',(∀K':a7C->a7B->Prop,K' v w'->bF P s w K')/\K v w':=by
 unfold bF at*;generalize s.run P w=r at*
 match r,h with
 | .ok (.value v) w1,h=>exact⟨v,w1,λ_ h'=>h',h⟩
 | .ok .skip w1,h=>exact⟨undef,w1,λ_ h'=>h',h⟩
 | .ok (.enter f args) w1,h=>
   obtain⟨v,w',hr,hk⟩:=h;exact⟨v,w',λ_ h'=>⟨v,w',hr,h'⟩,hk⟩
 | .ok (.round l f tmps a0Z bd) w1,h=>
   obtain⟨v,w',hr,hk⟩:=h;exact⟨v,w',λ_ h'=>⟨v,w',hr,h'⟩,hk⟩
theorem aGk{g:Env}{o:Oper}{w:a7B}{K:a7C->a7B->Prop}(h:QW P g o w K):
 ∃v w',(∀K':a7C->a7B->Prop,K' v w'->QW P g o w K')/\K v w':=by
 unfold QW at*;split at h
 .exact ⟨_,_,λ_ h'=>h',h⟩
 .exact ⟨_,_,λ_ h'=>h',h⟩
 .split at h
  .obtain ⟨v,w',a,b⟩:=h;exact⟨v,w',λ_ h'=>⟨v,w',a,h'⟩,b⟩
  .exact aMB h
 .exact aMB h
theorem aTN(op:BinOp)(t:TypeId)(ox oy:Operand)(x y:a7C):bZ op t ox oy x y=V (do eqGuard op t ox oy x y;binOp op t x y):=by
 cases op<;>simp[bZ,Oe,eqGuard]
theorem aRr{g:Env}{o:Oper}(ho:Ex P o=true):Ue g o=execOp (ev g) o:=by
 have ho:=aII ho;unfold Ue;split
 .rename_i op t x y yt hx;simp only[execOp,hx,aTN,V]
 .rename_i fn first captured hx
  have e1:(List.map (ev g) first.toList).toArray=first.map (ev g):=by obtain⟨l⟩:=first;simp
  have e2:(List.map (ev g) captured.toList).toArray=captured.map (ev g):=by obtain⟨l⟩:=captured;simp
  simp only[execOp,hx,aGz,V,e1,e2]
 .rename_i t ps hx;have e:(List.map (λp:Nat×Operand=>(p.1,ev g p.2)) ps.toList).toArray=ps.map (λp=>(p.1,ev g p.2)):=by obtain⟨l⟩:=ps;simp
  simp only[execOp,hx,dK,V,e]
 .rename_i t n ps hx;have e:(List.map (λp:Nat×Operand=>(p.1,ev g p.2)) ps.toList).toArray=ps.map (λp=>(p.1,ev g p.2)):=by obtain⟨l⟩:=ps;simp
  simp only[execOp,hx,fX,V,e]
 .rename_i c hx;split
  .rename_i b hb;simp only[execOp,hx,resolve,hb,pure_bind,invoke,yM];unfold aCu at ho;simp only[hx,hb]at ho;have e:(List.map (ev g) c.args.toList).toArray=c.args.map (ev g):=by obtain⟨l⟩:=c.args;simp
   rw[e];cases b<;>first|rfl|(cases ho)
  .rename_i f hb;have e:(List.map (ev g) c.args.toList).toArray=c.args.map (ev g):=by obtain⟨l⟩:=c.args;simp
   simp only[execOp,hx,resolve,hb,Ps,e]
  .rfl
 .rfl
theorem aqP{f:FuncId}{fn:Func}(hf:P.funcs[f]?=some fn)(hb:fn.body.isSome=true)(hn:(fn.name== "runtime.NumGoroutine")=false)
 (args:Array a7C) (w:a7B):(callFunc f args).run P w= .ok (.enter f args) w:=by
 unfold callFunc;have hb':fn.body.isNone=false:=by cases h:fn.body<;>simp_all
 show Sem.run P (Sem.program λp=>_) w=_;simp only[Sem.run];simp only[bind,Sem.bind,hf,hn,hb',a2A,if_false];rfl
theorem VQ{g:Env}{o:Oper}{w:a7B}{K:a7C->a7B->Prop}(h:Oz P ops g o w K):
 ∃v w',aAD P ops g o w v w'/\K v w':=by
 unfold aAD;unfold Oz at*;split at h
 .obtain ⟨v,w',h1,h2⟩:=aGk h;exact⟨v,w',h1,h2⟩
 .rename_i j want hg;unfold Gd at*;cases hb:Ax g (H5 ops j) want with
  |true=>
   simp only[hb]at h;obtain⟨v,w',h1,h2⟩:=aGk h;exact⟨v,w',λK hk=>h1 K hk,h2⟩
  |false=>
   simp only[hb]at h;exact⟨_,_,λK hk=>hk,h⟩
theorem aBt{i:Nat}{g:Env}{a:Act}{o:Oper}{w w':a7B}{v:a7C}{next:Act->a7B->Prop}
 (hi:ops[i]?=some o) (hc:Ex P o=true) (hd:alZ N ops) (hr:Rel N g a) (hy:aAD P ops g o w v w') (hn:next (a.put o.dst v) w'):afC P ops i next a w:=by
 have h:=hy (λv2 w2=>v2=v/\w2=w') ⟨rfl,rfl⟩;unfold afC;rw[hi];simp only[hr.wanted ops hd];have run:QW P g o w (λv2 w2=>v2=v/\w2=w')->aL1 P o a w next:=by
  intro h;refine⟨aK1 hc, ?_⟩;have hevs:execOp a.eval o=execOp (ev g) o:=execOp_congr o (λcs b he=>by have:=aK3 hc;simp[aAW,he]at this) (λx hx=>hr.ev x (aK2 hc x hx));have stp:bF P (Ue g o) w (λv2 w2=>v2=v/\w2=w')->upX P o a next ((execOp (ev g) o).run P w):=by
   intro h;rw[aRr hc]at h;unfold bF at h;generalize(execOp (ev g) o).run P w=r at*
   match r,h with
   | .ok (.value v) w1,h=>obtain⟨rfl,rfl⟩:=h;exact hn
   | .ok .skip w1,h=>obtain⟨rfl,rfl⟩:=h;exact hn
   | .ok (.enter f args) w1,h=>
     obtain⟨v2,w2,hret,rfl,rfl⟩:=h;exact⟨_,_,hret,hn⟩
   | .ok (.round l f tmps a0Z bd) w1,h=>
     obtain⟨v2,w2,hret,rfl,rfl⟩:=h;exact⟨_,_,hret,hn⟩
  rw[hevs];unfold QW at h;split at h
  .rename_i x hx;obtain⟨rfl,rfl⟩:=h;simp only[execOp,hx];exact hn
  .rename_i x hx;obtain⟨rfl,rfl⟩:=h;simp only[execOp,hx];exact hn
  .rename_i c hx;split at h
   .rename_i f hcal;obtain⟨v2,w2,hret,rfl,rfl⟩:=h;have e:(execOp (ev g) o).run P w= .ok (.enter f (List.map (ev g) c.args.toList).toArray) w:=by
     have hc:=aII hc;unfold aCu at hc;simp only[hx,hcal]at hc;cases hfn:P.funcs[f]? with
     |none=>rw[hfn]at hc;cases hc
     |some fn=>
      rw[hfn]at hc;simp only[a1S,a4T]at hc;have ea:(List.map (ev g) c.args.toList).toArray=c.args.map (ev g):=by obtain⟨l⟩:=c.args;simp
      rw[ea];simp only[execOp,hx,resolve,hcal,ev,Deferred.ofValue,pure_bind,invoke];simp only[Array.empty_append,Array.append_empty];exact aqP hfn hc.1 hc.2 _ w
    rw[e];exact⟨_,_,hret,hn⟩
   .exact stp h
  .exact stp h
 unfold Oz at h;cases hg:o.guard with
 |none=>
  rw[hg]at h;simp only[if_true];exact run h
 |some p=>
  obtain⟨j,want⟩:=p;simp only[hg]at h;simp only;by_cases hb:Ax g (H5 ops j) want=true
  .rw [if_pos hb];simp only[hb,Gd]at h;exact run h
  .rw [if_neg hb];have hb':Ax g (H5 ops j) want=false:=by simpa using hb
   simp only[hb',Gd]at h;obtain⟨rfl,rfl⟩:=h;exact hn
def aqB(P:Program)(ops:Array Oper):Prop:=∀(i:Nat) (o:Oper),ops[i]?=some o->Ex P o=true
theorem aOG(hd:alZ N ops)(hca:aqB P ops){Q:Act->a7B->Prop}{K:Env->a7B->Prop}
 (hQ:∀g a w,Rel N g a->K g w->Q a w):
 ∀(l:List Oper) (k:Nat) (g:Env) (a:Act) (w:a7B),(∀j,l[j]?=ops[k+j]?)->Rel N g a->aDj P ops l g w K→
  Il P ops Q (List.range' k l.length) a w:=by
 intro l
 induction l with
 |nil=>intro k g a w _ hr h;exact hQ _ _ _ hr h
 |cons o l ih=>
  intro k g a w hl hr h;have h0:ops[k]?=some o:=by have:=hl 0;simpa using this.symm
  obtain⟨v,w',hy,hk⟩:=VQ h;rw[a1U,List.range'_succ];show afC P ops k (Il P ops Q _) a w;refine aBt h0 (hca k o h0) hd hr hy ?_;refine ih (k+1) _ _ _ (λj=> ?_) (hr.put _ _ (hd k o h0)) hk;have:=hl (j+1);simp only[a1B]at this;rw[this];congr 1;omega
def aA2 (an:Ann)(O:Nat->Oper)(G:Nat->Env)(W:Nat->a7B)(V:Nat->a7C)(i:Nat):Rec:=
 ⟨qP i an.1,O i,G i,W i,V i⟩
def aNj(P:Program)(ops:Array Oper)(an:Ann)(O:Nat->Oper)(G:Nat->Env)(W:Nat->a7B)(V:Nat->a7C)(i j:Nat):Prop:=
 amJ P ops (aA2 an O G W V i) (O j) (G j) (W (j+1)) (V j)
structure Run(P:Program)(ops:Array Oper)(an:Ann)(g0:Env)(w0:a7B)(n:Nat)(O:Nat->Oper)(G:Nat->Env)(W:Nat->a7B)(V:Nat->a7C):Prop where
 g0:G 0=g0
 w0:W 0=w0
 op:∀i,i<n->ops[i]?=some (O i)
 yld:∀i,i<n->aAD P ops (G i) (O i) (W i) (V i) (W (i+1))
 light:∀i,i<n->qP i an.1=false->W (i+1)=W i
 env:∀i,i<n->G (i+1)=put (G i) (O i).dst (V i)
 chk:∀i j,i<j->j<n->aDV i j an.2=true->aNj P ops an O G W V i j
theorem aIK{o:Oper}{g:Env}{w':a7B}{v:a7C}{hist:List Rec}:∀{ks:List Nat},aS7 P ops o g w' v hist ks->∀k∈ks,∃q,aJy hist k=some q/\amJ P ops q o g w' v:=by
 intro ks
 induction ks with
 |nil=>intro _ k hk;cases hk
 |cons a ks ih=>
  rintro⟨h1,h2⟩ k hk;rcases a3C.1 hk with rfl|hk
  .cases hn:aJy hist k with
   |none=>rw[hn]at h1;exact h1.elim
   |some q=>rw[hn]at h1;exact⟨q,rfl,h1⟩
  .exact ih h2 k hk
theorem aOJ{n:Nat}{an:Ann}{pl:Te}(h:aD5 n an pl=true){i:Nat}(hi:i<n):
 ∃ks,pl[i]?=some (qP i an.1,ks)/\∀j,aDV j i an.2=true->j<i/\(i-1-j)∈ks:=by
 have:=a3L.1 h i (a2U.2 hi);cases hp:pl[i]? with
 |none=>rw[hp]at this;cases this
 |some p=>
  obtain⟨hv,ks⟩:=p;rw[hp]at this;simp only[a1S]at this;obtain⟨h1,h2⟩:=this;have h1:hv=qP i an.1:=by simpa using h1
  refine⟨ks,by rw[h1],λj hj=> ?_⟩;have mm:∀(l:List (Nat×Nat)),aDV j i l=true->(j,i)∈l:=by
   intro l
   induction l with
   |nil=>intro h;cases h
   |cons q r ih=>
    obtain⟨a,b⟩:=q;intro h;unfold aDV at h;cases ha:Nat.beq a j with
    |true=>
     simp only[ha]at h;cases hb:Nat.beq b i with
     |true=>
      obtain rfl:=a2W ha;obtain rfl:=a2W hb;exact a5L
     |false=>simp only[hb]at h;exact a2E _ (ih h)
    |false=>simp only[ha]at h;exact a2E _ (ih h)
  have:=a3L.1 h2 (j,i) (mm _ hj);simp only[Nat.beq_refl,a3P,Bool.false_or,a1S]at this;refine⟨?_,by simpa using this.2⟩;have hlt:=this.1;exact(a5Z (x:=j) (y:=i))▸hlt
theorem aKa{an:Ann}{pl:Te}{g0:Env}{w0:a7B}{K:Env->a7B->Prop}(hpl:aD5 ops.size an pl=true):
 ∀(l:List Oper) (m:Nat) (hist:List Rec) (O:Nat->Oper) (G:Nat->Env) (W:Nat->a7B) (V:Nat->a7C),
  (∀j,l[j]?=ops[m+j]?)->m+l.length=ops.size->Run P ops an g0 w0 m O G W V->(∀i,i<m->aJy hist (m-1-i)=some (aA2 an O G W V i))→
  sO P ops l (pl.drop m) hist (G m) (W m) K→
  ∃(O:Nat->Oper) (G:Nat->Env) (W:Nat->a7B) (V:Nat->a7C),Run P ops an g0 w0 (m+l.length) O G W V/\K (G (m+l.length)) (W (m+l.length)):=by
 intro l
 induction l with
 |nil=>intro m hist O G W V _ _ hr _ h;exact⟨O,G,W,V,hr,by unfold sO at h;exact h⟩
 |cons o l ih=>
  intro m hist O G W V hl hlen hr hh h;have h0:ops[m]?=some o:=by have:=hl 0;simpa using this.symm
  have hmn:m<ops.size:=by rw[a1U]at hlen;omega
  obtain⟨ks,hk1,hk2⟩:=aOJ hpl hmn;have hdrop:pl.drop m=(qP m an.1,ks)::pl.drop (m+1):=by
   have hlt:m<pl.length:=by
    rcases a1Y m pl.length with h|h
    .exact h
    .rw [a1X h]at hk1;cases hk1
   rw[a2J hlt];rw[a1I hlt]at hk1;rw[a1Z hk1]
  rw[hdrop]at h;obtain⟨v,w',hy,hk⟩:=VQ h
  have key:(qP m an.1=false->w'=W m)/\(∀k∈ks,∃q,aJy hist k=some q/\amJ P ops q o (G m) w' v)/\
      (sO P ops l (pl.drop (m+1)) (⟨qP m an.1,o,G m,W m,v⟩::hist) (put (G m) o.dst v) w' K):=by
   have nil:∀w',∀k∈([]:List Nat),∃q,aJy hist k=some q/\amJ P ops q o (G m) w' v:=λ_ k hk=>(by cases hk);cases hm:qP m an.1 with
   |true=>
    rw[hm]at hk;cases ks with
    |nil=>exact⟨λe=>(by cases e),nil _,hk⟩
    |cons k ks=>exact⟨λe=>(by cases e),aIK hk.1,hk.2⟩
   |false=>
    rw[hm]at hk;cases ks with
    |nil=>obtain⟨rfl,hk⟩:=hk;exact⟨λ_=>rfl,nil _,hk⟩
    |cons k ks=>obtain⟨rfl,hc,hk⟩:=hk;exact⟨λ_=>rfl,aIK hc,hk⟩
  obtain⟨kl,c1,c2⟩:=key
  let O':Nat->Oper:=λi=>if i=m then o else O i
  let V':Nat->a7C:=λi=>if i=m then v else V i
  let G':Nat->Env:=λi=>if i=m+1 then put (G m) o.dst v else G i
  let W':Nat->a7B:=λi=>if i=m+1 then w' else W i
  have eO:∀i,i<m->O' i=O i:=λi hi=>if_neg (by omega);have eV:∀i,i<m->V' i=V i:=λi hi=>if_neg (by omega);have eG:∀i,i<=m->G' i=G i:=λi hi=>if_neg (by omega);have eW:∀i,i<=m->W' i=W i:=λi hi=>if_neg (by omega);have oO:O' m=o:=if_pos rfl;have oV:V' m=v:=if_pos rfl;have oG:G' (m+1)=put (G m) o.dst v:=if_pos rfl;have oW:W' (m+1)=w':=if_pos rfl;have eR:∀i,i<m->aA2 an O' G' W' V' i=aA2 an O G W V i:=λi hi=>by
   simp only[aA2,eO i hi,eV i hi,eG i (by omega),eW i (by omega)]
  have hr':Run P ops an g0 w0 (m+1) O' G' W' V':=by
   refine⟨by rw[eG 0 (by omega)];exact hr.g0,by rw[eW 0 (by omega)];exact hr.w0,λi hi=> ?_,λi hi=> ?_,λi hi hm=> ?_,λi hi=> ?_,λi j hij hj hm=> ?_⟩
   .by_cases hi':i=m
    .subst hi';rw[oO];exact h0
    .rw [eO i (by omega)];exact hr.op i (by omega)
   .by_cases hi':i=m
    .subst hi';rw[oO,oV,oW,eG i (by omega),eW i (by omega)];exact hy
    .rw [eO i (by omega),eV i (by omega),eG i (by omega),eW i (by omega),eW (i+1) (by omega)];exact hr.yld i (by omega)
   .by_cases hi':i=m
    .subst hi';rw[oW,eW i (by omega)];exact kl hm
    .rw [eW i (by omega),eW (i+1) (by omega)];exact hr.light i (by omega) hm
   .by_cases hi':i=m
    .subst hi';rw[oO,oV,oG,eG i (by omega)]
    .rw [eO i (by omega),eV i (by omega),eG i (by omega),eG (i+1) (by omega)];exact hr.env i (by omega)
   .unfold aNj;by_cases hj':j=m
    .subst hj';rw[eR i (by omega),oO,oV,oW,eG j (by omega)];obtain⟨q,hq,hc⟩:=c1 _ (hk2 i hm).2;rw[hh i hij]at hq;obtain rfl:=a1Z hq;exact hc
    .rw [eR i (by omega),eO j (by omega),eV j (by omega),eG j (by omega),eW (j+1) (by omega)];exact hr.chk i j hij (by omega) hm
  have:=ih (m+1) (⟨qP m an.1,o,G m,W m,v⟩::hist) O' G' W' V' (λj=>by
      have:=hl (j+1);simp only[a1B]at this;rw[this];congr 1;omega) (by rw[a1U]at hlen;omega) hr' (λi hi=>by
      by_cases hi':i=m
      .subst hi';rw[show i+1-1-i=0 from by omega];simp only[aJy,aA2,oO,oV,eG i (by omega),eW i (by omega)]
      .rw [eR i (by omega),show m+1-1-i=(m-1-i)+1 from by omega];exact hh i (by omega)) (by rw[oG,oW];exact c2)
  rw[a1U,show m+(l.length+1)=m+1+l.length from by omega];exact this
end
section
variable{P:Program}{ops:Array Oper}{an:Ann}{g0:Env}{w0:a7B}{O:Nat->Oper}{G:Nat->Env}{W:Nat->a7B}{V:Nat->a7C}
def US(n:Nat)(O:Nat->Oper)(V:Nat->a7C)(g0:Env)(S:Nat->Prop)(g:Env):Prop:=
 ∀s,(∃j,j<n/\S j/\(O j).dst=some s/\(∀k,k<n->S k->(O k).dst=some s->k<=j)/\g s=V j)∨
  ((∀j,j<n->S j->(O j).dst≠some s)/\g s=g0 s)
theorem US.agree {n:Nat}{T:Nat->Prop}{g:Env}(h:US n O V g0 S g)(h':US n O V g0 T g')(s:Nat)
 (hs:∀j,j<n->(O j).dst=some s->(S j↔T j)):g s=g' s:=by
 rcases h s with⟨j,h1,h2,h3,h4,h5⟩|⟨h1,h2⟩<;>rcases h' s with⟨k,k1,k2,k3,k4,k5⟩|⟨k1,k2⟩
 .have a:=h4 k k1 ((hs k k1 k3).2 k2) k3;have b:=k4 j h1 ((hs j h1 h3).1 h2) h3;have:j=k:=by omega
  subst this;rw[h5,k5]
 .exact absurd h3 (k1 j h1 ((hs j h1 h3).1 h2))
 .exact absurd k3 (h1 k k1 ((hs k k1 k3).2 k2))
 .rw [h2,k2]
theorem US.step {n:Nat}{g:Env}(h:US n O V g0 S g)(i:Nat)(hi:i<n)
 (hw:∀s,(O i).dst=some s->∀j,j<n->j≠i->(O j).dst=some s->S j->j<i):
 US n O V g0 (λj=>S j∨j=i) (put g (O i).dst (V i)):=by
 intro s;cases hd:(O i).dst with
 |none=>
  rcases h s with⟨j,h1,h2,h3,h4,h5⟩|⟨h1,h2⟩
  .refine .inl ⟨j,h1,.inl h2,h3,λk k1 k2 k3=> ?_,h5⟩;rcases k2 with k2|rfl
   .exact h4 k k1 k2 k3
   .rw [hd]at k3;cases k3
  .refine .inr ⟨λj h3 h4 h5=> ?_,h2⟩;rcases h4 with h4|rfl
   .exact h1 j h3 h4 h5
   .rw [hd]at h5;cases h5
 |some t=>
  rw[Uf];by_cases hst:s=t
  .subst hst;rw[if_pos rfl];refine .inl ⟨i,hi,.inr rfl,hd,λk k1 k2 k3=> ?_,rfl⟩;rcases k2 with k2|rfl
   .by_cases hk:k=i
    .omega
    .have:=hw s hd k k1 hk k3 k2;omega
   .omega
  .rw [if_neg hst];rcases h s with⟨j,h1,h2,h3,h4,h5⟩|⟨h1,h2⟩
   .refine .inl ⟨j,h1,.inl h2,h3,λk k1 k2 k3=> ?_,h5⟩;rcases k2 with k2|rfl
    .exact h4 k k1 k2 k3
    .rw [hd]at k3;exact absurd (a1Z k3).symm hst
   .refine .inr ⟨λj h3 h4 h5=> ?_,h2⟩;rcases h4 with h4|rfl
    .exact h1 j h3 h4 h5
    .rw [hd]at h5;exact absurd (a1Z h5).symm hst
theorem Run.envFor {n:Nat}(r:Run P ops an g0 w0 n O G W V):∀i,i<=n->US n O V g0 (λj=>j<i) (G i):=by
 intro i
 induction i with
 |zero=>intro _ s;exact .inr ⟨λj _ h=>absurd h (by omega),by rw[r.g0]⟩
 |succ i ih=>
  intro hi;have h:=ih (by omega);have:=h.step (V:=V) i (by omega) (λs _ j _ _ _ hj=>hj);rw[<-r.env i (by omega)]at this;intro s;rcases this s with⟨j,h1,h2,h3,h4,h5⟩|⟨h1,h2⟩
  .exact .inl ⟨j,h1,by omega,h3,λk k1 k2 k3=>h4 k k1 (by omega) k3,h5⟩
  .exact .inr ⟨λj a b=>h1 j a (by omega),h2⟩
theorem Run.still {n:Nat}(r:Run P ops an g0 w0 n O G W V)(i:Nat):∀d,i+d<=n->(∀h,i<=h->h<i+d->qP h an.1=false)->W (i+d)=W i:=by
 intro d
 induction d with
 |zero=>intro _ _;rfl
 |succ d ih=>
  intro h1 h2;rw[<-a4E,r.light (i+d) (by omega) (h2 _ (by omega) (by omega))];exact ih (by omega) (λh a b=>h2 h a (by omega))
theorem Run.still' {n:Nat}(r:Run P ops an g0 w0 n O G W V){i k:Nat}(hik:i<=k)(hk:k<=n)(hh:∀h,i<=h->h<k->qP h an.1=false):W k=W i:=by
 have:=r.still i (k-i) (by omega) (λh a b=>hh h a (by omega))
 rwa [show i+(k-i)=k from by omega]at this
theorem aJm{i k:Nat}:(∃h,i<=h/\h<k/\qP h an.1=true)->∃h,i<=h/\h<k/\qP h an.1=true/\∀h',i<=h'->h'<h->qP h' an.1=false:=by
 rintro⟨h,h1,h2,h3⟩
 induction h using Nat.strongRecOn with
 |_ h ih=>
  by_cases hx:∃h',i<=h'/\h'<h/\qP h' an.1=true
  .obtain ⟨h',a,b,c⟩:=hx;exact ih h' b a (by omega) c
  .refine ⟨h,h1,h2,h3,λh' a b=> ?_⟩;cases hm:qP h' an.1
   .rfl
   .exact absurd ⟨h',a,b,hm⟩ hx
theorem aDv{i k:Nat}:(∃h,i<=h/\h<k/\qP h an.1=true)->∃h,i<=h/\h<k/\qP h an.1=true/\∀h',h<h'->h'<k->qP h' an.1=false:=by
 rintro⟨h,h1,h2,h3⟩
 induction hd:k-h using Nat.strongRecOn generalizing h with
 |_ d ih=>
  by_cases hx:∃h',h<h'/\h'<k/\qP h' an.1=true
  .obtain ⟨h',a,b,c⟩:=hx;exact ih (k-h') (by omega) h' (by omega) b c rfl
  .refine ⟨h,h1,h2,h3,λh' a b=> ?_⟩;cases hm:qP h' an.1
   .rfl
   .exact absurd ⟨h',a,b,hm⟩ hx
structure aCK(ops:Array Oper)(an:Ann)(O:Nat->Oper)(b:Array Nat):Prop where
 back:∀i,i<ops.size->∀e∈(O i).after,Region.binds .any e=true->e.on<i
 closed:∀i j,i<ops.size->j<ops.size->bef b i j=true->∃e∈(O j).after,Region.binds .any e=true/\(e.on=i∨bef b i e.on=true)
 pair:∀i j,i<j->j<ops.size->aaX ops b an i j (O i) (O j)=true
 sel:∀i,i<ops.size->aAW (O i)=false
 fn:∀i,i<ops.size->aQ1 (O i)=true->qP i an.1=true
theorem aPf(h:aDk ops an=true)(ho:∀i,i<ops.size->ops[i]?=some (O i)):aCK ops an O (Region.before ops):=by
 unfold aDk at h;simp only[a1S]at h;obtain⟨⟨⟨⟨h1,h2⟩,h3⟩,h5⟩,h6⟩:=h;refine⟨λi hi e he hb=> ?_,λi j hi hj hb=> ?_,λi j hij hj=> ?_,λi hi=> ?_,λi hi hf=> ?_⟩
 .unfold aFX at h1;have:=a3L.1 h1 i (a2U.2 hi);rw[ho i hi]at this;have:=a4H.1 this e he;simp only[hb,a3P,Bool.false_or]at this;exact(a5Z (x:=e.on) (y:=i))▸this
 .unfold aFM at h2;have:=a3L.1 (a3L.1 h2 j (a2U.2 hj)) i (a2U.2 hi);rw[ho j hj]at this;simp only[hb,a3P,Bool.false_or]at this;obtain⟨e,he,h⟩:=Array.any_eq_true'.1 this;simp only[a1S,a4L]at h;refine⟨e,he,h.1,h.2.imp (λh=>a2W h) id⟩
 .unfold aIC at h3;have:=a3L.1 (a3L.1 h3 j (a2U.2 hj)) i (a2U.2 hij);rw[ho i (by omega),ho j hj]at this;exact this
 .have:=a4H.1 h5 (O i) (a6T (ho i hi));simpa using this
 .have:=a3L.1 h6 i (a2U.2 hi);rw[ho i hi]at this;simpa[hf]using this
theorem aRc{i j:Nat}:∀{l:List (Nat×Nat)},aDV i j l=true->(i,j)∈l:=by
 intro l
 induction l with
 |nil=>intro h;cases h
 |cons p r ih=>
  obtain⟨a,b⟩:=p;intro h;unfold aDV at h;cases ha:Nat.beq a i with
  |true=>
   simp only[ha]at h;cases hb:Nat.beq b j with
   |true=>
    obtain rfl:=a2W ha;obtain rfl:=a2W hb;exact a5L
   |false=>simp only[hb]at h;exact a2E _ (ih h)
  |false=>simp only[ha]at h;exact a2E _ (ih h)
theorem aCK.order {b:Array Nat}(st:aCK ops an O b){i:Nat}(hi:i<ops.size)
 (hdown:∀j k,j<ops.size->k<ops.size->S k->bef b j k=true->S j) (hbi:∀j,j<ops.size->bef b j i=true->S j) (hni:¬S i)
 {s:Nat} (hs:s∈looks ops (O i)∨(O i).dst=some s) {j:Nat} (hj:j<ops.size) (hji:j≠i) (hd:(O j).dst=some s):S j↔j<i:=by
 rcases a1Y j i with h|h
 .refine ⟨λ_=>h,λ_=> ?_⟩;have p:=st.pair j i h hi;unfold aaX at p;simp only[a4L,a1S,a4T]at p;rcases p with p|p
  .exact hbi j hj p
  .exfalso;have p1:=p.1;unfold aQy at p1;simp only[hd,a5P]at p1;rcases hs with hs|hs
   .have:=p1.1.1;simp[hs]at this
   .have:=p1.1.2;simp[hs]at this
 .have h':i<j:=by omega
  refine⟨λhS=> ?_,λhh=>by omega⟩;exfalso;have p:=st.pair i j h' hj;unfold aaX at p;simp only[a4L,a1S,a4T]at p;rcases p with p|p
  .exact hni (hdown i j hi hj hS p)
  .have p1:=p.1;unfold aQy at p1;simp only[hd,a5P]at p1;rcases hs with hs|hs
   .have:=p1.2;simp[hs]at this
   .have:=p1.1;rw[hs]at this;simp at this
theorem TM{g:Env}{o:Oper}(h:∀s∈looks ops o,g s=g' s):∀x∈o.op.operands,ev g x=ev g' x:=by
 intro x hx;cases x with
 |tmp t=>exact h t (a5B _ (List.mem_filterMap.2 ⟨.tmp t,by simpa using hx,rfl⟩))
 |_=>rfl
theorem aJA{g:Env}{o:Oper}(hs:aAW o=false)(h:∀s∈looks ops o,g s=g' s):Ue g o=Ue g' o:=by
 have e:=execOp_congr o (λcs b he=>by simp[aAW,he]at hs) (TM h);have k:=TM h;unfold Ue;split
 .rename_i op t x y yt hx;rw[k x (by simp[hx,Op.operands]),k y (by simp[hx,Op.operands])]
 .rename_i fn first captured hx
  have e1:List.map (ev g) first.toList=List.map (ev g') first.toList:=a2Y λp hp=>k p (by simp[hx,Op.operands];exact .inl (by simpa using hp))
  have e2:List.map (ev g) captured.toList=List.map (ev g') captured.toList:=a2Y λp hp=>k p (by simp[hx,Op.operands];exact .inr (by simpa using hp));rw[e1,e2]
 .rename_i t ps hx;congr 1;refine a2Y λp hp=> ?_;rw[k p.2 (by simp[hx,Op.operands];exact⟨p.1,by simpa using hp⟩)]
 .rename_i t n ps hx;congr 1;refine a2Y λp hp=> ?_;rw[k p.2 (by simp[hx,Op.operands];exact⟨p.1,by simpa using hp⟩)]
 .rename_i c hx;split
  .rename_i b hb;congr 1;refine a2Y λp hp=> ?_;exact k p (by simp[hx,Op.operands,Call.operands,hb];simpa using hp)
  .rename_i f hb;have:List.map (ev g) c.args.toList=List.map (ev g') c.args.toList:=a2Y λp hp=>k p (by simp[hx,Op.operands,Call.operands,hb];exact .inr (by simpa using hp));rw[this,k f (by simp[hx,Op.operands,Call.operands,hb])]
  .exact e
 .exact e
theorem aFn{g:Env}{o:Oper}{j:Nat}{want:Bool}(hg:o.guard=some (j,want))(h:∀s∈looks ops o,g s=g' s):
 Ax g (H5 ops j) want=Ax g' (H5 ops j) want:=by
 cases hs:H5 ops j with
 |none=>rfl
 |some t=>
  have:=h t (a6F _ (by simp[hg,hs]));simp[Ax,this]
theorem atB{g:Env}{o:Oper}{w:a7B}{K:a7C->a7B->Prop}(hs:aAW o=false)(h:∀s∈looks ops o,g s=g' s)
 (hk:Oz P ops g o w K):Oz P ops g' o w K:=by
 have e:=aJA (ops:=ops) hs h;have run:QW P g o w=QW P g' o w:=by
  funext K;unfold QW;split
  .rename_i x hx;have:=TM (ops:=ops) h x (by simp[hx,Op.operands]);rw[this]
  .rename_i x hx;have:=TM (ops:=ops) h x (by simp[hx,Op.operands]);rw[this]
  .rename_i c hx;have k:=TM h;have:List.map (ev g) c.args.toList=List.map (ev g') c.args.toList:=a2Y λp hp=>k p (by simp[hx,Op.operands,Call.operands];exact .inr (by simpa using hp));rw[this,e]
  .rw [e]
 unfold Oz at*;cases hg:o.guard with
 |none=>rw[hg]at hk;simp only at hk⊢;rwa [<-run]
 |some p=>
  obtain⟨j,want⟩:=p;simp only[hg]at hk⊢;rw[<-run,<-aFn hg h];exact hk
theorem aJt{n:Nat}(hn:n=ops.size){b:Array Nat}(r:Run P ops an g0 w0 n O G W V)(st:aCK ops an O b){i k:Nat}(hi:i<n)(hk:k<=n)
 (hdown:∀j k,j<ops.size->k<ops.size->S k->bef b j k=true->S j) (hbi:∀j,j<ops.size->bef b j i=true->S j) (hni:¬S i)
 (hS:∀h,h<n->qP h an.1=true->(S h↔h<k)) (hl:qP i an.1=false):
 aAD P ops (G i) (O i) (W k) (V i) (W k):=by
 subst hn;have same:Gs (gOf ops (O i) (G i)) (aFe P (Ue (G i) (O i)) (V i) (W k))->VI (O i)=false->aAD P ops (G i) (O i) (W k) (V i) (W k):=by
  intro hs hm K hK;have run:aFe P (Ue (G i) (O i)) (V i) (W k)->QW P (G i) (O i) (W k) K:=by
   intro hs;unfold aFe at hs;have stp:bF P (Ue (G i) (O i)) (W k) K:=by unfold bF;rw[hs];exact hK
   unfold QW;split
   .rename_i x hx;simp[VI,hx]at hm
   .rename_i x hx;simp[VI,hx]at hm
   .rename_i c hx;have hf:aQ1 (O i)=false:=by
     cases hh:aQ1 (O i)
     .rfl
     .rw [st.fn i hi hh]at hl;cases hl
    obtain⟨cal,cargs,cats⟩:=c;cases cal with
    |value f=>
     cases f with
     |func f=>simp[aQ1,hx]at hf
     |_=>exact stp
    |_=>exact stp
   .exact stp
  have hy:=r.yld i hi (λv _=>v=V i) rfl;unfold Oz at hy⊢;unfold gOf at hs;cases hg:(O i).guard with
  |none=>rw[hg]at hs;exact run hs
  |some p=>
   obtain⟨j,want⟩:=p;rw[hg]at hs;simp only[hg]at hs hy⊢;cases hb:Ax (G i) (H5 ops j) want with
   |true=>rw[hb]at hs;exact run hs
   |false=>
    rw[hb]at hy;have:undef=V i:=hy;show K undef (W k);rw[this];exact hK
 have moved:VI (O i)=true->aAD P ops (G i) (O i) (W k) (V i) (W k):=by
  intro hm K hK;have hy:=r.yld i hi (λv _=>v=V i) rfl;unfold Oz at hy⊢;have mv:∀(K':a7C->a7B->Prop) w,QW P (G i) (O i) w K'↔∃x,((O i).op= .move x∨(O i).op= .assign x)/\K' (ev (G i) x) w:=by
   intro K' w;unfold QW;unfold VI at hm;split
   .rename_i x hx;constructor
    .intro h;exact⟨x,.inl hx,h⟩
    .rintro ⟨y,h|h,h'⟩
     .rw [hx]at h;cases h;exact h'
     .rw [hx]at h;cases h
   .rename_i x hx;constructor
    .intro h;exact⟨x,.inr hx,h⟩
    .rintro ⟨y,h|h,h'⟩
     .rw [hx]at h;cases h
     .rw [hx]at h;cases h;exact h'
   .rename_i c hx;simp[hx]at hm
   .rename_i h1 h2 _;split at hm
    .rename_i x hx;exact absurd hx (h1 x)
    .rename_i x hx;exact absurd hx (h2 x)
    .cases hm
  cases hg:(O i).guard with
  |none=>
   rw[hg]at hy;simp only at hy⊢;rw[mv]at hy⊢;obtain⟨x,hx,h⟩:=hy;exact⟨x,hx,h▸hK⟩
  |some p=>
   obtain⟨j,want⟩:=p;simp only[hg]at hy⊢;unfold Gd at*;cases hb:Ax (G i) (H5 ops j) want with
   |true=>
    simp only[hb]at hy⊢;rw[mv]at hy⊢;obtain⟨x,hx,h⟩:=hy;exact⟨x,hx,h▸hK⟩
   |false=>
    simp only[hb]at hy⊢
    rwa [hy]
 rcases Nat.le_total k i with hki|hki
 .by_cases hx:∃h,k<=h/\h<i/\qP h an.1=true
  .obtain ⟨h,h1,h2,h3,h4⟩:=aJm hx;have e:W h=W k:=r.still' h1 (by omega) h4;have p:=st.pair h i h2 hi;unfold aaX at p;simp only[a4L,a1S,a4T]at p;rcases p with p|p
   .have:=hbi h (by omega) p;have:=(hS h (by omega) h3).1 this;omega
   .have p2:=p.2;rw[h3,hl]at p2;simp only[a4L]at p2;cases hmv:VI (O i)with
    |true=>exact moved hmv
    |false=>
     rcases p2 with p2|p2
     .rw [hmv]at p2;cases p2
     .refine same ?_ hmv;have c:=r.chk h i h2 hi p2;unfold aNj amJ aA2 at c;simp only[h3]at c;rw[<-e];exact c
  .have e:W i=W k:=r.still' hki (by omega) (λh a b=>by
    cases hm:qP h an.1
    .rfl
    .exact absurd ⟨h,a,b,hm⟩ hx)
   have hy:=r.yld i hi;rw[r.light i hi hl,e]at hy;exact hy
 .by_cases hx:∃h,i<=h/\h<k/\qP h an.1=true
  .obtain ⟨h,h1,h2,h3,h4⟩:=aDv hx;have hne:h≠i:=λe=>by rw[e,hl]at h3;cases h3
   have e:W k=W (h+1):=r.still' (by omega) hk (λh' a b=>h4 h' (by omega) b);have p:=st.pair i h (by omega) (by omega);unfold aaX at p;simp only[a4L,a1S,a4T]at p;rcases p with p|p
   .exact absurd (hdown i h (by omega) (by omega) ((hS h (by omega) h3).2 h2) p) hni
   .have p2:=p.2;rw[h3,hl]at p2;simp only[a4L]at p2;cases hmv:VI (O i)with
    |true=>exact moved hmv
    |false=>
     rcases p2 with p2|p2
     .rw [hmv]at p2;cases p2
     .refine same ?_ hmv;have c:=r.chk i h (by omega) (by omega) p2;unfold aNj amJ aA2 at c;simp only[hl]at c;rw[e];exact c
  .have e:W k=W i:=r.still' hki hk (λh a b=>by
    cases hm:qP h an.1
    .rfl
    .exact absurd ⟨h,a,b,hm⟩ hx)
   have hy:=r.yld i hi;rw[r.light i hi hl,<-e]at hy;exact hy
def kS(listed:Array Bool)(i:Nat):Prop:=listed.getD i false=true
theorem aQF{n:Nat}(hn:n=ops.size)(hd:alZ N ops)(hca:aqB P ops){b:Array Nat}(r:Run P ops an g0 w0 n O G W V)(st:aCK ops an O b)
 {Q:Act->a7B->Prop} (hQ:∀a,Rel N (G n) a->Q a (W n)):
 ∀(fuel:Nat) (listed:Array Bool) (g:Env) (a:Act) (k:Nat),listed.size=n->Rel N g a->k<=n→
  (∀j,j<n->kS listed j->∀e∈(O j).after,Region.binds .any e=true->kS listed e.on)→
  US n O V g0 (kS listed) g->(∀h,h<n->qP h an.1=true->(kS listed h↔h<k))→
  ((List.range n).filter λi=> !listed.getD i false).length<=fuel→
  aE6 P ops Q fuel listed a (W k):=by
 subst hn;have ready_iff:∀(listed:Array Bool),listed.size=ops.size->∀i,i∈Region.ready .any ops listed↔(i<ops.size/\¬kS listed i/\∀e∈(O i).after,Region.binds .any e=true->kS listed e.on):=by
  intro listed hsz i;unfold Region.ready kS;rw[a6K,a2U];constructor
  .rintro ⟨h1,h2⟩;rw[r.op i h1]at h2;simp only[a1S,a2Q,a5H]at h2;refine⟨h1, ?_,λe he hb=> ?_⟩
   .have:=h2.1;rw[a1W]at this⊢;rw[a2M (by omega)]at this⊢;simpa using this
   .have:=a4H.1 h2.2 e he;simpa[hb]using this
  .rintro ⟨h1,h2,h3⟩;refine⟨h1, ?_⟩;rw[r.op i h1];simp only[a1S,a2Q,a5H];refine⟨?_,a4H.2 λe he=> ?_⟩
   .rw [a1W]at h2⊢;rw[a2M (by omega)]at h2⊢;simpa using h2
   .by_cases hb:Region.binds .any e=true
    .simp [hb,h3 e he hb]
    .simp [hb]
 have none_ready:∀(listed:Array Bool),listed.size=ops.size->Region.ready .any ops listed=[]->∀i,i<ops.size->kS listed i:=by
  intro listed hsz hr i
  induction i using Nat.strongRecOn with
  |_ i ih=>
   intro hi;refine Classical.byContradiction λhl=> ?_;have:i∈Region.ready .any ops listed:=(ready_iff listed hsz i).2 ⟨hi,hl,λe he hb=>by
    have:=st.back i hi e he hb;exact ih e.on this (by omega)⟩
   rw[hr]at this;cases this
 have all_done:∀(listed:Array Bool) (g:Env) (a:Act) (k:Nat),Rel N g a->k<=ops.size->US ops.size O V g0 (kS listed) g→
     (∀h,h<ops.size->qP h an.1=true->(kS listed h↔h<k))->(∀i,i<ops.size->kS listed i)->Q a (W k):=by
  intro listed g a k hr hk he hh hall;have e:W ops.size=W k:=r.still' hk (a1J _) (λh h1 h2=>by
   cases hm:qP h an.1
   .rfl
   .have:=(hh h h2 hm).1 (hall h h2);omega)
  have eg:g=G ops.size:=funext λs=>he.agree (r.envFor ops.size (a1J _)) s (λj hj _=>⟨λ_=>hj,λ_=>hall j hj⟩);rw[<-e];exact hQ a (eg▸hr)
 intro fuel
 induction fuel with
 |zero=>
  intro listed g a k hsz hr hk hdep henv hh hc;have hall:∀i,i<ops.size->kS listed i:=by
   intro i hi;have hnil:((List.range ops.size).filter λi=> !listed.getD i false)=[]:=a2K.1 (by omega);have:=List.filter_eq_nil_iff.1 hnil i (a2U.2 hi);unfold kS;simpa using this
  refine⟨?_,all_done listed g a k hr hk henv hh hall⟩;rw[List.eq_nil_iff_forall_not_mem];intro i hi;have:=(ready_iff listed hsz i).1 hi;exact this.2.1 (hall i this.1)
 |succ fuel ih=>
  intro listed g a k hsz hr hk hdep henv hh hc;refine⟨λhn=>all_done listed g a k hr hk henv hh (none_ready listed hsz hn),λi hi=> ?_⟩;obtain⟨h1,h2,h3⟩:=(ready_iff listed hsz i).1 hi;have hdown:∀k j,j<ops.size->k<ops.size->kS listed k->bef b j k=true->kS listed j:=by
   intro k
   induction k using Nat.strongRecOn with
   |_ k ihk=>
    intro j hj hk hl hb;obtain⟨e,he,hbi,h⟩:=st.closed j k hj hk hb;have hle:=hdep k hk hl e he hbi;rcases h with h|h
    .exact h▸hle
    .have hlt:=st.back k hk e he hbi;exact ihk e.on hlt j hj (by omega) hle h
  have hbi:∀j,j<ops.size->bef b j i=true->kS listed j:=by
   intro j hj hb;obtain⟨e,he,hbi,h⟩:=st.closed j i hj h1 hb;have hle:=h3 e he hbi;rcases h with h|h
   .exact h▸hle
   .have hlt:=st.back i h1 e he hbi;exact hdown e.on j hj (by omega) hle h
  have hdown':∀j k,j<ops.size->k<ops.size->kS listed k->bef b j k=true->kS listed j:=λj k=>hdown k j;have hlooks:∀s∈looks ops (O i),(G i) s=g s:=λs hs=>
   (r.envFor i (by omega)).agree henv s (λj hj hd=>by
     by_cases hji:j=i
     .subst hji;exact⟨λh=>absurd h (by omega),λh=>absurd h h2⟩
     .exact (st.order h1 hdown' hbi h2 (.inl hs) hj hji hd).symm)
  have hl':∀j,kS (listed.setIfInBounds i true) j↔(kS listed j∨j=i):=by
   intro j;unfold kS;rw[a1W,a1W];by_cases hji:j=i
   .subst hji;rw[a3O (by omega)];simp
   .rw [a3U (λe=>hji e.symm)];simp[hji]
  have next:∀k',k'<=ops.size->(∀h,h<ops.size->qP h an.1=true->((kS listed h∨h=i)↔h<k'))->aAD P ops g (O i) (W k) (V i) (W k')→
      afC P ops i (aE6 P ops Q fuel (listed.setIfInBounds i true)) a (W k):=by
   intro k' hk' hh' hy;refine aBt (r.op i h1) (hca i _ (r.op i h1)) hd hr hy ?_;refine ih _ (put g (O i).dst (V i)) _ k' (by simp[hsz]) (hr.put _ _ (hd i _ (r.op i h1))) hk' ?_ ?_ ?_ ?_
   .intro j hj hlj e he hb;rw[hl']at hlj⊢;rcases hlj with hlj|rfl
    .exact .inl (hdep j hj hlj e he hb)
    .exact .inl (h3 e he hb)
   .have:=henv.step i h1 (λs hs j hj hji hd hlj=>(st.order h1 hdown' hbi h2 (.inr hs) hj hji hd).1 hlj);intro s;rcases this s with⟨j,j1,j2,j3,j4,j5⟩|⟨j1,j2⟩
    .exact .inl ⟨j,j1,(hl' j).2 j2,j3,λk k1 k2 k3=>j4 k k1 ((hl' k).1 k2) k3,j5⟩
    .exact .inr ⟨λj a b=>j1 j a ((hl' j).1 b),j2⟩
   .intro h a b;rw[hl'];exact hh' h a b
   .have hin:i∈(List.range ops.size).filter λi=> !listed.getD i false:=
     a6K.2 ⟨a2U.2 h1,by unfold kS at h2;simpa using h2⟩
    have e1:((List.range ops.size).filter λj=> !(listed.setIfInBounds i true).getD j false)=((List.range ops.size).filter λj=> !listed.getD j false).filter λj=>j !=i:=by
     rw[List.filter_filter];refine List.filter_congr λj _=> ?_;have:=hl' j;unfold kS at this;by_cases hji:j=i
     .have hh:(listed.setIfInBounds i true).getD j false=true:=this.2 (.inr hji);rw[hh,hji];simp
     .have hne:(j !=i)=true:=by simpa using hji
      rw[hne,Bool.true_and];cases ha:listed.getD j false with
      |true=>rw[this.2 (.inl ha)]
      |false=>
       cases hb:(listed.setIfInBounds i true).getD j false with
       |false=>rfl
       |true=>rcases this.1 hb with h|h
              .rw [ha]at h;cases h
              .exact absurd h hji
    have hnd:((List.range ops.size).filter λj=> !listed.getD j false).Nodup:=List.nodup_range.filter _;rw[e1,<-List.Nodup.erase_eq_filter hnd,a6L hin];omega
  cases hm:qP i an.1 with
  |true=>
   have hS:∀h,h<ops.size->qP h an.1=true->(kS listed h↔h<i):=by
    intro h hh1 hhm;rcases Nat.lt_trichotomy h i with hlt|heq|hgt
    .refine ⟨λ_=>hlt,λ_=> ?_⟩;have p:=st.pair h i hlt h1;unfold aaX at p;rw[hhm,hm]at p;simp only[a4L,a1S,a2A,and_false,or_false]at p;exact hbi h hh1 p
    .subst heq;exact⟨λhh=>absurd hh h2,λhh=>absurd hh (by omega)⟩
    .refine ⟨λhl=> ?_,λhh=>absurd hh (by omega)⟩;have p:=st.pair i h hgt hh1;unfold aaX at p;rw[hhm,hm]at p;simp only[a4L,a1S,a2A,and_false,or_false]at p;exact absurd (hdown h i h1 hh1 hl p) h2
   have eW:W k=W i:=by
    rcases Nat.le_total k i with hki|hki
    .exact (r.still' hki (by omega) (λh a b=>by
      cases hx:qP h an.1
      .rfl
      .have:=(hh h (by omega) hx).1 ((hS h (by omega) hx).2 b);omega)).symm
    .exact r.still' hki hk (λh a b=>by
      cases hx:qP h an.1
      .rfl
      .have:=(hS h (by omega) hx).1 ((hh h (by omega) hx).2 b);omega)
   refine next (i+1) (by omega) (λh a b=> ?_) ?_
   .rw [hS h a b];omega
   .rw [eW];intro K hK;exact atB (ops:=ops) (st.sel i h1) hlooks (r.yld i h1 K hK)
  |false=>
   refine next k hk (λh a b=> ?_) ?_
   .rw [<-hh h a b];constructor
    .rintro (h'|rfl)
     .exact h'
     .rw [hm]at b;cases b
    .exact .inl
   .intro K hK;exact atB (ops:=ops) (st.sel i h1) hlooks (aJt rfl r st h1 hk hdown' hbi h2 hh hm K hK)
end
abbrev aCL(P:Program):Machine->Prop:=Machine.fenced P Fence.wide
def wpF(P:Program)(f:FuncId)(ro:Option Nat)(c:Code)(Q:Exit->Act->a7B->Prop)(a:Act)(w:a7B):Prop:=
 ∀(b:Frame) (k:List Item) (cs:List Frame),b.fn=f->b.roundOf=ro->∃e a' w',Q e a' w'/\ArrivesIn (aCL P) P (lone (b.atR a (.code c::k)) cs w) b k cs e a' w'
section
variable{P:Program}{f:FuncId}{ro:Option Nat}{Q:Exit->Act->a7B->Prop}{a:Act}{w:a7B}
theorem VP{m m1:Machine}(h:step P m= .next m1):StepsIn (aCL P) P m m1:= .one (fenced_wide P m) h
theorem W4 {m m1 m2:Machine}(h:step P m= .next m1)(h':StepsIn (aCL P) P m1 m2):StepsIn (aCL P) P m m2:= .head (fenced_wide P m) h h'
theorem aSo(h:Q .normal a w):wpF P f ro .skip Q a w:=λ_ _ _ _ _=>⟨.normal,a,w,h,VP Go.stepR_skip⟩
theorem aPo{l:Nat}(h:Q .normal a w):wpF P f ro (.label l) Q a w:=λ_ _ _ _ _=>⟨.normal,a,w,h,VP stepR_label⟩
theorem aKE{id:Nat}(h:Q (.exit id) a w):wpF P f ro (.exit id) Q a w:=
 λ_ k _ _ _=>⟨.exit id,a,w,h,λ_ hk=>VP (stepR_exit hk),λ_ hk=>⟨k,hk,.refl _⟩⟩
theorem aN0 (h:Q .ret a w):wpF P f ro .ret Q a w:=
 λ_ k _ _ _=>⟨.ret,a,w,h,λhn=>⟨_,VP (stepR_ret hn)⟩,λ_=>⟨k,.refl _⟩⟩
theorem aT2 {x y:Code}(h:wpF P f ro x (Exit.then (wpF P f ro y Q) Q) a w):wpF P f ro (.seq x y) Q a w:=by
 intro b k cs hb hro;obtain⟨e,a1,w1,hq,har⟩:=h b (.code y::k) cs hb hro;cases e with
 |normal=>
  obtain⟨e2,a2,w2,hq2,har2⟩:=hq b k cs hb hro;exact⟨e2,a2,w2,hq2,.of_steps (W4 stepR_seq har) har2⟩
 |_=>exact⟨_,a1,w1,hq,.of_steps (VP stepR_seq) (.pass (x:= .code y) rfl (λ_ _=> .inl (by simp)) har)⟩
theorem aSm{c:Operand}{x y:Code}{t:Bool}(hc:a.eval c= .bool t)(h:wpF P f ro (if t then x else y) Q a w):wpF P f ro (.cond c x y) Q a w:=
 λb k cs hb hro=>let⟨e,a1,w1,q,r⟩:=h b k cs hb hro;⟨e,a1,w1,q,.of_steps (VP (stepR_cond hc)) r⟩
theorem aPn{id:Nat}{c:Code}(h:wpF P f ro c (Exit.inBlock id Q) a w):wpF P f ro (.block id c) Q a w:=by
 intro b k cs hb hro;obtain⟨e,a1,w1,hq,har⟩:=h b (.inBlock id::k) cs hb hro;cases e with
 |normal=>exact⟨.normal,a1,w1,hq,W4 stepR_block (StepsIn.trans har (VP stepR_inBlock))⟩
 |exit i=>
  by_cases hid:i=id
  .simp only[Exit.inBlock,hid,if_true]at hq;exact⟨.normal,a1,w1,hq,W4 stepR_block (har.1 k (by simp[exitTo,hid]))⟩
  .simp only[Exit.inBlock,hid,if_false]at hq;have this:(id==i)=false:=by simp;exactλh=>hid h.symm
   have hx:exitTo i (.inBlock id::k)=exitTo i k:=by simp[exitTo,this]
   exact⟨.exit i,a1,w1,hq,λk' hk=>W4 stepR_block (har.1 k' (by rw[hx];exact hk)),
    λhr' hk=>let⟨k1,h1,h2⟩:=har.2 hr' (by rw[hx];exact hk);⟨k1,h1,W4 stepR_block h2⟩⟩
 |goto l=>
  have hx:gotoIn l (.inBlock id::k)=gotoIn l k:=by simp[gotoIn]
  exact⟨_,a1,w1,hq,λk' hk=>W4 stepR_block (har.1 k' (by rw[hx];exact hk)),
   λhr' hk=>let⟨k1,h1,h2⟩:=har.2 hr' (by rw[hx];exact hk);⟨k1,h1,W4 stepR_block h2⟩⟩
 |ret=>exact⟨_,a1,w1,hq,.of_steps (VP stepR_block) har⟩
 |panic ch=>exact⟨_,a1,w1,hq,.of_steps (VP stepR_block) har⟩
 |outgrown=>exact⟨_,a1,w1,hq,.of_steps (VP stepR_block) har⟩
theorem DG{b:Frame}{k:List Item}{c:Code}:
 step P (lone (b.atR a (.code (.scope c)::k)) cs w)= .next (lone (b.atR a (.code c:: .inScope c::k)) cs w):=
 step_lone_go (by simp[stepG,stepG.exec,Frame.atR])
theorem aFx{b:Frame}{k:List Item}{c:Code}:
 step P (lone (b.atR a (.inScope c::k)) cs w)= .next (lone (b.atR a k) cs w):=
 step_lone_go (by simp[stepG,stepG.exec,Frame.atR])
theorem aPq{c:Code}(h:wpF P f ro c (Exit.noGoto Q) a w):wpF P f ro (.scope c) Q a w:=by
 intro b k cs hb hro;obtain⟨e,a1,w1,hq,har⟩:=h b (.inScope c::k) cs hb hro;cases e with
 |normal=>exact⟨.normal,a1,w1,hq,W4 DG (StepsIn.trans har (VP aFx))⟩
 |exit id=>
  have hx:exitTo id (.inScope c::k)=exitTo id k:=by simp[exitTo]
  exact⟨.exit id,a1,w1,hq,λk' hk=>W4 DG (har.1 k' (by rw[hx];exact hk)),
   λhr' hk=>let⟨k1,h1,h2⟩:=har.2 hr' (by rw[hx];exact hk);⟨k1,h1,W4 DG h2⟩⟩
 |goto l=>exact hq.elim
 |ret=>exact⟨_,a1,w1,hq,.of_steps (VP DG) har⟩
 |panic ch=>exact⟨_,a1,w1,hq,.of_steps (VP DG) har⟩
 |outgrown=>exact⟨_,a1,w1,hq,.of_steps (VP DG) har⟩
theorem aSn{c:Code}(I:Act->a7B->Prop)(μ:Act->a7B->Nat)(h0:I a w)
 (round:∀a w,I a w->wpF P f ro c (Exit.then (λa' w'=>I a' w'/\μ a' w'<μ a w) Q) a w):wpF P f ro (.loop c) Q a w:=by
 intro b k cs hb hro
 have key:∀n a w,μ a w=n->I a w→
     ∃e a' w',Q e a' w'/\ArrivesIn (aCL P) P (lone (b.atR a (.code c:: .inLoop c::k)) cs w) b k cs e a' w':=by
  intro n
  induction n using Nat.strongRecOn with
  |_ n ih=>
   intro a w hn hI;obtain⟨e,a1,w1,hq,har⟩:=round a w hI b (.inLoop c::k) cs hb hro;cases e with
   |normal=>
    obtain⟨hI1,hlt⟩:=hq;obtain⟨e2,a2,w2,hq2,har2⟩:=ih (μ a1 w1) (hn▸hlt) a1 w1 rfl hI1;exact⟨e2,a2,w2,hq2,.of_steps (StepsIn.trans har (VP stepR_inLoop)) har2⟩
   |_=>exact⟨_,a1,w1,hq,.pass (x:= .inLoop c) rfl (λ_ _=> .inl (by simp)) har⟩
 obtain⟨e,a',w',hq,har⟩:=key _ a w rfl h0;exact⟨e,a',w',hq,.of_steps (VP stepR_loop) har⟩
theorem aNZ{ops:Array Oper}{L:List Nat}(h:Il P ops (Q .normal) L a w)(b:Frame)(k:List Item)(cs:List Frame)(hro:b.roundOf=ro):
 ∃e a' w',Q e a' w'/\ArrivesIn (aCL P) P (lone (b.atR a (.inRegion ops L::k)) cs w) b k cs e a' w':=by
 obtain⟨e,a',w',⟨rfl,hq⟩,hs⟩:=wp_opsIn (F:=aE4 ro) (n:=0) L a w (aPr ro L a w h) b k cs hro trivial (λ_ h=>by simp[aE4,Fence.wide]at h);exact⟨.normal,a',w',hq,hs⟩
theorem aMl{id:Nat}{ops:Array Oper}(h:Il P ops (Q .normal) (List.range ops.size) a w):wpF P f ro (.region id ops false) Q a w:=by
 intro b k cs hb hro;obtain⟨e,a1,w1,q,r⟩:=aNZ h b k cs hro;exact⟨e,a1,w1,q,.of_steps (VP stepR_region) r⟩
theorem aCq(hm:P.follows .mixedOrders=true){id:Nat}{ops:Array Oper}
 (h:Il P ops (Q .normal) (Region.schedule true ops (w.tape w.drawn (.order f id))) a {w with drawn:=w.drawn+1}):wpF P f ro (.region id ops true) Q a w:=by
 intro b k cs hb hro;obtain⟨e,a1,w1,q,r⟩:=aNZ h b k cs hro;refine⟨e,a1,w1,q,.of_steps (VP ?_) r⟩;have:= @stepR_region_draw P b a k cs w ops id;rw[hm,hb]at this;exact this
def Uy(v:a7C)(w:a7B)(K:a7B->Prop):Prop:=
 match v with
 | .pointer (some a)=>w.heap[a.block]?=some (.deferred (some []))/\K (w.putObj a.block (.deferred none))
 |_=>K w
def aN8 (P:Program)(fn:Func)(R:a7C->a7B->Prop):Exit->Act->a7B->Prop
 | .normal,a,w| .ret,a,w=>∃m,a.defers=aIP m/\Uy m w λw'=>∃v,(results fn a.tmps).run P w'= .ok v w'/\R v w'
 |_,_,_=>False
theorem aJn{fn:Func}{fr:Frame}(hm:fr.mode= .returning)(hf:P.funcs[fr.fn]?=some fn)(hk:fr.kind= .normal){m:a7C}(hd:fr.defers=aIP m)
 (h:Uy m w λw'=>∃v,(results fn fr.tmps).run P w'= .ok v w'/\R v w'):
 ∃v w' fr',R v w'/\Steps P (lone fr cs w) (lone fr' cs w')/\fr'.fn=fr.fn/\fr'.leaving P w' (.returned v):=by
 have nil:fr.defers=[]->(∃v,(results fn fr.tmps).run P w= .ok v w/\R v w)→
     ∃v w' fr',R v w'/\Steps P (lone fr cs w) (lone fr' cs w')/\fr'.fn=fr.fn/\fr'.leaving P w' (.returned v):=by
  rintro hd ⟨v,hv,hR⟩;exact⟨v,w,fr,hR,.refl _ _,rfl,hm,hd,hk,fn,hf,hv⟩
 cases m with
 |pointer p=>
  cases p with
  |none=>exact nil hd h
  |some a=>
   obtain⟨h1,v,hv,hR⟩:=h;have hs:=step_collected (P:=P) (fr:=fr) (cs:=cs) (w:=w) (d:={target:= .collected a.block,args:= #[]}) (r:=a.block) (ds:=[]) (calls:=[])
    (by rw[hm];simp) hd rfl (run_takeDeferred h1)
   exact⟨v,_,{fr with defers:=[]},hR,.head hs (.refl _ _),rfl,hm,rfl,hk,fn,hf,hv⟩
 |_=>exact nil hd h
theorem aGY{fn:Func}{c:Code}{w:a7B}
 (hf:P.funcs[f]?=some fn) (hb:fn.body=some c)
 (h:wpF P f none c (aN8 P fn R) {tmps:=args++Array.replicate (fn.ntmps-args.size) undef,defers:=[]} w):Calls P f args w λe w'=>∃v,e= .returned v/\R v w':=by
 intro cs
 let b:Frame:={(default:Frame)with fn:=f,kind:= .normal,roundOf:=none}
 have henter:Frame.enter P f args .normal=b.atR {tmps:=args++Array.replicate (fn.ntmps-args.size) undef,defers:=[]} [.code c]:=by
  simp[Frame.enter,Frame.atR,hf,hb,b]
 obtain⟨e,a',w',hq,har⟩:=h b [] cs rfl rfl;rw[<-henter]at har;cases e with
 |normal=>
  obtain⟨m,hd,hq⟩:=hq;obtain⟨v,w2,fr,hR,hs,hfn,hl⟩:=aJn (P:=P) (cs:=cs) (fr:={b.atR a' []with mode:= .returning}) rfl hf rfl hd hq;exact⟨.returned v,w2,fr,⟨v,rfl,hR⟩,(StepsIn.steps har).trans (.head (stepR_end rfl) hs),hfn,hl⟩
 |ret=>
  obtain⟨m,hd,hq⟩:=hq;obtain⟨todo,hs0⟩:=har.1 rfl;obtain⟨v,w2,fr,hR,hs,hfn,hl⟩:=aJn (P:=P) (cs:=cs) (fr:={b.atR a' todo with mode:= .returning}) rfl hf rfl hd hq;exact⟨.returned v,w2,fr,⟨v,rfl,hR⟩,(StepsIn.steps hs0).trans hs,hfn,hl⟩
 |panic chain=>exact hq.elim
 |exit id=>exact hq.elim
 |goto l=>exact hq.elim
 |outgrown=>exact hq.elim
def aUq(P:Program)(f:FuncId)(Q:Exit->Act->a7B->Prop)(a:Act)(w:a7B):Option Code->Prop
 |none=>Q .normal a w
 |some c=>wpF P f none c Q a w
theorem aPp{gf:Operand}{ps:Array Tmp}{a0Z bd:Code}{d:Deferred}{g:FuncId}{w1:a7B}{l:Nat}{mark:List Deferred}{w2 w3:a7B}{v:a7C}
 (he:(Instr.enterLoop f a.tmps ps a0Z bd none).run P w= .ok (l,mark) w1)
 (hres:(resolve a.eval (rangeCall gf l) 0).run P w1= .ok d w1) (hinv:(invoke d.target d.args).run P w1= .ok (.enter g args) w2)
 (hcall:Ret P g args w2 v w3)
 {jump:Option Code} {w4:a7B} (hend:(Instr.endLoop l).run P w3= .ok jump w4)
 (hj:aUq P f Q {a with defers:=mark++a.defers} w4 jump):
 wpF P f none (.rangeFunc gf ps a0Z bd) Q a w:=by
 intro b k cs hb hro;rw[<-hb,<-hro]at he;have henter:=stepR_rangeFunc (P:=P) (b:=b) (a:=a) (k:=k) (cs:=cs) (w:=w) he hres hinv;obtain⟨e,w3',fr,⟨rfl,rfl⟩,hsteps,hfn,hleave⟩:=hcall (b.atR {a with defers:=mark++a.defers} (.inRangeFunc l::k)::cs);have sback:StepsIn (aCL P) P (lone (b.atR a (.code (.rangeFunc gf ps a0Z bd)::k)) cs w) (lone (b.atR {a with defers:=mark++a.defers} ((jump.map Item.code).toList++k)) cs w4):=by
  refine W4 henter (StepsIn.trans (stepsIn_wide.2 hsteps) (W4 (m1:=lone (b.atR {a with defers:=mark++a.defers} (.endRangeFunc l::k)) cs w3') ?_ (VP (stepR_endRangeFunc hend))));rw[<-finish_atR_inRangeFunc l v];exact step_leave_returned hleave
 cases jump with
 |none=>exact⟨.normal,_,w4,hj,sback⟩
 |some c=>
  obtain⟨e',a'',w5,hq,harr⟩:=hj b k cs hb hro;exact⟨e',a'',w5,hq,.of_steps sback harr⟩
end
def aGL(ops:Array Oper):Nat->Array Bool->List Nat->Prop
 |0,_,L=>L=[]
 |_+1,listed,[]=>Region.ready .any ops listed=[]
 |n+1,listed,i::L=>i∈Region.ready .any ops listed/\aGL ops n (listed.setIfInBounds i true) L
section
variable{P:Program}{ops:Array Oper}{Q:Act->a7B->Prop}
theorem aTq:∀(fuel t:Nat) (listed:Array Bool),aGL ops fuel listed (Region.linearise.go .any ops fuel t listed []):=by
 intro fuel
 induction fuel with
 |zero=>intro t listed;simp[Region.linearise.go,aGL]
 |succ fuel ih=>
  intro t listed;simp only[Region.linearise.go];change aGL ops (fuel+1) listed (match(Region.ready .any ops listed)[t%(Region.ready .any ops listed).length]? with
   |some i=>Region.linearise.go .any ops fuel (t/(Region.ready .any ops listed).length) (listed.setIfInBounds i true) [i]
   |none=>[].reverse)
  cases hi:(Region.ready .any ops listed)[t%(Region.ready .any ops listed).length]? with
  |none=>
   have:Region.ready .any ops listed=[]:=by
    cases hr:Region.ready .any ops listed with
    |nil=>rfl
    |cons x xs=>
     rw[hr]at hi;have hlt:t%(x::xs).length<(x::xs).length:=a4X _ (by simp);rw[a1I hlt]at hi;cases hi
   simpa[aGL]using this
  |some i=>
   simp only[];rw[linearise_go_acc];exact⟨a3E hi,ih _ _⟩
theorem awW:∀(fuel:Nat) (listed:Array Bool) (L:List Nat) (a:Act) (w:a7B),aE6 P ops Q fuel listed a w->aGL ops fuel listed L->Il P ops Q L a w:=by
 intro fuel
 induction fuel with
 |zero=>intro listed L a w h hL;obtain rfl:L=[]:=hL;exact h.2
 |succ fuel ih=>
  intro listed L a w h hL;cases L with
  |nil=>exact h.1 hL
  |cons i L=>
   exact aMm (λa w hh=>ih _ _ a w hh hL.2) (h.2 i hL.1)
end
structure Perm(π:List Nat)(ops:Array Oper):Prop where
 len:π.length=ops.size
 to:∀i,i<ops.size->zR π i<ops.size/\π[zR π i]?=some i
 back:∀k,k<ops.size->∃i,π[k]?=some i/\zR π i=k/\i<ops.size
 after:∀(i:Nat) (o:Oper),ops[i]?=some o->∀e∈o.after,e.on<ops.size
 guard:∀(i:Nat) (o:Oper) (j:Nat) (b:Bool),ops[i]?=some o->o.guard=some (j,b)->j<ops.size
theorem aTC{π:List Nat}{ops:Array Oper}(h:aLI π ops=true):Perm π ops:=by
 unfold aLI at h;simp only[a1S]at h;obtain⟨⟨⟨h1,h2⟩,h3⟩,h4⟩:=h;have h1:=a2W h1;have at4:∀(i:Nat) (o:Oper),ops[i]?=some o->(o.after.all λe=>Nat.blt e.on ops.size)=true/\(match o.guard with|some (j,_)=>Nat.blt j ops.size|none=>true)=true:=by
  intro i o ho;have hi:i<ops.size:=by
   rcases a1Y i ops.size with h|h
   .exact h
   .rw [a6A h]at ho;cases ho
  have:=a3L.1 h4 i (a2U.2 hi);rw[ho]at this;simp only[a1S]at this;refine⟨this.1, ?_⟩;have h:=this.2
  revert h
  cases o.guard<;>exact id
 refine⟨h1,λi hi=> ?_,λk hk=> ?_,λi o ho e he=> ?_,λi o j b ho hg=> ?_⟩
 .have:=a3L.1 h3 i (a2U.2 hi);cases hp:π[zR π i]? with
  |none=>rw[hp]at this;cases this
  |some j=>
   rw[hp]at this;obtain rfl:=a2W this;refine⟨?_,rfl⟩;rcases a1Y (zR π j) π.length with h|h
   .omega
   .rw [a1X h]at hp;cases hp
 .have:=a3L.1 h2 k (a2U.2 hk);cases hp:π[k]? with
  |none=>rw[hp]at this;cases this
  |some i=>
   rw[hp]at this;simp only[a1S]at this;exact⟨i,rfl,a2W this.1,(a5Z (x:=i) (y:=ops.size))▸this.2⟩
 .have:=a4H.1 (at4 i o ho).1 e he;exact(a5Z (x:=e.on) (y:=ops.size))▸this
 .have:=(at4 i o ho).2;rw[hg]at this;exact(a5Z (x:=j) (y:=ops.size))▸this
theorem aGm{π:List Nat}{es:List (Nat×Nat)}{l:List Oper}:∀(r:List Nat),(∀i∈r,i<l.length)->(atC π es l r).length=r.length/\∀k i:Nat,r[k]?=some i->(atC π es l r)[k]?=(l[i]?).map (Sm π es i):=by
 intro r
 induction r with
 |nil=>intro _;exact⟨rfl,λk i h=>by simp at h⟩
 |cons j r ih=>
  intro h;obtain⟨h1,h2⟩:=ih λi hi=>h i (a2E _ hi);have hj:j<l.length:=h j (by simp);simp only[atC,a1I hj];refine⟨by simp[h1],λk i hk=> ?_⟩;cases k with
  |zero=>simp at hk;subst hk;simp[a1I hj]
  |succ k=>simp at hk⊢;exact h2 k i hk
section
variable{P:Program}{ops:Array Oper}{Q:Act->a7B->Prop}{π:List Nat}{es:List (Nat×Nat)}
theorem Perm.mem (p:Perm π ops):∀i∈π,i<ops.toList.length:=by
 intro i hi;obtain⟨k,hk,e⟩:=a4K hi;obtain⟨j,h1,_,h2⟩:=p.back k (by rw[<-p.len];exact hk);rw[a1I hk]at h1;cases h1;rw[<-e];simpa using h2
theorem Perm.size (p:Perm π ops):(qI π es ops).size=ops.size:=by
 unfold qI;rw[List.size_toArray,(aGm (es:=es) (π:=π) π p.mem).1,p.len]
theorem Perm.get (p:Perm π ops){i:Nat}(hi:i<ops.size):(qI π es ops)[zR π i]?=(ops[i]?).map (Sm π es i):=by
 unfold qI;have:=(aGm (es:=es) (π:=π) π p.mem).2 (zR π i) i (p.to i hi).2;rw[Array.getElem?_toList]at this;simpa using this
theorem aLJ{i:Nat}{o:Oper}{a:Act}{w:a7B}{K:Act->a7B->Prop}:aL1 P (Sm π es i o) a w K↔aL1 P o a w K:=by
 unfold aL1;have h1:execOp a.eval (Sm π es i o)=execOp a.eval o:=by
  obtain⟨d,op,ty,ps,af,g⟩:=o;cases op<;>rfl
 have h2:aF9 (Sm π es i o)=aF9 o:=rfl;rw[h1,h2];generalize(execOp a.eval o).run P w=r;cases r with
 |ok n w=>cases n<;>exact Iff.rfl
 |halt x w=>exact Iff.rfl
theorem aJC(p:Perm π ops){i:Nat}{o:Oper}(ho:ops[i]?=some o)(tmps:Array a7C):
 Region.wanted (Sm π es i o) (yielded (qI π es ops) tmps)=Region.wanted o (yielded ops tmps):=by
 unfold Region.wanted Sm;simp only;cases hg:o.guard with
 |none=>rfl
 |some q=>
  obtain⟨j,b⟩:=q;simp only;have hj:=p.guard i o j b ho hg;have:(qI π es ops)[zR π j]?.bind (·.dst)=(ops[j]?).bind (·.dst):=by
   rw[p.get hj];cases ops[j]?<;>rfl
  unfold yielded;rw[this]
theorem aMn(p:Perm π ops):∀(L:List Nat),(∀i∈L,i<ops.size)->∀(a:Act) (w:a7B),Il P (qI π es ops) Q (L.map (zR π)) a w->Il P ops Q L a w:=by
 intro L
 induction L with
 |nil=>intro _ a w h;exact h
 |cons i L ih=>
  intro hL a w h;rw[a4D]at h;simp only[Il]at h⊢;have hi:=hL i (by simp);have ih:=ih λi hi=>hL i (a2E _ hi);unfold afC at h⊢;rw[p.get hi]at h;rw[a2M hi]at h⊢;simp only[a2Q]at h;rw[aJC p (a2M hi)]at h;simp only;split
  .rename_i hw;rw[if_pos hw,aLJ]at h;exact aGy (λa w=>ih a w) h
  .rename_i hw;rw[if_neg hw]at h;exact ih _ _ h
theorem afV{ops:Array Oper}{listed:Array Bool}(hsz:listed.size=ops.size)(i:Nat):
 i∈Region.ready .any ops listed↔(i<ops.size/\listed.getD i false=false/\∀o,ops[i]?=some o->∀e∈o.after,Region.binds .any e=true->listed.getD e.on false=true):=by
 unfold Region.ready;rw[a6K,a2U];constructor
 .rintro ⟨h1,h2⟩;rw[a2M h1]at h2;simp only[a1S,a2Q,a5H]at h2;refine⟨h1, ?_,λo ho e he hb=> ?_⟩
  .have:=h2.1;rw[a1W]at this⊢;rw[a2M (by omega)]at this⊢;simpa using this
  .rw [a2M h1]at ho;cases ho;have:=a4H.1 h2.2 e he;simpa[hb]using this
 .rintro ⟨h1,h2,h3⟩;refine⟨h1, ?_⟩;rw[a2M h1];simp only[a1S,a2Q,a5H];refine⟨?_,a4H.2 λe he=> ?_⟩
  .rw [a1W]at h2⊢;rw[a2M (by omega)]at h2⊢;simpa using h2
  .by_cases hb:Region.binds .any e=true
   .simp [hb,h3 _ (a2M h1) e he hb]
   .simp [hb]
theorem aRz{π:List Nat}{i:Nat}:∀{es:List (Nat×Nat)} {e:Edge},e∈Mq π i es->∃a,(a,i)∈es/\e.on=zR π a:=by
 intro es
 induction es with
 |nil=>intro e h;simp[Mq]at h
 |cons q r ih=>
  obtain⟨a,b⟩:=q;intro e h;simp only[Mq]at h;cases hb:Nat.beq b i with
  |true=>
   rw[hb]at h;obtain rfl:=a2W hb;rcases a3C.1 h with rfl|h
   .exact ⟨a,by simp,rfl⟩
   .obtain ⟨a,h1,h2⟩:=ih h;exact⟨a,a2E _ h1,h2⟩
  |false=>rw[hb]at h;obtain⟨a,h1,h2⟩:=ih h;exact⟨a,a2E _ h1,h2⟩
theorem aOs(p:Perm π ops){L0:List Nat}(hes:∀q∈es,L0.idxOf q.1<=L0.idxOf q.2/\q.1≠q.2/\q.1<ops.size):
 ∀(fuel:Nat) (listed listed':Array Bool) (pre L:List Nat),L0=pre++L->listed.size=ops.size->listed'.size=ops.size→
  (∀j,j<ops.size->listed'.getD (zR π j) false=listed.getD j false)->(∀j∈pre,listed.getD j false=true)->(∀j,listed.getD j false=true->j∈pre)→
  aGL ops fuel listed L->aGL (qI π es ops) fuel listed' (L.map (zR π))/\∀i∈L,i<ops.size:=by
 intro fuel
 induction fuel with
 |zero=>intro listed listed' pre L _ _ _ _ _ _ h;obtain rfl:L=[]:=h;exact⟨rfl,by simp⟩
 |succ fuel ih=>
  intro listed listed' pre L hL0 hs hs' hrel hpre hpre' h;have hsz:(qI π es ops).size=ops.size:=p.size;cases L with
  |nil=>
   refine⟨?_,by simp⟩;show Region.ready .any (qI π es ops) listed'=[];rw[List.eq_nil_iff_forall_not_mem];intro k hk;obtain⟨h1,h2,h3⟩:=(afV (by omega) k).1 hk;obtain⟨i,hi1,hi2,hi3⟩:=p.back k (by omega);have:i∈Region.ready .any ops listed:=by
    refine(afV hs i).2 ⟨hi3, ?_,λo ho e he hb=> ?_⟩
    .rw [<-hrel i hi3,hi2];exact h2
    .have g:=p.get (es:=es) hi3;rw[hi2,ho]at g;have hon:=p.after i o ho e he;have:=h3 _ g ⟨zR π e.on,e.ground⟩ (by
      simp only[Sm,List.mem_toArray,a2X,a4J];exact .inl ⟨e,by simpa using he,rfl⟩) (by unfold Region.binds at hb⊢;exact hb)
     rw[<-hrel e.on hon];exact this
   rw[show Region.ready .any ops listed=[]from h]at this;cases this
  |cons i L=>
   obtain⟨h1,h2⟩:=h;obtain⟨r1,r2,r3⟩:=(afV hs i).1 h1;have hnot:i∉pre:=λhm=>by rw[hpre i hm]at r2;cases r2
   have hidx:L0.idxOf i=pre.length:=by
    rw[hL0,List.idxOf_append,if_neg hnot];simp
   have ready':zR π i∈Region.ready .any (qI π es ops) listed':=by
    refine(afV (by omega) _).2 ⟨by rw[hsz];exact(p.to i r1).1,by rw[hrel i r1];exact r2,λo' ho' e' he' hb=> ?_⟩;rw[p.get r1,a2M r1]at ho';simp only[a2Q,Option.some.injEq]at ho';subst ho';simp only[Sm,List.mem_toArray,a2X,a4J]at he';rcases he' with⟨e,he,rfl⟩|he'
    .have ho:=a2M r1;have he2:e∈ops[i].after:=by simpa using he
     rw[hrel e.on (p.after i _ ho e he2)];exact r3 _ ho e he2 (by unfold Region.binds at hb⊢;exact hb)
    .obtain ⟨a,ha,hon⟩:=aRz he';obtain⟨q1,q2,q3⟩:=hes _ ha;simp only at q1 q2 q3;rw[hon,hrel a q3];refine hpre a ?_;rw[hidx]at q1;rw[hL0,List.idxOf_append]at q1;by_cases hm:a∈pre
     .exact hm
     .rw [if_neg hm]at q1;exfalso;have hz:(i::L).idxOf a=0:=by omega
      rw[List.idxOf_cons]at hz;cases hb:(i==a)with
      |true=>exact q2 (by simpa using(beq_iff_eq.1 hb).symm)
      |false=>rw[hb]at hz;simp at hz
   have hlen':listed'.size=ops.size:=hs';obtain⟨k1,k2⟩:=ih (listed.setIfInBounds i true) (listed'.setIfInBounds (zR π i) true) (pre++[i]) L (by rw[hL0];simp) (by simp[hs]) (by simp[hs'])
    (λj hj=>by
     by_cases hji:j=i
     .subst hji;rw[a1W,a1W,a3O (by rw[hs'];exact(p.to j hj).1),a3O (by omega)]
     .have hne:zR π i≠zR π j:=λe=>by
       have a1:=(p.to i r1).2;have a2:=(p.to j hj).2;rw[e]at a1;rw[a1]at a2;exact hji (a1Z a2).symm
      have:=hrel j hj;rw[a1W,a1W]at this⊢;rw[a3U hne,a3U (λe=>hji e.symm)];exact this)
    (λj hj=>by
     rw[a1W];rcases a2X.1 hj with hj|hj
     .by_cases hji:j=i
      .subst hji;rw[a3O (by omega)]<;>rfl
      .rw [a3U (λe=>hji e.symm),<-a1W];exact hpre j hj
     .have:j=i:=by simpa using hj
      subst this;rw[a3O (by omega)]<;>rfl)
    (λj hj=>by
     by_cases hji:j=i
     .subst hji;simp
     .rw [a1W,a3U (λe=>hji e.symm),<-a1W]at hj;exact a5B _ (hpre' j hj))
    h2
   exact⟨⟨ready',k1⟩,λj hj=>(a3C.1 hj).elim (λe=>e▸r1) (k2 j)⟩
end
section
variable{P:Program}{ops:Array Oper}
theorem aAO{an:Ann}{pl:Te}(hok:aDk ops an=true)(hpl:aD5 ops.size an pl=true)(hd:alZ N ops)(hca:aqB P ops)
 {K:Env->a7B->Prop} {Q:Act->a7B->Prop} (hQ:∀g a w,Rel N g a->K g w->Q a w) {g:Env} {a:Act} {w:a7B} (hr:Rel N g a)
 (h:sO P ops ops.toList pl [] g w K):aE6 P ops Q ops.size (Array.replicate ops.size false) a w:=by
 have r0:Run P ops an g w 0 (λ_=>default) (λ_=>g) (λ_=>w) (λ_=>undef):=
  ⟨rfl,rfl,λi hi=>by omega,λi hi=>by omega,λi hi=>by omega,λi hi=>by omega,λi j _ hj=>by omega⟩
 obtain⟨O,G,W,V,r,hk⟩:=aKa hpl ops.toList 0 [] _ _ _ _ (λj=>by simp) (by simp) r0 (λi hi=>by omega) h;simp only[a1Q,a4B]at r hk;have st:=aPf hok r.op;have:=aQF (Q:=Q) (n:=ops.size) rfl hd hca r st (λa hra=>hQ _ a _ hra hk) ops.size (Array.replicate ops.size false) g a 0 (by simp) hr (by omega)
  (λj hj hl=>by unfold kS at hl;simp[a1W,hj]at hl)
  (λs=> .inr ⟨λj hj hl=>by unfold kS at hl;simp[a1W,hj]at hl,rfl⟩)
  (λh hh _=>⟨λhl=>by unfold kS at hl;simp[a1W,hh]at hl,λhl=>by omega⟩)
  (a3K (List.length_filter_le _ _) (by simp))
 rw[r.w0]at this;exact this
theorem axI{ops:Array Oper}(h:ops.all (aNn N)=true):alZ N ops:=by
 intro i o ho t ht;have:=a4H.1 h o (a6T ho);unfold aNn at this;rw[ht]at this;exact(a5Z (x:=t) (y:=N))▸this
theorem aCW{ops:Array Oper}(h:ops.all (Ex P)=true):aqB P ops:=
 λ_ o ho=>a4H.1 h o (a6T ho)
theorem aMi{f:FuncId}{id:Nat}(hd:alZ N ops)(hca:aqB P ops)
 {K:Env->a7B->Prop} {Q:Act->a7B->Prop} (hQ:∀g a w,Rel N g a->K g w->Q a w) {g:Env} {a:Act} {w0 w:a7B} (hr:Rel N g a):
 ∀(T:HT) (path:List (Nat×Nat)),apO P N ops path T=true→
  (∀q∈path,(Region.schedule true ops (w0.tape w0.drawn (.order f id))).idxOf q.1<=(Region.schedule true ops (w0.tape w0.drawn (.order f id))).idxOf q.2/\q.1≠q.2)→
  aIO P f id ops T g w0 w K->Il P ops Q (Region.schedule true ops (w0.tape w0.drawn (.order f id))) a w:=by
 have lin:aGL ops ops.size (Array.replicate ops.size false) (Region.schedule true ops (w0.tape w0.drawn (.order f id))):=by
  unfold Region.schedule;simp only[Bool.true_or,if_true];exact aTq _ _ _
 generalize hL:Region.schedule true ops (w0.tape w0.drawn (.order f id))=L at lin⊢;intro T
 induction T with
 |leaf an pl=>
  intro path hok _ h;simp only[apO,a1S]at hok;exact awW _ _ _ _ _ (aAO hok.1 hok.2 hd hca hQ hr h) lin
 |perm π es an pl=>
  intro path hok hpath h;simp only[apO,a1S]at hok;obtain⟨⟨⟨⟨⟨h1,h2⟩,h3⟩,h4⟩,h5⟩,h6⟩:=hok;have p:=aTC h2;have hes:∀q∈es,L.idxOf q.1<=L.idxOf q.2/\q.1≠q.2/\q.1<ops.size:=λq hq=>by
   have:=a3L.1 h1 q hq;simp only[a1S]at this;have hp:=hpath q (aRc this.1);exact⟨hp.1,hp.2,(a5Z (x:=q.1) (y:=ops.size))▸this.2⟩
  obtain⟨k1,k2⟩:=aOs (es:=es) p hes ops.size (Array.replicate ops.size false) (Array.replicate ops.size false) [] L rfl (by simp) (by simp)
   (λj hj=>by simp[a1W,hj,(p.to j hj).1]) (by simp)
   (λj hj=>by rw[a1W]at hj;by_cases hh:j<ops.size<;>simp[hh]at hj) lin
  have hw:=aAO h5 h6 (axI h3) (aCW h4) hQ hr h;rw[p.size]at hw;exact aMn (es:=es) p L k2 a w (awW _ _ _ _ _ hw k1)
 |split x y A B ihA ihB=>
  intro path hok hpath h;simp only[apO,a1S]at hok;have hne:x≠y:=by
   intro e;have:=hok.1.1;rw[e]at this;simp at this
  simp only[aIO]at h;unfold Ord aRv at h;rw[hL]at h;cases hb:Nat.ble (L.idxOf x) (L.idxOf y)with
  |true=>
   rw[hb]at h;refine ihA _ hok.1.2 (λq hq=> ?_) h;rcases a3C.1 hq with rfl|hq
   .exact ⟨a6G hb,hne⟩
   .exact hpath q hq
  |false=>
   rw[hb]at h;refine ihB _ hok.2 (λq hq=> ?_) h;rcases a3C.1 hq with rfl|hq
   .refine ⟨?_,hne.symm⟩;simp only;rcases a1Y (L.idxOf y) (L.idxOf x)with hh|hh
    .omega
    .have:=Nat.ble_eq_true_of_le hh;rw[this]at hb;cases hb
   .exact hpath q hq
end
section
variable{P:Program}{ann:FA}
def oE:List Oper->List Nat
 |[]=>[]
 |o::r=>match o.dst with|some d=>d::oE r|none=>oE r
def agE:Code->List Nat
 | .region _ ops _=>oE ops.toList
 | .seq x y=>agE x++agE y
 | .cond _ x y=>agE x++agE y
 | .block _ c=>agE c
 | .scope c=>agE c
 | .loop c=>agE c
 | .rangeFunc .. =>[DS]
 |_=>[]
def kI(l:List Nat)(g g':Env):Prop:=∀s,s∉l->g' s=g s
theorem kI.refl (l:List Nat)(g:Env):kI l g g:=λ_ _=>rfl
theorem kI.trans {l l1 l2:List Nat}{a b c:Env}(h:kI l1 a b)(k:kI l2 b c)(h1:∀s,s∈l1->s∈l)(h2:∀s,s∈l2->s∈l):kI l a c:=
 λs hs=>(k s λh=>hs (h2 s h)).trans (h s λh=>hs (h1 s h))
theorem kI.mono {l l1:List Nat}{a b:Env}(h:kI l1 a b)(h1:∀s,s∈l1->s∈l):kI l a b:=λs hs=>h s λhh=>hs (h1 s hh)
theorem kI.put {l:List Nat}{a:Env}(d:Option Tmp)(v:a7C)(h:∀t,d=some t->t∈l):kI l a (put a d v):=by
 intro s hs;cases d with
 |none=>rfl
 |some t=>
  rw[Uf,if_neg (λe=>hs (by rw[e];exact h t rfl))]
theorem aLe{ops:Array Oper}{K:Env->a7B->Prop}:∀(l:List Oper) (g:Env) (w:a7B),aDj P ops l g w K→
 ∃g' w',K g' w'/\kI (oE l) g g'/\∀K':Env->a7B->Prop,K' g' w'->aDj P ops l g w K':=by
 intro l
 induction l with
 |nil=>intro g w h;exact⟨g,w,h,kI.refl _ _,λ_ h=>h⟩
 |cons o l ih=>
  intro g w h;obtain⟨v,w1,hy,h1⟩:=VQ h;obtain⟨g',w',hk,ha,hall⟩:=ih _ _ h1;refine⟨g',w',hk, ?_,λK' hk'=>hy _ (hall K' hk')⟩;refine kI.trans (kI.put o.dst v (l:=oE (o::l)) λt ht=>by simp[oE,ht]) ha (λ_ h=>h) (λs hs=> ?_);unfold oE;split
  .exact a2E _ hs
  .exact hs
theorem aAN{ops:Array Oper}{K:Env->a7B->Prop}:∀(l:List Oper) (pl:Te) (hist:List Rec) (g:Env) (w:a7B),sO P ops l pl hist g w K→
 ∃g' w',K g' w'/\kI (oE l) g g'/\∀K':Env->a7B->Prop,K' g' w'->sO P ops l pl hist g w K':=by
 intro l
 induction l with
 |nil=>intro pl hist g w h;unfold sO at h;exact⟨g,w,h,kI.refl _ _,λ_ h=>(by unfold sO;exact h)⟩
 |cons o l ih=>
  intro pl hist g w h;cases pl with
  |nil=>exact h.elim
  |cons p pl=>
   obtain⟨hv,ks⟩:=p;obtain⟨v,w1,hy,h1⟩:=VQ h
   have tail:∀(w2:a7B) (hist':List Rec),sO P ops l pl hist' (put g o.dst v) w2 K→
       ∃g' w',K g' w'/\kI (oE (o::l)) g g'/\∀K':Env->a7B->Prop,K' g' w'->sO P ops l pl hist' (put g o.dst v) w2 K':=by
    intro w2 hist' c2;obtain⟨g',w',hk,ha,hall⟩:=ih _ _ _ _ c2;refine⟨g',w',hk, ?_,hall⟩;refine kI.trans (kI.put o.dst v (l:=oE (o::l)) λt ht=>by simp[oE,ht]) ha (λ_ h=>h) (λs hs=> ?_);unfold oE;split
    .exact a2E _ hs
    .exact hs
   cases hv with
   |true=>
    cases ks with
    |nil=>
     obtain⟨g',w',hk,ha,hall⟩:=tail w1 _ h1;exact⟨g',w',hk,ha,λK' hk'=>hy _ (hall K' hk')⟩
    |cons k ks=>
     obtain⟨hc,h1⟩:=h1;obtain⟨g',w',hk,ha,hall⟩:=tail w1 _ h1;exact⟨g',w',hk,ha,λK' hk'=>hy _ ⟨hc,hall K' hk'⟩⟩
   |false=>
    cases ks with
    |nil=>
     obtain⟨rfl,h1⟩:=h1;obtain⟨g',w',hk,ha,hall⟩:=tail w1 _ h1;exact⟨g',w',hk,ha,λK' hk'=>hy _ ⟨rfl,hall K' hk'⟩⟩
    |cons k ks=>
     obtain⟨rfl,hc,h1⟩:=h1;obtain⟨g',w',hk,ha,hall⟩:=tail w1 _ h1;exact⟨g',w',hk,ha,λK' hk'=>hy _ ⟨rfl,hc,hall K' hk'⟩⟩
theorem Qy{l:List Oper}{s:Nat}:s∈oE l↔∃o∈l,o.dst=some s:=by
 induction l with
 |nil=>simp[oE]
 |cons o l ih=>
  unfold oE;cases hd:o.dst with
  |none=>simp[ih,hd]
  |some d=>simp[ih,hd,eq_comm]
theorem aLg{π:List Nat}{es:List (Nat×Nat)}{l:List Oper}{s:Nat}:∀(r:List Nat),s∈oE (atC π es l r)->s∈oE l:=by
 intro r
 induction r with
 |nil=>intro h;simp[atC,oE]at h
 |cons i r ih=>
  intro h;simp only[atC]at h;cases ho:l[i]? with
  |none=>rw[ho]at h;exact ih h
  |some o=>
   rw[ho]at h;obtain⟨o',h1,h2⟩:=Qy.1 h;rcases a3C.1 h1 with rfl|h1
   .exact Qy.2 ⟨o,a3E ho,h2⟩
   .exact ih (Qy.2 ⟨o',h1,h2⟩)
theorem aQC{f:FuncId}{id:Nat}{ops:Array Oper}{K:Env->a7B->Prop}{g:Env}{w0:a7B}:∀(T:HT) (w:a7B),aIO P f id ops T g w0 w K→
 ∃g' w',K g' w'/\kI (oE ops.toList) g g'/\∀K':Env->a7B->Prop,K' g' w'->aIO P f id ops T g w0 w K':=by
 intro T
 induction T with
 |leaf an pl=>intro w h;exact aAN _ _ _ _ _ h
 |perm π es an pl=>
  intro w h;obtain⟨g',w',a,b,c⟩:=aAN _ _ _ _ _ h;exact⟨g',w',a,b.mono (λs hs=>aLg π (by simpa[qI]using hs)),c⟩
 |split x y A B ihA ihB=>
  intro w h;simp only[aIO,Ord]at h⊢;cases hb:aRv f id ops x y w0 with
  |true=>rw[hb]at h;exact ihA w h
  |false=>rw[hb]at h;exact ihB w h
theorem aN.head {α:Type}{F:(α->a7B->Prop)->α->a7B->Prop}(hmono:∀X Y g w,(∀g w,X g w->Y g w)->F X g w->F Y g w)
 {g:α} {w:a7B} (h:F (λg' w'=>aN F g' w') g w) (hdet:∃g' w',aN F g' w'/\∀X:α->a7B->Prop,X g' w'->F X g w):aN F g w:=by
 obtain⟨g1,w1,⟨I,⟨n1,h1⟩,hI⟩,hF⟩:=hdet;refine⟨λn g' w'=>I n g' w'∨(n=n1+1/\g'=g/\w'=w),⟨n1+1,.inr ⟨rfl,rfl,rfl⟩⟩, ?_⟩;rintro n g' w' (h|⟨rfl,rfl,rfl⟩)
 .exact hmono _ _ _ _ (λ_ _ ⟨m,hm,hh⟩=>⟨m,hm,.inl hh⟩) (hI _ _ _ h)
 .exact hF _ ⟨n1,by omega,.inl h1⟩
theorem aU6 {f:FuncId}{gf:Operand}{ps:Array Tmp}{a0Z bd:Code}{Q:Exit->Env->a7B->Prop}{g:Env}{w:a7B}(h:RF P f gf ps a0Z bd Q g w):
 ∃e g' w',Q e g' w'/\kI [DS] g g'/\∀Q':Exit->Env->a7B->Prop,Q' e g' w'->RF P f gf ps a0Z bd Q' g w:=by
 unfold RF at h⊢;cases hn:noMark (g DS)with
 |false=>rw[hn]at h;exact h.elim
 |true=>
  rw[hn]at h;simp only at h⊢;generalize(Ps (ev g gf) [apY (w.heap.size+1)]).run P (rfW f (aOz P f) ps a0Z bd g w)=r at*
  match r,h with
  | .ok (.enter f2 args) w1,h=>
    obtain⟨v,w3,hret,r,h1,h2,h3⟩:=h;have ha:kI [DS] g (put g (some DS) (.pointer (some ⟨w.heap.size,0,none⟩))):=kI.put _ _ (λt ht=>by cases ht;simp);cases hp:r.pending with
    |none=>
     rw[hp]at h3;exact⟨.normal,_,_,h3,ha,λQ' h=>⟨v,w3,hret,r,h1,h2,by rw[hp];exact h⟩⟩
    |some c=>
     rw[hp]at h3;cases c<;>first
      |exact h3.elim
      |exact⟨.ret,_,_,h3,ha,λQ' h=>⟨v,w3,hret,r,h1,h2,by rw[hp];exact h⟩⟩
      |exact⟨.exit _,_,_,h3,ha,λQ' h=>⟨v,w3,hret,r,h1,h2,by rw[hp];exact h⟩⟩
theorem aNl:∀(c:Code) (Q:Exit->Env->a7B->Prop) (g:Env) (w:a7B),bQ P ann c Q g w→
 ∃e g' w',Q e g' w'/\kI (agE c) g g'/\∀Q':Exit->Env->a7B->Prop,Q' e g' w'->bQ P ann c Q' g w:=by
 intro c
 induction c with
 |skip=>intro Q g w h;exact⟨_,_,_,h,kI.refl _ _,λ_ h=>h⟩
 |region id ops draw=>
  intro Q g w h;cases draw with
  |false=>
   obtain⟨g',w',a,b,c⟩:=aLe _ _ _ h;exact⟨.normal,g',w',a,b,λQ' h=>c _ h⟩
  |true=>
   obtain⟨g',w',a,b,c⟩:=aQC _ _ h;exact⟨.normal,g',w',a,b,λQ' h=>c _ h⟩
 |seq x y ihx ihy=>
  intro Q g w h;obtain⟨e,g1,w1,a,b,c⟩:=ihx _ _ _ h;cases e with
  |normal=>
   obtain⟨e2,g2,w2,a2,b2,c2⟩:=ihy _ _ _ a;exact⟨e2,g2,w2,a2,b.trans b2 (λs h=>a5B _ h) (λs h=>a6F _ h),λQ' h=>c _ (c2 _ h)⟩
  |_=>exact⟨_,g1,w1,a,b.mono (λs h=>a5B _ h),λQ' h=>c _ h⟩
 |cond c x y ihx ihy=>
  intro Q g w h;simp only[bQ]at h⊢;unfold JJ at h⊢;cases hc:ev g c with
  |bool b=>
   rw[hc]at h;cases b with
   |true=>
    obtain⟨e,g',w',a,b,c⟩:=ihx _ _ _ h;exact⟨e,g',w',a,b.mono (λs h=>a5B _ h),c⟩
   |false=>
    obtain⟨e,g',w',a,b,c⟩:=ihy _ _ _ h;exact⟨e,g',w',a,b.mono (λs h=>a6F _ h),c⟩
  |_=>rw[hc]at h;exact h.elim
 |block id c ih=>
  intro Q g w h;obtain⟨e,g',w',a,b,c⟩:=ih _ _ _ h;cases e with
  |exit i=>
   simp only[blk]at a;cases hb:Nat.beq i id with
   |true=>
    simp only[hb]at a;refine⟨.normal,g',w',a,b,λQ' h=>c _ ?_⟩;simp only[blk,hb];exact h
   |false=>
    simp only[hb]at a;refine⟨.exit i,g',w',a,b,λQ' h=>c _ ?_⟩;simp only[blk,hb];exact h
  |_=>exact⟨_,g',w',a,b,λQ' h=>c _ h⟩
 |loop c ih=>
  intro Q g w h;have hmono:∀(Q:Exit->Env->a7B->Prop) (X Y:Env->a7B->Prop) g w,(∀g w,X g w->Y g w)->bQ P ann c (vZ X Q) g w->bQ P ann c (vZ Y Q) g w:=by
   intro Q X Y g w hxy h;obtain⟨e,g',w',a,_,k⟩:=ih _ _ _ h;refine k _ ?_;cases e with
   |normal=>exact hxy _ _ a
   |_=>exact a
  obtain⟨I,⟨n,h0⟩,hI⟩:=h;have key:∀n g w,I n g w->∃e g' w',Q e g' w'/\kI (agE c) g g'/\∀Q':Exit->Env->a7B->Prop,Q' e g' w'->aN (λX g w=>bQ P ann c (vZ X Q') g w) g w:=by
   intro n
   induction n using Nat.strongRecOn with
   |_ n ih2=>
    intro g w hg;obtain⟨e,g1,w1,a,b,k⟩:=ih _ _ _ (hI n g w hg);have once:∀(Q':Exit->Env->a7B->Prop),(∀X:Env->a7B->Prop,bQ P ann c (vZ X Q') g w)->aN (λX g w=>bQ P ann c (vZ X Q') g w) g w:=by
     intro Q' h;refine⟨λn g' w'=>g'=g/\w'=w,⟨0,rfl,rfl⟩, ?_⟩;rintro _ g' w' ⟨rfl,rfl⟩;exact h _
    cases e with
    |normal=>
     obtain⟨m,hm,hIm⟩:=a;obtain⟨e2,g2,w2,a2,b2,k2⟩:=ih2 m hm g1 w1 hIm;refine⟨e2,g2,w2,a2,b.trans b2 (λ_ h=>h) (λ_ h=>h),λQ' h=> ?_⟩;have hl:=k2 Q' h;exact aN.head (hmono Q') (k _ hl) ⟨g1,w1,hl,λX hx=>k _ hx⟩
    |_=>exact⟨_,g1,w1,a,b,λQ' h=>once Q' λX=>k _ h⟩
  exact key n g w h0
 |exit id=>intro Q g w h;exact⟨_,_,_,h,kI.refl _ _,λ_ h=>h⟩
 |label l=>intro Q g w h;exact⟨_,_,_,h,kI.refl _ _,λ_ h=>h⟩
 |scope c ih=>intro Q g w h;exact ih Q g w h
 |ret=>intro Q g w h;exact⟨_,_,_,h,kI.refl _ _,λ_ h=>h⟩
 |rangeFunc gf ps a0Z bd=>intro Q g w h;exact aU6 h
 |_=>intro Q g w h;exact h.elim
theorem Jl{c:Code}{Q Q':Exit->Env->a7B->Prop}{g:Env}{w:a7B}(h:bQ P ann c Q g w)
 (hq:∀e g' w',kI (agE c) g g'->Q e g' w'->Q' e g' w'):bQ P ann c Q' g w:=
 let⟨_,_,_,a,b,k⟩:=aNl c Q g w h
 k _ (hq _ _ _ b a)
def noG(Q:Exit->Env->a7B->Prop):Exit->Env->a7B->Prop
 | .goto _,_,_=>False
 |e,g,w=>Q e g w
theorem aLf:∀(c:Code) (Q:Exit->Env->a7B->Prop) (g:Env) (w:a7B),bQ P ann c Q g w->bQ P ann c (noG Q) g w:=by
 intro c
 induction c with
 |skip=>intro Q g w h;exact h
 |region id ops draw=>intro Q g w h;cases draw<;>exact h
 |seq x y ihx ihy=>
  intro Q g w h;show bQ P ann x (vZ (λg w=>bQ P ann y (noG Q) g w) (noG Q)) g w;refine Jl (ihx _ _ _ h) (λe g' w' _ hq=> ?_);cases e with
  |normal=>exact ihy _ _ _ hq
  |goto l=>exact hq.elim
  |_=>exact hq
 |cond c x y ihx ihy=>
  intro Q g w h;simp only[bQ]at h⊢;unfold JJ at h⊢;cases hc:ev g c with
  |bool b=>
   rw[hc]at h;cases b with
   |true=>exact ihx _ _ _ h
   |false=>exact ihy _ _ _ h
  |_=>rw[hc]at h;exact h.elim
 |block id c ih=>
  intro Q g w h;show bQ P ann c (blk id (noG Q)) g w;refine Jl (ih _ _ _ h) (λe g' w' _ hq=> ?_);cases e with
  |exit i=>
   simp only[noG,blk]at hq⊢;cases hb:Nat.beq i id with
   |true=>rw[hb]at hq;exact hq
   |false=>rw[hb]at hq;exact hq
  |goto l=>exact hq.elim
  |_=>exact hq
 |loop c ih=>
  intro Q g w h;obtain⟨I,h0,hI⟩:=h;refine⟨I,h0,λn g w hi=> ?_⟩;refine Jl (ih _ _ _ (hI n g w hi)) (λe g' w' _ hq=> ?_);cases e with
  |normal=>exact hq
  |goto l=>exact hq.elim
  |_=>exact hq
 |exit id=>intro Q g w h;exact h
 |label l=>intro Q g w h;exact h
 |scope c ih=>intro Q g w h;exact ih Q g w h
 |ret=>intro Q g w h;exact h
 |rangeFunc gf ps a0Z bd=>
  intro Q g w h;have h:RF P ann.f gf ps a0Z bd Q g w:=h;show RF P ann.f gf ps a0Z bd (noG Q) g w;unfold RF at h⊢;cases hn:noMark (g DS)with
  |false=>rw[hn]at h;exact h.elim
  |true=>
   rw[hn]at h;simp only at h⊢;generalize(Ps (ev g gf) [apY (w.heap.size+1)]).run P (rfW ann.f (aOz P ann.f) ps a0Z bd g w)=r at*
   match r,h with
   | .ok (.enter f2 args) w1,h=>
     obtain⟨v,w3,hret,r,h1,h2,h3⟩:=h;refine⟨v,w3,hret,r,h1,h2, ?_⟩;cases hp:r.pending with
     |none=>rw[hp]at h3;exact h3
     |some c=>rw[hp]at h3;cases c<;>exact h3
 |_=>intro Q g w h;exact h.elim
theorem aE1 {g:Env}{a:Act}(h:Rel N g a):a.tmps=tmpsOf N g:=by
 refine Array.ext (by simp[tmpsOf,h.size]) λi h1 h2=> ?_;have hi:i<N:=by rw[<-h.size];exact h1
 have:=h.at_ i (Nat.ne_of_lt (a5M hi h.le));rw[a1W,a2M h1]at this;simp[tmpsOf]at this⊢;exact this
theorem aQE{v:a7C}(h:noMark v=true):aIP v=[]:=by cases v<;>first|rfl|cases h
theorem aOj(hm:P.follows .mixedOrders=true){ro:Option Nat}(hN:aOz P ann.f=N):∀(c:Code),codeOk P N ann c=true->ro=none∨zK c=true→
 ∀(Q:Exit->Env->a7B->Prop) (QA:Exit->Act->a7B->Prop) (g:Env) (a:Act) (w:a7B),Rel N g a→
  (∀e g a w,Rel N g a->Q e g w->QA e a w)->bQ P ann c Q g w->wpF P ann.f ro c QA a w:=by
 intro c
 induction c with
 |skip=>intro _ _ Q QA g a w hr hq h;exact aSo (hq _ _ _ _ hr h)
 |region id ops draw=>
  intro hok _ Q QA g a w hr hq h;simp only[codeOk,a1S,a4L,a4T]at hok;have hd:=axI hok.1.1;have hca:=aCW hok.1.2;cases draw with
  |false=>
   refine aMl ?_;have:=aOG hd hca (P:=P) (Q:=QA .normal) (K:=Q .normal) (λg a w=>hq .normal g a w) ops.toList 0 g a w (λj=>by simp) hr h;rw[List.range_eq_range'];simpa using this
  |true=>
   rcases hok.2 with h1|h1
   .cases h1
   .exact aCq hm (aMi hd hca (λg a w=>hq .normal g a w) hr _ [] h1 (by simp) h)
 |seq x y ihx ihy=>
  intro hok hfl Q QA g a w hr hq h;simp only[codeOk,a1S]at hok;have hfx:ro=none∨zK x=true:=hfl.imp id λh=>by simp only[zK,a1S]at h;exact h.1
  have hfy:ro=none∨zK y=true:=hfl.imp id λh=>by simp only[zK,a1S]at h;exact h.2
  refine aT2 (ihx hok.1 hfx _ _ g a w hr (λe g a w hr h=> ?_) h);cases e with
  |normal=>exact ihy hok.2 hfy _ _ g a w hr hq h
  |_=>exact hq _ _ _ _ hr h
 |cond c x y ihx ihy=>
  intro hok hfl Q QA g a w hr hq h;simp only[codeOk,a1S]at hok;have hfx:ro=none∨zK x=true:=hfl.imp id λh=>by simp only[zK,a1S]at h;exact h.1
  have hfy:ro=none∨zK y=true:=hfl.imp id λh=>by simp only[zK,a1S]at h;exact h.2
  simp only[bQ]at h;unfold JJ at h;have he:=hr.ev c hok.1;cases hc:ev g c with
  |bool b=>
   rw[hc]at h he;refine aSm he ?_;cases b with
   |true=>exact ihx hok.2.1 hfx _ _ g a w hr hq h
   |false=>exact ihy hok.2.2 hfy _ _ g a w hr hq h
  |_=>rw[hc]at h;exact h.elim
 |block id c ih=>
  intro hok hfl Q QA g a w hr hq h;refine aPn (ih hok hfl _ _ g a w hr (λe g a w hr h=> ?_) h);cases e with
  |exit i=>
   unfold Exit.inBlock;simp only[blk]at h;by_cases hi:i=id
   .subst hi;simp only[if_true];simp only[Nat.beq_refl]at h;exact hq _ _ _ _ hr h
   .simp only[hi,if_false];have:Nat.beq i id=false:=by
     cases hb:Nat.beq i id
     .rfl
     .exact absurd (a2W hb) hi
    simp only[this]at h;exact hq _ _ _ _ hr h
  |_=>exact hq _ _ _ _ hr h
 |loop c ih=>
  intro hok hfl Q QA g a w hr hq h;obtain⟨I,h0,hround⟩:=h;have hex:∀a w,(∃n g,Rel N g a/\I n g w)->∃n,(∃g,Rel N g a/\I n g w)/\∀m,(∃g,Rel N g a/\I m g w)->n<=m:=by
   rintro a w ⟨n,hn⟩
   induction n using Nat.strongRecOn with
   |_ n ih2=>
    by_cases hx:∃m,m<n/\∃g,Rel N g a/\I m g w
    .obtain ⟨m,hm,h⟩:=hx;exact ih2 m hm h
    .exact ⟨n,hn,λm hm=>Nat.le_of_not_lt λhlt=>hx ⟨m,hlt,hm⟩⟩
  have hdec:∀a w,Decidable (∃n g,Rel N g a/\I n g w):=λa w=>Classical.propDecidable _
  let μ:Act->a7B->Nat:=λa w=>if hh:∃n g,Rel N g a/\I n g w then Classical.choose (hex a w hh)else 0
  have hμ:∀a w n g,Rel N g a->I n g w->μ a w<=n/\∃g,Rel N g a/\I (μ a w) g w:=by
   intro a w n g hr hI;have hh:∃n g,Rel N g a/\I n g w:=⟨n,g,hr,hI⟩;have e:μ a w=Classical.choose (hex a w hh):=dif_pos hh;have s:=Classical.choose_spec (hex a w hh);rw[e];exact⟨s.2 n ⟨g,hr,hI⟩,s.1⟩
  obtain⟨n0,h0⟩:=h0;refine aSn (λa w=>∃n g,Rel N g a/\I n g w) μ ⟨n0,g,hr,h0⟩ ?_;rintro a w ⟨n,g,hr,hI⟩;obtain⟨_,g',hr',hI'⟩:=hμ a w n g hr hI;refine ih hok hfl _ _ g' a w hr' (λe g1 a1 w1 hr1 h=> ?_) (hround _ _ _ hI');cases e with
  |normal=>
   obtain⟨m,hm,hIm⟩:=h;have:=hμ a1 w1 m g1 hr1 hIm;exact⟨⟨m,g1,hr1,hIm⟩,by omega⟩
  |_=>exact hq _ _ _ _ hr1 h
 |label l=>intro _ _ Q QA g a w hr hq h;exact aPo (hq _ _ _ _ hr h)
 |scope c ih=>
  intro hok hfl Q QA g a w hr hq h;refine aPq (ih hok hfl (noG Q) _ g a w hr (λe g a w hr h=> ?_) (aLf c _ g w h));cases e with
  |goto l=>exact h.elim
  |_=>exact hq _ _ _ _ hr h
 |exit id=>intro _ _ Q QA g a w hr hq h;exact aKE (hq _ _ _ _ hr h)
 |ret=>intro _ _ Q QA g a w hr hq h;exact aN0 (hq _ _ _ _ hr h)
 |rangeFunc gf ps a0Z bd=>
  intro hok hfl Q QA g a w hr hq h;have hro:ro=none:=hfl.resolve_right (by simp[zK]);subst hro;have hok:aGl gf=true:=hok;have h:RF P ann.f gf ps a0Z bd Q g w:=h;unfold RF at h;cases hn:noMark (g DS)with
  |false=>rw[hn]at h;exact h.elim
  |true=>
   rw[hn]at h;simp only[hN]at h;have ed:a.defers=[]:=by rw[hr.defers,aQE hn]
   have er:=run_enterLoop_outer (P:=P) (w:=w) ann.f a.tmps ps a0Z bd;rw[aE1 hr]at er;have er:(Instr.enterLoop ann.f a.tmps ps a0Z bd none).run P w= .ok (w.heap.size+1,[{target:= .collected w.heap.size,args:= #[]}]) (rfW ann.f N ps a0Z bd g w):=by rw[aE1 hr];exact er
   generalize rfW ann.f N ps a0Z bd g w=w1 at*;have ee:=hr.ev gf hok;unfold Ps at h;have hres:resolve a.eval (rangeCall gf (w.heap.size+1)) 0=Deferred.ofValue (ev g gf) #[apY (w.heap.size+1)]:=by
    have:resolve a.eval (rangeCall gf (w.heap.size+1)) 0=Deferred.ofValue (a.eval gf) #[apY (w.heap.size+1)]:=by
     simp only[resolve,List.map_toArray,a4D,a6Y];rfl
    rw[this,ee]
   rw[show([apY (w.heap.size+1)]:List a7C).toArray= #[apY (w.heap.size+1)]from rfl,<-hres,Sem.run_bind]at h;cases hv:(resolve a.eval (rangeCall gf (w.heap.size+1)) 0).run P w1 with
   |halt x wx=>rw[hv]at h;exact h.elim
   |ok d wx=>
    have hwx:wx=w1:=by
     rw[hres]at hv;unfold Deferred.ofValue at hv;split at hv<;>first|(simp only[Sem.run_pure]at hv;cases hv;rfl)|(simp[stuck]at hv)
    subst hwx;rw[hv]at h;simp only[Result.andThen]at h;cases hi:(invoke d.target d.args).run P wx with
    |halt x w2=>rw[hi]at h;exact h.elim
    |ok nx w2=>
     rw[hi]at h;cases nx<;>try(exact h.elim)
     obtain⟨v,w3,hret,r,h1,h2,h3⟩:=h;have hrel:∀w,Rel N (put g (some DS) (.pointer (some ⟨w,0,none⟩))) {a with defers:=[{target:= .collected w,args:= #[]}]++a.defers}:=λw=>by
      refine⟨hr.le, ?_,hr.size,λi hi=> ?_⟩
      .rw [Uf,if_pos rfl,ed]<;>rfl
      .rw [Uf,if_neg hi];exact hr.at_ i hi
     have key:∀(j:Option Code) (w5:a7B),aXz Q (put g (some DS) (.pointer (some ⟨w.heap.size,0,none⟩))) j w5→
         aUq P ann.f QA {a with defers:=[{target:= .collected w.heap.size,args:= #[]}]++a.defers} w5 j:=by
      intro j w5 h;cases j with
      |none=>exact hq _ _ _ _ (hrel _) h
      |some c=>
       cases c<;>first
        |exact h.elim
        |exact aN0 (hq _ _ _ _ (hrel _) h)
        |exact aKE (hq _ _ _ _ (hrel _) h)
     exact aPp er hv hi hret (run_endLoop h1 h2) (key _ _ h3)
 |_=>intro hok;simp[codeOk]at hok
def sP(P:Program):List ResultVar->Env->a7B->(List a7C->Prop)->Prop
 |[],_,_,K=>K []
 | .tmp t::r,g,w,K=>sP P r g w λvs=>K (g t::vs)
 | .cell a t::r,g,w,K=>∃v,(do loadVar t (<-asAddr (g a)):Sem a7C).run P w= .ok v w/\sP P r g w λvs=>K (v::vs)
def tup:List a7C->a7C
 |[v]=>v
 |vs=> .tuple vs.toArray
def aXR(P:Program)(rs:List ResultVar)(R:a7C->a7B->Prop):Exit->Env->a7B->Prop
 | .normal,g,w=>sP P rs g w λvs=>R (tup vs) w
 | .ret,g,w=>sP P rs g w λvs=>R (tup vs) w
 |_,_,_=>False
theorem aJ4 {g:Env}{a:Act}{w:a7B}(hr:Rel N g a):∀(rs:List ResultVar),rs.all aJ2=true->∀(K:List a7C->Prop),sP P rs g w K→
 ∃vs,K vs/\(rs.mapM λ| .tmp t=>pure (a.tmps.getD t undef)| .cell b t=>do loadVar t (<-asAddr (a.tmps.getD b undef)):Sem (List a7C)).run P w= .ok vs w:=by
 have ne:∀t:Nat,Nat.blt t DS=true->a.tmps.getD t undef=g t:=λt h=>hr.at_ t (Nat.ne_of_lt ((a5Z (x:=t) (y:=DS))▸h));intro rs
 induction rs with
 |nil=>intro _ K h;exact⟨[],h,by simp⟩
 |cons r rs ih=>
  intro hok K h;simp only[List.all_cons,a1S]at hok;cases r with
  |tmp t=>
   obtain⟨vs,h1,h2⟩:=ih hok.2 _ h;refine⟨_,h1, ?_⟩;rw[List.mapM_cons];rw[pure_bind,Sem.run_bind];simp only[h2,Result.andThen,Sem.run_pure,ne t hok.1]
  |cell b t=>
   obtain⟨v,hv,h⟩:=h;obtain⟨vs,h1,h2⟩:=ih hok.2 _ h;refine⟨_,h1, ?_⟩;rw[List.mapM_cons];rw[<-ne b hok.1]at hv;rw[Sem.run_bind];simp only[hv,Result.andThen];rw[Sem.run_bind];simp only[h2,Result.andThen];rfl
theorem aWl(vs:Array a7C):(if h:vs.size=1 then vs[0]else Value.tuple vs)=tup vs.toList:=by
 obtain⟨l⟩:=vs
 match l with
 |[]=>rfl
 |[v]=>rfl
 |a::b::r=>simp[tup]
theorem aKb{g:Env}{a:Act}{w:a7B}(fn:Func)(hok:rs.all aJ2=true)(hrs:fn.results=rs.toArray)(hr:Rel N g a)
 (h:sP P rs g w λvs=>R (tup vs) w):∃v,(results fn a.tmps).run P w= .ok v w/\R v w:=by
 obtain⟨vs,h1,h2⟩:=aJ4 hr rs hok _ h;refine⟨tup vs, ?_,h1⟩;unfold results;rw[hrs,Array.mapM_eq_mapM_toList,a4W];simp only[bind_assoc,map_eq_pure_bind];rw[Sem.run_bind];refine Eq.trans (congrArg (λr=>Result.andThen r _) h2) ?_;simp only[Result.andThen];simp only[pure_bind,Sem.run_pure,aWl]
def aDm(args:List a7C):Env:=λi=>args.getD i undef
def aXQ(P:Program)(rs:List ResultVar)(R:a7C->a7B->Prop):Exit->Env->a7B->Prop
 | .normal,g,w=>Uy (g DS) w λw=>sP P rs g w λvs=>R (tup vs) w
 | .ret,g,w=>Uy (g DS) w λw=>sP P rs g w λvs=>R (tup vs) w
 |_,_,_=>False
theorem aJ3 {g:Env}{w:a7B}:∀(rs:List ResultVar) (K:List a7C->Prop),sP P rs g w K->∃vs,K vs/\∀K':List a7C->Prop,K' vs->sP P rs g w K':=by
 intro rs
 induction rs with
 |nil=>intro K h;exact⟨_,h,λ_ h=>h⟩
 |cons r rs ih=>
  intro K h;cases r with
  |tmp t=>
   obtain⟨vs,a,b⟩:=ih _ h;exact⟨_,a,λK' h=>b _ h⟩
  |cell b t=>
   obtain⟨v,hv,h⟩:=h;obtain⟨vs,a,b⟩:=ih _ h;exact⟨_,a,λK' h=>⟨v,hv,b _ h⟩⟩
theorem aGB{v:a7C}{w:a7B}{K:a7B->Prop}(h:Uy v w K):∃w',K w'/\∀K':a7B->Prop,K' w'->Uy v w K':=by
 cases v with
 |pointer p=>
  cases p with
  |none=>exact⟨_,h,λ_ h=>h⟩
  |some a=>exact⟨_,h.2,λ_ h'=>⟨h.1,h'⟩⟩
 |_=>exact⟨_,h,λ_ h=>h⟩
theorem aL8 {v:a7C}{w:a7B}{K K':a7B->Prop}(h:Uy v w K)(hk:∀w,K w->K' w):Uy v w K':=
 let⟨w',a,b⟩:=aGB h;b _ (hk w' a)
theorem aIS{args:List a7C}{i:Nat}(hle:args.length<=N)(hi:N<=i):aDm args i=undef:=by
 unfold aDm;rw[a1P,a1X (by omega)]<;>rfl
theorem aG1 {f:FuncId}{fn:Func}{c:Code}{args:List a7C}{w:a7B}(hm:P.follows .mixedOrders=true)(hAf:ann.f=f)
 (hf:P.funcs[f]?=some fn) (hb:fn.body=some c) (hrs:fn.results=rs.toArray)  (hN:fn.ntmps=N) (hle:args.length<=N)
 (hok:codeOk P N ann c=true) (hro:rs.all aJ2=true) (hND:Nat.ble N DS=true) (h:bQ P ann c (aXQ P rs R) (aDm args) w):aL P f args.toArray w R:=by
 obtain⟨e,g',w',hq,_,hall⟩:=aNl _ _ _ _ h;have hND:=a6G hND;have hNt:aOz P ann.f=N:=by unfold aOz;rw[hAf,hf];exact hN
 have hrv:Uy (g' DS) w' λw=>sP P rs g' w λvs=>R (tup vs) w:=by cases e<;>first|exact hq|exact hq.elim
 obtain⟨w2,hrv2,hsh⟩:=aGB hrv;obtain⟨vs,hv,hrest⟩:=aJ3 _ _ hrv2;refine⟨tup vs,w2, ?_,hv⟩;have hrel:Rel N (aDm args) {tmps:=args.toArray++Array.replicate (fn.ntmps-args.toArray.size) undef,defers:=[]}:=by
  refine⟨hND,by rw[aIS hle hND]<;>rfl,by simp[hN];omega,λi _=> ?_⟩;simp only[aDm,a1W,a1P];by_cases hi:i<args.length
  .simp [Array.getElem?_append,hi]
  .simp only[Array.getElem?_append,List.size_toArray,hi,if_false,Array.getElem?_replicate];rw[a1X (by omega)];split<;>rfl
 have key:=aGY (P:=P) (f:=f) hf hb (R:=λv3 w3=>v3=tup vs/\w3=w2) (args:=args.toArray) (w:=w)
  (hAf▸aOj hm hNt c hok (.inl rfl) (aXQ P rs λv3 w3=>v3=tup vs/\w3=w2) _ _ _ _ hrel (λe g a w hr h=> ?_) (hall _ ?_))
 .refine Calls.mono key ?_;rintro e w3 ⟨v,rfl,rfl,rfl⟩;exact⟨rfl,rfl⟩
 .have hx:∀{w},(Uy (g DS) w λw=>sP P rs g w λvs'=>tup vs'=tup vs/\w=w2)->∃m,a.defers=aIP m/\Uy m w λw'=>∃v,(results fn a.tmps).run P w'= .ok v w'/\(v=tup vs/\w'=w2):=by
   intro w h;exact⟨_,hr.defers,aL8 h λw h=>aKb fn hro hrs hr (R:=λv3 w3=>v3=tup vs/\w3=w2) h⟩
  cases e with
  |normal=>exact hx h
  |ret=>exact hx h
  |_=>exact h.elim
 .have:=hsh (λw=>sP P rs g' w λvs'=>tup vs'=tup vs/\w=w2) (hrest _ ⟨rfl,rfl⟩);cases e<;>first|exact this|exact hq.elim
theorem aTg:∀(c:Code),codeOk P N ann c=true->zK c=true->∀s∈agE c,s<N:=by
 intro c
 induction c with
 |region id ops draw=>
  intro hok _ s hs;simp only[codeOk,a1S]at hok;obtain⟨o,h1,h2⟩:=Qy.1 hs;obtain⟨i,hi,rfl⟩:=a4K h1;exact axI hok.1.1 i _ (by simp at hi⊢) s h2
 |seq x y ihx ihy=>
  intro hok hfl s hs;simp only[codeOk,zK,a1S]at hok hfl;rcases a2X.1 hs with hs|hs
  .exact ihx hok.1 hfl.1 s hs
  .exact ihy hok.2 hfl.2 s hs
 |cond c x y ihx ihy=>
  intro hok hfl s hs;simp only[codeOk,zK,a1S]at hok hfl;rcases a2X.1 hs with hs|hs
  .exact ihx hok.2.1 hfl.1 s hs
  .exact ihy hok.2.2 hfl.2 s hs
 |block id c ih=>intro hok hfl s hs;exact ih hok hfl s hs
 |loop c ih=>intro hok hfl s hs;exact ih hok hfl s hs
 |scope c ih=>intro hok hfl s hs;exact ih hok hfl s hs
 |rangeFunc=>intro _ hfl;simp[zK]at hfl
 |_=>intro _ _ s hs;simp[agE]at hs
theorem aIQ{f:FuncId}{fn:Func}{c:Code}{args:List a7C}{w:a7B}(hm:P.follows .mixedOrders=true)(hAf:ann.f=f)
 (hf:P.funcs[f]?=some fn) (hb:fn.body=some c) (hrs:fn.results=rs.toArray)  (hN:fn.ntmps=N) (hle:args.length<=N)
 (hok:codeOk P N ann c=true) (hro:rs.all aJ2=true) (hND:Nat.ble N DS=true) (hfl:zK c=true) (h:bQ P ann c (aXR P rs R) (aDm args) w):aL P f args.toArray w R:=by
 refine aG1 hm hAf hf hb hrs hN hle hok hro hND (Jl h λe g' w' ha hq=> ?_);have hND:=a6G hND;have:g' DS=undef:=by
  rw[ha DS (λhd=>absurd (aTg c hok hfl DS hd) (Nat.not_lt.2 hND)),aIS hle hND]
 cases e with
 |normal=>show Uy (g' DS) w' (λw=>sP P rs g' w λvs=>R (tup vs) w);rw[this];exact hq
 |ret=>show Uy (g' DS) w' (λw=>sP P rs g' w λvs=>R (tup vs) w);rw[this];exact hq
 |_=>exact hq.elim
theorem aFi{f:FuncId}{w:a7B}(h:aL P f args w R):
 Calls P f args w λe w'=>∃v,e= .returned v/\R v w':=by
 obtain⟨v,w',hr,hR⟩:=h;refine Calls.mono hr ?_;rintro e w'' ⟨rfl,rfl⟩;exact⟨v,rfl,hR⟩
end
def sA:Code->Code| .seq a _=>a|c=>c
def cT:Code->Code| .cond _ a _=>a|c=>c
def cE:Code->Code| .cond _ _ b=>b|c=>c
def bI:Code->Code| .block _ c=>c| .loop c=>c| .scope c=>c|c=>c
def aO(f:Func):Code:=match f.body with|some c=>c|none=> .skip
def aD:Nat->Code->Code
 |0,c=>c
 |1,c=>sA c
 |n+1,.seq a b=> .seq a (aD n b)
 |_,c=>c
def aA:Nat->Code->Code
 |0,c=>c
 |n+1,.seq _ b=>aA n b
 |_,c=>c
def aLl:Nat->Code->Bool
 |1,.seq _ _=>true
 |n+1,.seq _ b=>aLl n b
 |_,_=>false
def dr(w:a7B):a7B:={w with drawn:=w.drawn+1}
def LdR(P:Program)(t:TypeId)(a:a7C)(w:a7B)(K:a7C->Prop):Prop:=∃v,(do loadVar t (<-asAddr a):Sem a7C).run P w= .ok v w/\K v
def exL:List (Nat×(Env->a7B->Prop))->Nat->Env->a7B->Prop
 |[],_,_,_=>False
 |(j,k)::r,i,g,w=>match Nat.beq i j with|true=>k g w|false=>exL r i g w
def exQ(kn kr:Env->a7B->Prop)(l:List (Nat×(Env->a7B->Prop))):Exit->Env->a7B->Prop
 | .normal,g,w=>kn g w
 | .ret,g,w=>kr g w
 | .exit i,g,w=>exL l i g w
 |_,_,_=>False
def aIl(Q:Exit->Env->a7B->Prop):List (Nat×(Env->a7B->Prop))->Prop
 |[]=>True
 |(i,k)::r=>(∀g w,k g w->Q (.exit i) g w)/\aIl Q r
def aNN(c a b:a7C):Sem Next:=do pure (.value (if<-asBool c then a else b))
def Gc(t:TypeId):Sem Next:=V (Instr.alloc t true (.tuple #[]))
def aKd(t:TypeId)(x:a7C):Sem Next:=V (Instr.box t x)
def cK(t:TypeId)(a:a7C):Sem Next:=V (Instr.loadAt t a)
def dL(t:TypeId)(a x:a7C):Sem Next:=U (Instr.storeAt t a x)
def aL4 (x:a7C):Sem Next:=execOp (λ_=>x) ⟨none,.nilCheck (.tmp 0),0,default,#[],none⟩
def sUn(op:UnOp)(x:a7C):Sem Next:=V (Op.unary op x)
def S3 (s d:TypeId)(x:a7C):Sem Next:=V (convert s d x)
def aXU(t:TypeId)(x:a7C):Sem Next:=V (Instr.arrayAt t x)
def aRX(t:TypeId)(x:a7C):Sem Next:=V (Instr.makeInterface t x)
def aRY(t:TypeId)(r:Option a7C):Sem Next:=V (Instr.makeMap t r)
def mT(t:TypeId)(l c:a7C):Sem Next:=V (Instr.makeSlice t l c)
def eY(t:TypeId)(x:a7C)(lo hi mx:Option a7C):Sem Next:=V (Instr.sliceAt t x lo hi mx)
def pZ(t:TypeId)(x:a7C)(f:Nat):Sem Next:=V (Instr.fieldAt t x f)
def aRW(t:TypeId)(x:a7C)(f:Nat):Sem Next:=V (Instr.field t x f)
def uY(t:TypeId)(x i:a7C):Sem Next:=V (Instr.indexAt t x i)
def aAk(t:TypeId)(x i:a7C):Sem Next:=V (Instr.index t x i)
def aUP(t:TypeId)(x i:a7C)(ok:Bool):Sem Next:=V (Instr.lookup t x i ok)
def aHN(t:TypeId)(m k x:a7C):Sem Next:=U (Instr.mapUpdate t m k x)
def aRZ(t:TypeId)(x:a7C):Sem Next:=V (Instr.range t x)
def aRV(it:a7C):Sem Next:=V (Instr.entry it)
def aUQ(it:a7C)(str:Bool)(ty:TypeId):Sem Next:=V (Instr.next it str ty)
def Ge(t:a7C)(i:Nat):Sem Next:=V (Instr.extract t i)
section
variable{P:Program}{ann:FA}
theorem aVs{Q:Exit->Env->a7B->Prop}:∀{l:List (Nat×(Env->a7B->Prop))},aIl Q l->∀{i:Nat} {g:Env} {w:a7B},exL l i g w->Q (.exit i) g w:=by
 intro l
 induction l with
 |nil=>intro _ i g w h;exact h.elim
 |cons p r ih=>
  obtain⟨j,k⟩:=p;rintro⟨h1,h2⟩ i g w h;simp only[exL]at h;cases hb:Nat.beq i j with
  |true=>
   simp only[hb]at h;obtain rfl:=a2W hb;exact h1 _ _ h
  |false=>simp only[hb]at h;exact ih h2 h
theorem aTd{c:Code}{kn kr:Env->a7B->Prop}{l:List (Nat×(Env->a7B->Prop))}{Q:Exit->Env->a7B->Prop}{g:Env}{w:a7B}
 (e:A=bQ P ann c (exQ kn kr l) g w) (h:A) (hn:∀g w,kn g w->Q .normal g w) (hr:∀g w,kr g w->Q .ret g w) (hl:aIl Q l):bQ P ann c Q g w:=by
 rw[e]at h;refine Jl h (λe g' w' _ hq=> ?_);cases e with
 |normal=>exact hn _ _ hq
 |ret=>exact hr _ _ hq
 |exit i=>exact aVs hl hq
 |_=>exact hq.elim
theorem aOh{x y z:Code}{Q:Exit->Env->a7B->Prop}{g:Env}{w:a7B}(h:bQ P ann (.seq (.seq x y) z) Q g w):bQ P ann (.seq x (.seq y z)) Q g w:=by
 show bQ P ann x (vZ (λg w=>bQ P ann y (vZ (λg w=>bQ P ann z Q g w) Q) g w) Q) g w;have h:bQ P ann x (vZ (λg w=>bQ P ann y (vZ (λg w=>bQ P ann z Q g w) Q) g w) (vZ (λg w=>bQ P ann z Q g w) Q)) g w:=h;refine Jl h (λe g' w' _ hq=> ?_);cases e<;>exact hq
theorem aC{K:Env->a7B->Prop}{Q:Exit->Env->a7B->Prop}{g:Env}{w:a7B}(h:K g w):vZ K Q .normal g w:=h
theorem aOk{Q:Exit->Env->a7B->Prop}:∀(n:Nat) (c:Code) (g:Env) (w:a7B),aLl n c=true->bQ P ann (.seq (aD n c) (aA n c)) Q g w->bQ P ann c Q g w:=by
 intro n
 induction n with
 |zero=>intro c g w h;simp[aLl]at h
 |succ n ih=>
  intro c g w h hd;cases c with
  |seq a b=>
   cases n with
   |zero=>exact hd
   |succ n=>
    have hb:aLl (n+1) b=true:=by simpa[aLl]using h
    have hd':bQ P ann (.seq (.seq a (aD (n+1) b)) (aA (n+1) b)) Q g w:=hd;have:=aOh hd';show bQ P ann a (vZ (λg w=>bQ P ann b Q g w) Q) g w;have h2:bQ P ann a (vZ (λg w=>bQ P ann (.seq (aD (n+1) b) (aA (n+1) b)) Q g w) Q) g w:=this;refine Jl h2 (λe g' w' _ hq=> ?_);cases e with
    |normal=>exact ih b g' w' hb hq
    |_=>exact hq
  |_=>cases n<;>simp[aLl]at h
def aUo(id:Nat):Code->Bool| .block i _=>Nat.beq i id|_=>false
def aQ2:Code->Bool| .loop _=>true|_=>false
def aQA:Code->Option Operand| .cond o _ _=>some o|_=>none
theorem aTb{Q:Exit->Env->a7B->Prop}(id:Nat)(c:Code)(g:Env)(w:a7B)(h:aUo id c=true)(hd:bQ P ann (bI c) (blk id Q) g w):bQ P ann c Q g w:=by
 cases c with
 |block i c=>
  obtain rfl:=a2W (show Nat.beq i id=true from h);exact hd
 |_=>cases h
def aUp:Code->Bool| .scope _=>true|_=>false
theorem aTe{Q:Exit->Env->a7B->Prop}(c:Code)(g:Env)(w:a7B)(h:aUp c=true)(hd:bQ P ann (bI c) Q g w):bQ P ann c Q g w:=by
 cases c with
 |scope c=>exact hd
 |_=>cases h
theorem aTc{Q:Exit->Env->a7B->Prop}(o:Operand)(c:Code)(g:Env)(w:a7B)(h:aQA c=some o)
 (hd:JJ (ev g o) (bQ P ann (cT c) Q g w) (bQ P ann (cE c) Q g w)):bQ P ann c Q g w:=by
 cases c with
 |cond o' a b=>obtain rfl:=a1Z h;exact hd
 |_=>cases h
theorem aPB{v:a7C}{A' B':Prop}(ha:A->A')(hb:B->B')(h:JJ v A B):JJ v A' B':=by
 unfold JJ at*;cases v with
 |bool b=>cases b<;>first|exact ha h|exact hb h
 |_=>exact h
theorem aQD(proj:Env->T)(F:(T->a7B->Prop)->T->a7B->Prop){c:Code}{Q:Exit->Env->a7B->Prop}{g:Env}{w:a7B}
 (hF:∀(X:T->a7B->Prop) g' w',kI (agE c) g g'->F X (proj g') w'->bQ P ann c (vZ (λg'' w''=>X (proj g'') w'') Q) g' w')
 (h:aN F (proj g) w):bQ P ann (.loop c) Q g w:=by
 obtain⟨I,⟨n,h0⟩,hI⟩:=h;refine⟨λn g' w'=>kI (agE c) g g'/\I n (proj g') w',⟨n,kI.refl _ _,h0⟩, ?_⟩;rintro n g' w' ⟨ha,hi⟩;have:=hF _ g' w' ha (hI n _ _ hi);refine Jl this (λe g2 w2 ha2 hq=> ?_);cases e with
 |normal=>
  obtain⟨m,hm,hh⟩:=hq;exact⟨m,hm,ha.trans ha2 (λ_ h=>h) (λ_ h=>h),hh⟩
 |_=>exact hq
theorem aOi(proj:Env->T)(F:(T->a7B->Prop)->T->a7B->Prop)(c:Code){Q:Exit->Env->a7B->Prop}{g:Env}{w:a7B}(hl:aQ2 c=true)
 (h:aN F (proj g) w)
 (hF:∀(X:T->a7B->Prop) g' w',kI (agE (bI c)) g g'->F X (proj g') w'->bQ P ann (bI c) (vZ (λg'' w''=>X (proj g'') w'') Q) g' w'):bQ P ann c Q g w:=by
 cases c with
 |loop c=>exact aQD proj F hF h
 |_=>cases hl
theorem aLE{l:List Nat}{s:Nat}(hs:qP s l=false):s∉l:=by
 induction l with
 |nil=>simp
 |cons a r ih=>
  unfold qP at hs;cases hb:Nat.beq a s with
  |true=>simp only[hb]at hs;cases hs
  |false=>
   simp only[hb]at hs;intro hm;rcases a3C.1 hm with e|hm
   .subst e;simp at hb
   .exact ih hs hm
theorem aQj{l:List Nat}{g:Env}(h:kI l g g'){s:Nat}(hs:qP s l=false):g' s=g s:=h s (aLE hs)
def aaW(id:Nat):Code->Array Oper
 | .region i ops _=>match Nat.beq i id with|true=>ops|false=> #[]
 | .seq a b=>match(aaW id a).size with|0=>aaW id b|_+1=>aaW id a
 | .cond _ a b=>match(aaW id a).size with|0=>aaW id b|_+1=>aaW id a
 | .block _ c=>aaW id c
 | .loop c=>aaW id c
 | .scope c=>aaW id c
 |_=> #[]
theorem Td{b:Bool}(ha:A)(hb:B):Ord b A B:=by cases b<;>assumption
theorem aN.rule {α:Type}{F:(α->a7B->Prop)->α->a7B->Prop}(I:Nat->α->a7B->Prop){g:α}{w:a7B}(n:Nat)(h0:I n g w)
 (hr:∀n g w,I n g w->F (λg' w'=>∃m,m<n/\I m g' w') g w):aN F g w:=⟨I,⟨n,h0⟩,hr⟩
theorem aCE(A B:Prop):JJ (.bool true) A B=A:=Eq.trans rfl rfl
theorem axE(A B:Prop):JJ (.bool false) A B=B:=Eq.trans rfl rfl
theorem aMx(s:(a7C->a7B->Prop)->Prop)(w:a7B)(K:a7C->a7B->Prop):Gd true s w K=s K:=Eq.trans rfl rfl
theorem aIm(s:(a7C->a7B->Prop)->Prop)(w:a7B)(K:a7C->a7B->Prop):Gd false s w K=K undef w:=Eq.trans rfl rfl
theorem aMy(p:Prop):Gs true p=p:=Eq.trans rfl rfl
theorem aIn(p:Prop):Gs false p=True:=Eq.trans rfl rfl
theorem aQ0:isB (.bool true) true=true:=Eq.trans rfl rfl
theorem aQZ:isB (.bool true) false=false:=Eq.trans rfl rfl
theorem aQY:isB (.bool false) true=false:=Eq.trans rfl rfl
theorem aQX:isB (.bool false) false=true:=Eq.trans rfl rfl
def iB:Operand:= .tmp 0
theorem exD{c:Code}{kn kr:Env->a7B->Prop}{l:List (Nat×(Env->a7B->Prop))}{Q:Exit->Env->a7B->Prop}{g:Env}{w:a7B}
 (h:A) (hn:∀g w,kn g w->Q .normal g w) (hr:∀g w,kr g w->Q .ret g w) (hl:aIl Q l) (e:A=bQ P ann c (exQ kn kr l) g w:=by kernel_rfl):bQ P ann c Q g w:=aTd e h hn hr hl
theorem bC{Q:Exit->Env->a7B->Prop}(n:Nat){c:Code}{g:Env}{w:a7B}
 (hd:bQ P ann (aD n c) (vZ (λg w=>bQ P ann (aA n c) Q g w) Q) g w) (h:aLl n c=true:=by kernel_rfl):bQ P ann c Q g w:=aOk n c g w h hd
theorem jP{Q:Exit->Env->a7B->Prop}(id:Nat){c:Code}{g:Env}{w:a7B}(hd:bQ P ann (bI c) (blk id Q) g w)(h:aUo id c=true:=by kernel_rfl):bQ P ann c Q g w:=aTb id c g w h hd
theorem scD{Q:Exit->Env->a7B->Prop}{c:Code}{g:Env}{w:a7B}(hd:bQ P ann (bI c) Q g w)(h:aUp c=true:=by kernel_rfl):bQ P ann c Q g w:=aTe c g w h hd
theorem cdD{Q:Exit->Env->a7B->Prop}(o:Operand){c:Code}{g:Env}{w:a7B}(ha:A->bQ P ann (cT c) Q g w)(hb:B->bQ P ann (cE c) Q g w)(hd:JJ (ev g o) A B)(h:aQA c=some o:=by kernel_rfl):bQ P ann c Q g w:=
 aTc o c g w h (aPB ha hb hd)
theorem qO(proj:Env->T)(F:(T->a7B->Prop)->T->a7B->Prop){c:Code}{Q:Exit->Env->a7B->Prop}{g:Env}{w:a7B}
 (h:aN F (proj g) w)
 (hF:∀(X:T->a7B->Prop) g' w',kI (agE (bI c)) g g'->F X (proj g') w'->bQ P ann (bI c) (vZ (λg'' w''=>X (proj g'') w'') Q) g' w') (hl:aQ2 c=true:=by kernel_rfl):bQ P ann c Q g w:=aOi proj F c hl h hF
theorem bG{l:List Nat}{g:Env}(s:Nat)(h:kI l g g')(hs:qP s l=false:=by kernel_rfl):g' s=g s:=aQj h hs
theorem gF{ann:FA}(fn:Func)(c:Code)(args:List a7C)(rs:List ResultVar)(N:Nat){f:FuncId}{w:a7B}(hm:P.follows .mixedOrders=true)
 (hf:P.funcs[f]?=some fn) (h:bQ P ann c (aXR P rs R) (aDm args) w) (hAf:ann.f=f:=by kernel_rfl) (hb:fn.body=some c:=by kernel_rfl) (hrs:fn.results=rs.toArray:=by kernel_rfl) (hN:fn.ntmps=N:=by kernel_rfl) (hle:Nat.ble args.length N=true:=by kernel_rfl)
 (hok:codeOk P N ann c=true:=by kernel_rfl) (hro:rs.all aJ2=true:=by kernel_rfl) (hND:Nat.ble N DS=true:=by kernel_rfl) (hfl:zK c=true:=by kernel_rfl):aL P f args.toArray w R:=
 aIQ hm hAf hf hb hrs hN (a6G hle) hok hro hND hfl h
end
def El:List Nat->List a7C->Env
 |s::ss,v::vs=>λi=>match Nat.beq i s with|true=>v|false=>El ss vs i
 |_,_=>λ_=>undef
def aOA:List Oper->Nat->Option Oper
 |[],_=>none
 |o::_,0=>some o
 |_::r,n+1=>aOA r n
def gdE:List Oper->Env->Nat->Bool->Bool
 |[],_,_,_=>false
 |o::_,g,0,b=>Ax g o.dst b
 |_::r,g,n+1,b=>gdE r g n b
def S4 (g:Env)(ty:TypeId):Op->Sem Next
 | .pick c a b=>aNN (ev g c) (ev g a) (ev g b)
 | .alloc t=>Gc t
 | .box t x=>aKd t (ev g x)
 | .build t ps=>dK t (ps.toList.map λp=>(p.1,ev g p.2))
 | .buildSlice t n ps=>fX t n (ps.toList.map λp=>(p.1,ev g p.2))
 | .load t a=>cK t (ev g a)
 | .store t a x=>dL t (ev g a) (ev g x)
 | .nilCheck x=>aL4 (ev g x)
 | .binOp b t x y u=>bZ b t x y (ev g x) (ev g y)
 | .unOp b t x=>sUn b (ev g x)
 | .convert s d x=>S3 s d (ev g x)
 | .sliceToArrayPointer t x=>aXU t (ev g x)
 | .makeInterface t x=>aRX t (ev g x)
 | .makeFunc fn a b=>aGz fn (a.toList.map (ev g)) (b.toList.map (ev g))
 | .makeMap t r=>aRY t (r.map (ev g))
 | .makeSlice t l c=>mT t (ev g l) (ev g c)
 | .slice t x lo hi mx=>eY t (ev g x) (lo.map (ev g)) (hi.map (ev g)) (mx.map (ev g))
 | .fieldAddr t x f=>pZ t (ev g x) f
 | .field t x f=>aRW t (ev g x) f
 | .indexAddr t x i=>uY t (ev g x) (ev g i)
 | .index t x i=>aAk t (ev g x) (ev g i)
 | .lookup t x i k=>aUP t (ev g x) (ev g i) k
 | .mapUpdate t m k x=>aHN t (ev g m) (ev g k) (ev g x)
 | .insert t m k x=>aHN t (ev g m) (ev g k) (ev g x)
 | .range t x=>aRZ t (ev g x)
 | .next x s=>aUQ (ev g x) s ty
 | .entry x=>aRV (ev g x)
 | .extract x i=>Ge (ev g x) i
 | .panic x=>V (Instr.panic (ev g x))
 | .call c=>(match c.callee with
   | .builtin b=>yM b c.argTypes ty (c.args.toList.map (ev g))
   | .value f=>Ps (ev g f) (c.args.toList.map (ev g))
   |_=>aL4 undef)
 |_=>aL4 undef
def nX(P:Program)(g:Env)(w:a7B)(K:a7C->a7B->Prop)(ty:TypeId):Op->Prop
 | .move x=>K (ev g x) w
 | .assign x=>K (ev g x) w
 | .call c=>(match c.callee with
   | .value (.func f)=>aL P f (c.args.toList.map (ev g)).toArray w K
   |_=>bF P (S4 g ty (.call c)) w K)
 |o=>bF P (S4 g ty o) w K
def aHy(P:Program)(all:List Oper)(K:Env->a7B->Prop):List Oper->Env->a7B->Prop
 |[],g,w=>K g w
 |o::r,g,w=>match o.guard with
  |none=>nX P g w (λv w=>aHy P all K r (put g o.dst v) w) o.type o.op
  |some (j,b)=>Gd (gdE all g j b) (λK=>nX P g w K o.type o.op) w λv w=>aHy P all K r (put g o.dst v) w
structure RcE where
 hv:Bool
 gb:Option Bool
 s:Sem Next
 w:a7B
 v:a7C
def gsE(b:Option Bool)(p:Prop):Prop:=match b with|none=>p|some b=>Gs b p
def aK5 (P:Program)(gb:Option Bool)(s:Sem Next)(v:a7C)(w:a7B):List RcE->Nat->Prop
 |[],_=>False
 |q::_,0=>(match q.hv with|true=>gsE gb (aFe P s v q.w)|false=>gsE q.gb (aFe P q.s q.v w))
 |_::h,n+1=>aK5 P gb s v w h n
def Vu(P:Program)(gb:Option Bool)(s:Sem Next)(v:a7C)(w:a7B)(h:List RcE):List Nat->Prop
 |[]=>True
 |k::ks=>aK5 P gb s v w h k/\Vu P gb s v w h ks
def stE(P:Program)(gb:Option Bool)(g:Env)(w:a7B)(K:a7C->a7B->Prop)(ty:TypeId)(o:Op):Prop:=
 match gb with|none=>nX P g w K ty o|some b=>Gd b (λK=>nX P g w K ty o) w K
def goE(all:List Oper)(g:Env):Option (Nat×Bool)->Option Bool
 |none=>none
 |some (j,b)=>some (gdE all g j b)
def mP(P:Program)(all:List Oper)(K:Env->a7B->Prop):List Oper->Te->List RcE->Env->a7B->Prop
 |[],_,_,g,w=>K g w
 |_::_,[],_,_,_=>False
 |o::r,(hv,ks)::pl,h,g,w=>stE P (goE all g o.guard) g w (λv w'=>
  match hv,ks with
  |true,[]=>mP P all K r pl (⟨true,goE all g o.guard,S4 g o.type o.op,w,v⟩::h) (put g o.dst v) w'
  |true,k::ks=>Vu P (goE all g o.guard) (S4 g o.type o.op) v w' h (k::ks)/\mP P all K r pl (⟨true,goE all g o.guard,S4 g o.type o.op,w,v⟩::h) (put g o.dst v) w'
  |false,[]=>w'=w/\mP P all K r pl (⟨false,goE all g o.guard,S4 g o.type o.op,w,v⟩::h) (put g o.dst v) w
  |false,k::ks=>w'=w/\Vu P (goE all g o.guard) (S4 g o.type o.op) v w h (k::ks)/\mP P all K r pl (⟨false,goE all g o.guard,S4 g o.type o.op,w,v⟩::h) (put g o.dst v) w) o.type o.op
def aTE:List Nat->Nat->Nat
 |[],_=>0
 |a::r,i=>match Nat.beq a i with|true=>0|false=>aTE r i+1
def aNH(π:List Nat):Option (Nat×Bool)->Option (Nat×Bool)
 |none=>none
 |some (j,b)=>some (aTE π j,b)
def aRy(π:List Nat)(l:List Oper):Option Oper->List Oper
 |some o=>⟨o.dst,o.op,o.type, "",#[],aNH π o.guard⟩::l
 |none=>l
def ajJ(π:List Nat)(l:List Oper):List Nat->List Oper
 |[]=>[]
 |i::r=>aRy π (ajJ π l r) (aOA l i)
def aeR(P:Program)(cf:Code)(f:FuncId)(id:Nat)(ops:List Oper)(K:Env->a7B->Prop)(g:Env)(w0 w:a7B):HT->Prop
 | .leaf _ pl=>mP P ops K ops pl [] g w
 | .perm π _ _ pl=>mP P (ajJ π ops π) K (ajJ π ops π) pl [] g w
 | .split a b x y=>Ord (aRv f id (aaW id cf) a b w0) (aeR P cf f id ops K g w0 w x) (aeR P cf f id ops K g w0 w y)
def fz:Nat->Te->Te
 |0,l=>l
 |n+1,l=>(false,[])::fz n l
def ft(a:List Nat)(l:Te):Te:=(true,a)::l
def fu(a:List Nat)(l:Te):Te:=(false,a)::l
def Nt(P:Program)(ann:FA)(cf:Code):Code->(Exit->Env->a7B->Prop)->Env->a7B->Prop
 | .skip,Q,g,w=>Q .normal g w
 | .region id ops d,Q,g,w=>(match d with
   |false=>aHy P ops.toList (Q .normal) ops.toList g w
   |true=>aeR P cf ann.f id ops.toList (Q .normal) g w (dr w) (ann.t id))
 | .seq x y,Q,g,w=>Nt P ann cf x (vZ (λg w=>Nt P ann cf y Q g w) Q) g w
 | .cond c x y,Q,g,w=>JJ (ev g c) (Nt P ann cf x Q g w) (Nt P ann cf y Q g w)
 | .block id c,Q,g,w=>Nt P ann cf c (blk id Q) g w
 | .scope c,Q,g,w=>Nt P ann cf c Q g w
 | .label _,Q,g,w=>Q .normal g w
 | .exit id,Q,g,w=>Q (.exit id) g w
 | .ret,Q,g,w=>Q .ret g w
 |_,_,_,_=>False
def rsE(P:Program):List ResultVar->Env->a7B->(List a7C->Prop)->Prop
 |[],_,_,K=>K []
 | .tmp t::r,g,w,K=>rsE P r g w λvs=>K (g t::vs)
 | .cell a t::r,g,w,K=>LdR P t (g a) w λv=>rsE P r g w λvs=>K (v::vs)
def aTm:Nat->Te->List Nat
 |_,[]=>[]
 |i,(h,_)::r=>match h with|true=>i::aTm (i+1) r|false=>aTm (i+1) r
def aV0:Nat->Te->List (Nat×Nat)
 |_,[]=>[]
 |i,(_,ks)::r=>ks.map (λk=>(i-1-k,i))++aV0 (i+1) r
def lf(pl:Te):HT:= .leaf (aTm 0 pl,aV0 0 pl) pl
def pm(π:List Nat)(es:List (Nat×Nat))(pl:Te):HT:= .perm π es (aTm 0 pl,aV0 0 pl) pl
def nA(f:FuncId):FA:=⟨f,λ_=> .leaf ([],[]) []⟩
def bP(P:Program)(ann:FA)(cf:Code)(fn:Func)(kr:(a7C->a7B->Prop)->Env->a7B->Prop)(s:Code->Code)(kn:Env->a7B->Prop)(l:List (Nat×(Env->a7B->Prop)))(R:a7C->a7B->Prop)(g:Env)(w:a7B):Prop:=
 Nt P ann cf (s (aO fn)) (exQ kn (kr R) l) g w
section
variable{P:Program}{ann:FA}{cf:Code}{Q:Exit->Env->a7B->Prop}{g:Env}{w:a7B}{K:Env->a7B->Prop}{L:a7C->a7B->Prop}{ty:TypeId}
variable{s i d n t b1 f j k2 id a4 l3:Nat}{ss ks π r2:List Nat}{v v1:a7C}{vs:List a7C}{a b c x2 y2:Code}{o c1 a2 b3 x y l i1 m k1:Operand}{op o2:Op}{p:String}{a1:Array Edge}{q:Option (Nat×Bool)}{r all l2 ops:List Oper}{b2 k s2:Bool}{o1:Oper}{t1 u s1 d1:TypeId}{ps:List (Nat×Operand)}{b4:BinOp}{b5:UnOp}{fn:Fn}{a3 b6 l1:List Operand}{r1 lo hi mx:Option Operand}{f1:FuncId}{ts:Array TypeId}{b7:Builtin}{d2:Option Tmp}{p1:Prop}{gb b8:Option Bool}{s3 s11:Sem Next}{h:List RcE}{w1 w0:a7B}{q1:RcE}{pl:Te}{an:Ann}{es:List (Nat×Nat)}{x1 y1:HT}{L1:List a7C->Prop}{r3:List ResultVar}{kn kr k3:Env->a7B->Prop}{l4 r4:List (Nat×(Env->a7B->Prop))}
theorem aMD:Eq (El (s::ss) (v::vs) i) (match Nat.beq i s with|true=>v|false=>El ss vs i):=rfl
theorem aME:Eq (El [] [] i) (undef):=rfl
theorem aIu:Eq (put g (some d) v i) (match Nat.beq i d with|true=>v|false=>g i):=rfl
theorem aIt:Eq (put g none v i) (g i):=rfl
theorem aSY:Eq (sA (.seq a b)) (a):=rfl
theorem aSV:Eq (cT (.cond o a b)) (a):=rfl
theorem aSU:Eq (cE (.cond o a b)) (b):=rfl
theorem aSR:Eq (bI (.block i c)) (c):=rfl
theorem aSS:Eq (bI (.loop c)) (c):=rfl
theorem aST:Eq (bI (.scope c)) (c):=rfl
theorem aSZ:Eq (aD 1 (.seq a b)) (a):=rfl
theorem aS0:Eq (aD (n+2) (.seq a b)) (.seq a (aD (n+1) b)):=rfl
theorem aSW:Eq (aA 0 c) (c):=rfl
theorem aSX:Eq (aA (n+1) (.seq a b)) (aA n b):=rfl
theorem aPX:Eq (ev g (.tmp t)) (g t):=rfl
theorem aPU:Eq (ev g (.const v)) (v):=rfl
theorem aPW:Eq (ev g (.global b1)) (.pointer (some ⟨b1,0,none⟩)):=rfl
theorem aPV:Eq (ev g (.func f)) (.func (.func f) #[] #[]):=rfl
theorem aMM:Eq (gdE (⟨some t,op,ty,p,a1,q⟩::r) g 0 b2) (isB (g t) b2):=rfl
theorem aMN:Eq (gdE (o1::r) g (n+1) b2) (gdE r g n b2):=rfl
theorem aMQ:Eq (aOA (o1::r) 0) (some o1):=rfl
theorem aMR:Eq (aOA (o1::r) (n+1)) (aOA r n):=rfl
theorem aFJ:Eq (nX P g w L ty (.pick c1 a2 b3)) (bF P (aNN (ev g c1) (ev g a2) (ev g b3)) w L):=rfl
theorem aCM:Eq (nX P g w L ty (.alloc t1)) (bF P (Gc t1) w L):=rfl
theorem aIs:Eq (nX P g w L ty (.box t1 x)) (bF P (aKd t1 (ev g x)) w L):=rfl
theorem aCO:Eq (nX P g w L ty (.build t1 ps.toArray)) (bF P (dK t1 (ps.map λp=>(p.1,ev g p.2))) w L):=rfl
theorem Wv:Eq (nX P g w L ty (.buildSlice t1 n ps.toArray)) (bF P (fX t1 n (ps.map λp=>(p.1,ev g p.2))) w L):=rfl
theorem aFG:Eq (nX P g w L ty (.load t1 a2)) (bF P (cK t1 (ev g a2)) w L):=rfl
theorem aCV:Eq (nX P g w L ty (.store t1 a2 x)) (bF P (dL t1 (ev g a2) (ev g x)) w L):=rfl
theorem ahI:Eq (nX P g w L ty (.nilCheck x)) (bF P (aL4 (ev g x)) w L):=rfl
theorem aCN:Eq (nX P g w L ty (.binOp b4 t1 x y u)) (bF P (bZ b4 t1 x y (ev g x) (ev g y)) w L):=rfl
theorem aFK:Eq (nX P g w L ty (.unOp b5 t1 x)) (bF P (sUn b5 (ev g x)) w L):=rfl
theorem aqD:Eq (nX P g w L ty (.convert s1 d1 x)) (bF P (S3 s1 d1 (ev g x)) w L):=rfl
theorem Bj:Eq (nX P g w L ty (.sliceToArrayPointer t1 x)) (bF P (aXU t1 (ev g x)) w L):=rfl
theorem ML:Eq (nX P g w L ty (.makeInterface t1 x)) (bF P (aRX t1 (ev g x)) w L):=rfl
theorem ahH:Eq (nX P g w L ty (.makeFunc fn a3.toArray b6.toArray)) (bF P (aGz fn (a3.map (ev g)) (b6.map (ev g))) w L):=rfl
theorem aqF:Eq (nX P g w L ty (.makeMap t1 r1)) (bF P (aRY t1 (r1.map (ev g))) w L):=rfl
theorem Zo:Eq (nX P g w L ty (.makeSlice t1 l c1)) (bF P (mT t1 (ev g l) (ev g c1)) w L):=rfl
theorem aCU:Eq (nX P g w L ty (.slice t1 x lo hi mx)) (bF P (eY t1 (ev g x) (lo.map (ev g)) (hi.map (ev g)) (mx.map (ev g))) w L):=rfl
theorem Zm:Eq (nX P g w L ty (.fieldAddr t1 x f)) (bF P (pZ t1 (ev g x) f) w L):=rfl
theorem aCQ:Eq (nX P g w L ty (.field t1 x f)) (bF P (aRW t1 (ev g x) f) w L):=rfl
theorem Zn:Eq (nX P g w L ty (.indexAddr t1 x i1)) (bF P (uY t1 (ev g x) (ev g i1)) w L):=rfl
theorem aCR:Eq (nX P g w L ty (.index t1 x i1)) (bF P (aAk t1 (ev g x) (ev g i1)) w L):=rfl
theorem aAG:Eq (nX P g w L ty (.lookup t1 x i1 k)) (bF P (aUP t1 (ev g x) (ev g i1) k) w L):=rfl
theorem Zp:Eq (nX P g w L ty (.mapUpdate t1 m k1 x)) (bF P (aHN t1 (ev g m) (ev g k1) (ev g x)) w L):=rfl
theorem aAF:Eq (nX P g w L ty (.insert t1 m k1 x)) (bF P (aHN t1 (ev g m) (ev g k1) (ev g x)) w L):=rfl
theorem aCT:Eq (nX P g w L ty (.range t1 x)) (bF P (aRZ t1 (ev g x)) w L):=rfl
theorem aFI:Eq (nX P g w L ty (.next x s2)) (bF P (aUQ (ev g x) s2 ty) w L):=rfl
theorem aCP:Eq (nX P g w L ty (.entry x)) (bF P (aRV (ev g x)) w L):=rfl
theorem aqE:Eq (nX P g w L ty (.extract x i)) (bF P (Ge (ev g x) i) w L):=rfl
theorem aCS:Eq (nX P g w L ty (.panic x)) (bF P (V (Instr.panic (ev g x))) w L):=rfl
theorem aFH:Eq (nX P g w L ty (.move x)) (L (ev g x) w):=rfl
theorem aAE:Eq (nX P g w L ty (.assign x)) (L (ev g x) w):=rfl
theorem aFF:Eq (nX P g w L ty (.call ⟨.value (.func f1),l1.toArray,ts⟩)) (aL P f1 (l1.map (ev g)).toArray w L):=rfl
theorem aMP:Eq (nX P g w L ty (.call ⟨.value (.tmp t),l1.toArray,ts⟩)) (bF P (Ps (ev g (.tmp t)) (l1.map (ev g))) w L):=rfl
theorem aMO:Eq (nX P g w L ty (.call ⟨.builtin b7,l1.toArray,ts⟩)) (bF P (yM b7 ts ty (l1.map (ev g))) w L):=rfl
theorem aP7:Eq (aHy P all K [] g w) (K g w):=rfl
theorem aP9:Eq (aHy P all K (⟨d2,op,t1,p,a1,none⟩::r) g w) (nX P g w (λv w=>aHy P all K r (put g d2 v) w) t1 op):=rfl
theorem aP8:Eq (aHy P all K (⟨d2,op,t1,p,a1,some (j,b2)⟩::r) g w) (Gd (gdE all g j b2) (λK=>nX P g w K t1 op) w λv w=>aHy P all K r (put g d2 v) w):=rfl
theorem aPY:Eq (gsE none p1) (p1):=rfl
theorem aPZ:Eq (gsE (some b2) p1) (Gs b2 p1):=rfl
theorem aPJ:Eq (aK5 P gb s3 v w (⟨true,b8,s11,w1,v1⟩::h) 0) (gsE gb (aFe P s3 v w1)):=rfl
theorem aPH:Eq (aK5 P gb s3 v w (⟨false,b8,s11,w1,v1⟩::h) 0) (gsE b8 (aFe P s11 v1 w)):=rfl
theorem aPI:Eq (aK5 P gb s3 v w (q1::h) (n+1)) (aK5 P gb s3 v w h n):=rfl
theorem aP5:Eq (Vu P gb s3 v w h []) (True):=rfl
theorem aP6:Eq (Vu P gb s3 v w h (k2::ks)) ((aK5 P gb s3 v w h k2/\Vu P gb s3 v w h ks)):=rfl
theorem aQc:Eq (stE P none g w L ty o2) (nX P g w L ty o2):=rfl
theorem aQd:Eq (stE P (some b2) g w L ty o2) (Gd b2 (λK=>nX P g w K ty o2) w L):=rfl
theorem aQa:Eq (goE all g none) (none):=rfl
theorem aQb:Eq (goE all g (some (j,b2))) (some (gdE all g j b2)):=rfl
theorem aQe:Eq (mP P all K [] pl h g w) (K g w):=rfl
theorem aM7:Eq (mP P all K (⟨d2,op,t1,p,a1,none⟩::r) ((true,[])::pl) h g w) ((nX P g w (λv w1=>mP P all K r pl (⟨true,none,S4 g t1 op,w,v⟩::h) (put g d2 v) w1) t1 op)):=rfl
theorem aM8:Eq (mP P all K (⟨d2,op,t1,p,a1,none⟩::r) ((true,(k2::ks))::pl) h g w) ((nX P g w (λv w1=>Vu P none (S4 g t1 op) v w1 h (k2::ks)/\mP P all K r pl (⟨true,none,S4 g t1 op,w,v⟩::h) (put g d2 v) w1) t1 op)):=rfl
theorem aM9:Eq (mP P all K (⟨d2,op,t1,p,a1,none⟩::r) ((false,[])::pl) h g w) ((nX P g w (λv w1=>w1=w/\mP P all K r pl (⟨false,none,S4 g t1 op,w,v⟩::h) (put g d2 v) w) t1 op)):=rfl
theorem aNa:Eq (mP P all K (⟨d2,op,t1,p,a1,none⟩::r) ((false,(k2::ks))::pl) h g w) ((nX P g w (λv w1=>w1=w/\Vu P none (S4 g t1 op) v w h (k2::ks)/\mP P all K r pl (⟨false,none,S4 g t1 op,w,v⟩::h) (put g d2 v) w) t1 op)):=rfl
theorem aM3:Eq (mP P all K (⟨d2,op,t1,p,a1,(some (j,b2))⟩::r) ((true,[])::pl) h g w) ((Gd (gdE all g j b2) (λK=>nX P g w K t1 op) w λv w1=>mP P all K r pl (⟨true,(some (gdE all g j b2)),S4 g t1 op,w,v⟩::h) (put g d2 v) w1)):=rfl
theorem aM4:Eq (mP P all K (⟨d2,op,t1,p,a1,(some (j,b2))⟩::r) ((true,(k2::ks))::pl) h g w) ((Gd (gdE all g j b2) (λK=>nX P g w K t1 op) w λv w1=>Vu P (some (gdE all g j b2)) (S4 g t1 op) v w1 h (k2::ks)/\mP P all K r pl (⟨true,(some (gdE all g j b2)),S4 g t1 op,w,v⟩::h) (put g d2 v) w1)):=rfl
theorem aM5:Eq (mP P all K (⟨d2,op,t1,p,a1,(some (j,b2))⟩::r) ((false,[])::pl) h g w) ((Gd (gdE all g j b2) (λK=>nX P g w K t1 op) w λv w1=>w1=w/\mP P all K r pl (⟨false,(some (gdE all g j b2)),S4 g t1 op,w,v⟩::h) (put g d2 v) w)):=rfl
theorem aM6:Eq (mP P all K (⟨d2,op,t1,p,a1,(some (j,b2))⟩::r) ((false,(k2::ks))::pl) h g w) ((Gd (gdE all g j b2) (λK=>nX P g w K t1 op) w λv w1=>w1=w/\Vu P (some (gdE all g j b2)) (S4 g t1 op) v w h (k2::ks)/\mP P all K r pl (⟨false,(some (gdE all g j b2)),S4 g t1 op,w,v⟩::h) (put g d2 v) w)):=rfl
theorem aMK:Eq (mP P all K (o1::r) (fz 0 pl) h g w) (mP P all K (o1::r) pl h g w):=rfl
theorem aML:Eq (mP P all K (o1::r) (fz (n+1) pl) h g w) (mP P all K (o1::r) ((false,[])::fz n pl) h g w):=rfl
theorem aMI:Eq (mP P all K (o1::r) (ft ks pl) h g w) (mP P all K (o1::r) ((true,ks)::pl) h g w):=rfl
theorem aMJ:Eq (mP P all K (o1::r) (fu ks pl) h g w) (mP P all K (o1::r) ((false,ks)::pl) h g w):=rfl
theorem aMU:Eq (aNH π none) (none):=rfl
theorem aMV:Eq (aNH π (some (j,b2))) (some (aTE π j,b2)):=rfl
theorem aMW:Eq (aRy π l2 (some ⟨d2,op,t1,p,a1,q⟩)) (⟨d2,op,t1, "",#[],aNH π q⟩::l2):=rfl
theorem aMS:Eq (ajJ π l2 []) ([]):=rfl
theorem aMT:Eq (ajJ π l2 (i::r2)) (aRy π (ajJ π l2 r2) (aOA l2 i)):=rfl
theorem aP1:Eq (aeR P cf f1 id ops K g w0 w (.leaf an pl)) (mP P ops K ops pl [] g w):=rfl
theorem aP3:Eq (aeR P cf f1 id ops K g w0 w (.perm π es an pl)) (mP P (ajJ π ops π) K (ajJ π ops π) pl [] g w):=rfl
theorem aP0:Eq (aeR P cf f1 id ops K g w0 w (lf pl)) (mP P ops K ops pl [] g w):=rfl
theorem aP2:Eq (aeR P cf f1 id ops K g w0 w (pm π es pl)) (mP P (ajJ π ops π) K (ajJ π ops π) pl [] g w):=rfl
theorem aP4:Eq (aeR P cf f1 id ops K g w0 w (.split a4 b1 x1 y1)) (Ord (aRv f1 id (aaW id cf) a4 b1 w0) (aeR P cf f1 id ops K g w0 w x1) (aeR P cf f1 id ops K g w0 w y1)):=rfl
theorem aM1:Eq (vZ K Q .normal g w) (K g w):=rfl
theorem aM2:Eq (vZ K Q .ret g w) (Q .ret g w):=rfl
theorem aM0:Eq (vZ K Q (.exit i) g w) (Q (.exit i) g w):=rfl
theorem aMG:Eq (blk i Q .normal g w) (Q .normal g w):=rfl
theorem aMH:Eq (blk i Q .ret g w) (Q .ret g w):=rfl
theorem aMF:Eq (blk i Q (.exit j) g w) (match Nat.beq j i with|true=>Q .normal g w|false=>Q (.exit j) g w):=rfl
theorem aPP:Eq (Nt P ann cf .skip Q g w) (Q .normal g w):=rfl
theorem aPK:Eq (Nt P ann cf (.region id l2.toArray false) Q g w) (aHy P l2 (Q .normal) l2 g w):=rfl
theorem aPL:Eq (Nt P ann cf (.region id l2.toArray true) Q g w) (aeR P cf ann.f id l2 (Q .normal) g w (dr w) (ann.t id)):=rfl
theorem aPT:Eq (Nt P ann cf (.seq x2 y2) Q g w) (Nt P ann cf x2 (vZ (λg w=>Nt P ann cf y2 Q g w) Q) g w):=rfl
theorem aPN:Eq (Nt P ann cf (.cond c1 x2 y2) Q g w) (JJ (ev g c1) (Nt P ann cf x2 Q g w) (Nt P ann cf y2 Q g w)):=rfl
theorem aPM:Eq (Nt P ann cf (.block i c) Q g w) (Nt P ann cf c (blk i Q) g w):=rfl
theorem aPR:Eq (Nt P ann cf (.scope c) Q g w) (Nt P ann cf c Q g w):=rfl
theorem aPQ:Eq (Nt P ann cf (.label l3) Q g w) (Q .normal g w):=rfl
theorem aPO:Eq (Nt P ann cf (.exit i) Q g w) (Q (.exit i) g w):=rfl
theorem aPS:Eq (Nt P ann cf .ret Q g w) (Q .ret g w):=rfl
theorem aMY:Eq (rsE P [] g w L1) (L1 []):=rfl
theorem aMZ:Eq (rsE P (.tmp t::r3) g w L1) (rsE P r3 g w λvs=>L1 (g t::vs)):=rfl
theorem aMX:Eq (rsE P (.cell a4 t1::r3) g w L1) (LdR P t1 (g a4) w λv=>rsE P r3 g w λvs=>L1 (v::vs)):=rfl
theorem aQh:Eq (exQ kn kr l4 .normal g w) (kn g w):=rfl
theorem aQi:Eq (exQ kn kr l4 .ret g w) (kr g w):=rfl
theorem aQf:Eq (exQ kn kr l4 (.exit i) g w) (exL l4 i g w):=rfl
theorem aQg:Eq (exL ((j,k3)::r4) i g w) (match Nat.beq i j with|true=>k3 g w|false=>exL r4 i g w):=rfl
end
end Go.En
namespace Go.Proofs.YthohephggmkeeaaGreatDoor
open Go Go.En
noncomputable abbrev pg:Program:=Tryz.prog
theorem TryzM.mixed:pg.follows .mixedOrders=true:=Tryz.checked.mixed
abbrev K0:=a7B->Prop
abbrev K1:=a7C->K0
abbrev K2:=a7C->K1
abbrev K3:=a7C->K2
abbrev K4:=a7C->K3
abbrev K5:=a7C->K4
abbrev K6:=a7C->K5
abbrev K7:=a7C->K6
abbrev K8:=a7C->K7
abbrev K9:=a7C->K8
abbrev K10:=a7C->K9
abbrev K11:=a7C->K10
abbrev K12:=a7C->K11
abbrev K13:=a7C->K12
abbrev K14:=a7C->K13
abbrev HR(rs:List ResultVar)(R:K1)(Q:Exit->Env->a7B->Prop):Prop:=∀g w,(sP pg rs g w λvs=>R (tup vs) w)->Q .ret g w
abbrev no:Env->a7B->Prop:=λ_ _=>False
theorem sL{Q:Env->a7B->Prop}:∀g w,no g w->Q g w:=λ_ _ h=>h.elim
theorem bH{Q:Env->a7B->Prop}:∀g w,Q g w->Q g w:=λ_ _ h=>h
section
variable{P:Program}{ann:FA}{c:Code}{kr:Env->a7B->Prop}{Q:Exit->Env->a7B->Prop}{g:Env}{w:a7B}{A:Prop}
theorem pV(l:List (Nat×(Env->a7B->Prop)))(kn:Env->a7B->Prop)(h:A)(hn:∀g w,kn g w->Q .normal g w)(hr:∀g w,kr g w->Q .ret g w)(hl:aIl Q l)(e:A=bQ P ann c (exQ kn kr l) g w:=by kernel_rfl):bQ P ann c Q g w:=exD h hn hr hl e
theorem vT(kn:Env->a7B->Prop)(h:A)(hn:∀g w,kn g w->Q .normal g w)(hr:∀g w,kr g w->Q .ret g w)(e:A=bQ P ann c (exQ kn kr []) g w:=by kernel_rfl):bQ P ann c Q g w:=exD (l:=[]) h hn hr trivial e
theorem dP(kn:Env->a7B->Prop)(h:A)(hn:∀g w,kn g w->Q .normal g w)(e:A=bQ P ann c (exQ kn no []) g w:=by kernel_rfl):bQ P ann c Q g w:=exD (l:=[]) h hn sL trivial e
theorem gI(h:A)(hr:∀g w,kr g w->Q .ret g w)(e:A=bQ P ann c (exQ no kr []) g w:=by kernel_rfl):bQ P ann c Q g w:=exD (l:=[]) h sL hr trivial e
end
abbrev Mq0 (k:K0):Env->a7B->Prop:=λg w=>k w
abbrev AN(k:K1)(x0:Nat):Env->a7B->Prop:=λg w=>k (g x0) w
abbrev vJ(k:K2)(x0 x1:Nat):Env->a7B->Prop:=λg w=>k (g x0) (g x1) w
abbrev kC(k:K3)(x0 x1 x2:Nat):Env->a7B->Prop:=λg w=>k (g x0) (g x1) (g x2) w
abbrev lX(k:K4)(x0 x1 x2 x3:Nat):Env->a7B->Prop:=λg w=>k (g x0) (g x1) (g x2) (g x3) w
abbrev nY(k:K5)(x0 x1 x2 x3 x4:Nat):Env->a7B->Prop:=λg w=>k (g x0) (g x1) (g x2) (g x3) (g x4) w
abbrev Aj(k:K6)(x0 x1 x2 x3 x4 x5:Nat):Env->a7B->Prop:=λg w=>k (g x0) (g x1) (g x2) (g x3) (g x4) (g x5) w
abbrev DZ(k:K7)(x0 x1 x2 x3 x4 x5 x6:Nat):Env->a7B->Prop:=λg w=>k (g x0) (g x1) (g x2) (g x3) (g x4) (g x5) (g x6) w
abbrev Mq8 (k:K8)(x0 x1 x2 x3 x4 x5 x6 x7:Nat):Env->a7B->Prop:=λg w=>k (g x0) (g x1) (g x2) (g x3) (g x4) (g x5) (g x6) (g x7) w
abbrev Mq9 (k:K9)(x0 x1 x2 x3 x4 x5 x6 x7 x8:Nat):Env->a7B->Prop:=λg w=>k (g x0) (g x1) (g x2) (g x3) (g x4) (g x5) (g x6) (g x7) (g x8) w
abbrev GF(k:K10)(x0 x1 x2 x3 x4 x5 x6 x7 x8 x9:Nat):Env->a7B->Prop:=λg w=>k (g x0) (g x1) (g x2) (g x3) (g x4) (g x5) (g x6) (g x7) (g x8) (g x9) w
abbrev aGM(k:K11)(x0 x1 x2 x3 x4 x5 x6 x7 x8 x9 x10:Nat):Env->a7B->Prop:=λg w=>k (g x0) (g x1) (g x2) (g x3) (g x4) (g x5) (g x6) (g x7) (g x8) (g x9) (g x10) w
abbrev aGN(k:K12)(x0 x1 x2 x3 x4 x5 x6 x7 x8 x9 x10 x11:Nat):Env->a7B->Prop:=λg w=>k (g x0) (g x1) (g x2) (g x3) (g x4) (g x5) (g x6) (g x7) (g x8) (g x9) (g x10) (g x11) w
abbrev aYP(k:K13)(x0 x1 x2 x3 x4 x5 x6 x7 x8 x9 x10 x11 x12:Nat):Env->a7B->Prop:=λg w=>k (g x0) (g x1) (g x2) (g x3) (g x4) (g x5) (g x6) (g x7) (g x8) (g x9) (g x10) (g x11) (g x12) w
abbrev aU4 (k:K14)(x0 x1 x2 x3 x4 x5 x6 x7 x8 x9 x10 x11 x12 x13:Nat):Env->a7B->Prop:=λg w=>k (g x0) (g x1) (g x2) (g x3) (g x4) (g x5) (g x6) (g x7) (g x8) (g x9) (g x10) (g x11) (g x12) (g x13) w
theorem tt(p:Prop)(h:p):True:=trivial
abbrev PT(_:Prop):Type:=Prop
abbrev nG:K1:=λ_ _=>False
def gP(rs:List ResultVar)(R:K1):Env->a7B->Prop:=λg w=>rsE pg rs g w λvs=>R (tup vs) w
abbrev DT:=(Code->Code)->(Env->a7B->Prop)->List (Nat×(Env->a7B->Prop))->K1->Env->a7B->Prop
theorem ev{t X:Prop}(h:t=X:=by dsimp only[aO,bP,nA,Nat.reduceAdd,S4,↓aMD,↓aME,↓aIu,↓aIt,aSY,aSV,aSU,aSR,aSS,aST,aSZ,aS0,aSW,aSX,↓aPX,↓aPU,↓aPW,↓aPV,↓aMM,↓aMN,↓aMQ,↓aMR,↓aFJ,↓aCM,↓aIs,↓aCO,↓Wv,↓aFG,↓aCV,↓ahI,↓aCN,↓aFK,↓aqD,↓Bj,↓ML,↓ahH,↓aqF,↓Zo,↓aCU,↓Zm,↓aCQ,↓Zn,↓aCR,↓aAG,↓Zp,↓aAF,↓aCT,↓aFI,↓aCP,↓aqE,↓aCS,↓aFH,↓aAE,↓aFF,↓aMP,↓aMO,↓aP7,↓aP9,↓aP8,↓aPY,↓aPZ,↓aPJ,↓aPH,↓aPI,↓aP5,↓aP6,↓aQc,↓aQd,↓aQa,↓aQb,↓aQe,↓aM7,↓aM8,↓aM9,↓aNa,↓aM3,↓aM4,↓aM5,↓aM6,↓aMK,↓aML,↓aMI,↓aMJ,↓aMU,↓aMV,↓aMW,↓aMS,↓aMT,↓aP1,↓aP3,↓aP0,↓aP2,↓aP4,↓aM1,↓aM2,↓aM0,↓aMG,↓aMH,↓aMF,↓aPP,↓aPK,↓aPL,↓aPT,↓aPN,↓aPM,↓aPR,↓aPQ,↓aPO,↓aPS,↓aMY,↓aMZ,↓aMX,↓aQh,↓aQi,↓aQf,↓aQg,aMD,aME,aIu,aIt,aPX,aPU,aPW,aPV,aMM,aMN,aMQ,aMR,aFJ,aCM,aIs,aCO,Wv,aFG,aCV,ahI,aCN,aFK,aqD,Bj,ML,ahH,aqF,Zo,aCU,Zm,aCQ,Zn,aCR,aAG,Zp,aAF,aCT,aFI,aCP,aqE,aCS,aFH,aAE,aFF,aMP,aMO,aP7,aP9,aP8,aPY,aPZ,aPJ,aPH,aPI,aP5,aP6,aQc,aQd,aQa,aQb,aQe,aM7,aM8,aM9,aNa,aM3,aM4,aM5,aM6,aMK,aML,aMI,aMJ,aMU,aMV,aMW,aMS,aMT,aP1,aP3,aP0,aP2,aP4,aM1,aM2,aM0,aMG,aMH,aMF,aPP,aPK,aPL,aPT,aPN,aPM,aPR,aPQ,aPO,aPS,aMY,aMZ,aMX,aQh,aQi,aQf,aQg,gP,tup,List.map,Option.map,aTE,no,Mq0,AN,vJ,kC,lX,nY,Aj,DZ,Mq8,Mq9,GF,aGM,aGN,aYP,aU4];exact rfl):t=X:=h
abbrev Ba:FuncId:=3
abbrev Rr:FuncId:=4
abbrev JK:FuncId:=5
abbrev MI:FuncId:=6
abbrev JL:FuncId:=7
abbrev UW:FuncId:=8
abbrev pL:FuncId:=9
abbrev Zj:FuncId:=10
abbrev CF:FuncId:=11
abbrev yO:FuncId:=12
abbrev nZ:FuncId:=13
abbrev A7:FuncId:=14
abbrev yS:FuncId:=15
abbrev A8:FuncId:=16
abbrev U1:FuncId:=17
abbrev Vh:FuncId:=18
abbrev RE:FuncId:=19
abbrev U2:FuncId:=20
abbrev nT:FuncId:=21
abbrev yP:FuncId:=22
abbrev wI:FuncId:=23
abbrev UX:FuncId:=24
abbrev BP:FuncId:=25
abbrev yQ:FuncId:=26
abbrev qC:FuncId:=27
abbrev MH:FuncId:=28
abbrev DR:FuncId:=29
abbrev RG:FuncId:=30
abbrev Vb:FuncId:=31
abbrev Vg:FuncId:=32
abbrev Zi:FuncId:=33
abbrev Rt:FuncId:=34
abbrev amB:FuncId:=35
abbrev U3:FuncId:=36
abbrev Mu:FuncId:=37
abbrev yR:FuncId:=38
abbrev DL:FuncId:=39
abbrev yT:FuncId:=40
abbrev JM:FuncId:=41
abbrev aCF:FuncId:=42
abbrev Va:FuncId:=43
abbrev RA:FuncId:=44
abbrev U9:FuncId:=45
abbrev MC:FuncId:=46
abbrev JQ:FuncId:=47
abbrev MF:FuncId:=48
abbrev Vf:FuncId:=49
abbrev Qc:FuncId:=50
abbrev Iq:FuncId:=51
abbrev RD:FuncId:=52
abbrev LV:FuncId:=53
abbrev LU:FuncId:=54
abbrev MG:FuncId:=55
abbrev JP:FuncId:=56
abbrev JN:FuncId:=57
abbrev Hs:FuncId:=58
abbrev Ro:FuncId:=59
abbrev afH:FuncId:=60
abbrev Ai:FuncId:=61
abbrev DX:FuncId:=62
abbrev MA:FuncId:=63
abbrev MB:FuncId:=64
abbrev Ry:FuncId:=65
abbrev Ir:FuncId:=66
abbrev MD:FuncId:=67
abbrev ME:FuncId:=68
abbrev JR:FuncId:=69
abbrev Zf:FuncId:=70
abbrev U7:FuncId:=71
abbrev Ve:FuncId:=72
abbrev Rw:FuncId:=73
abbrev U4:FuncId:=74
abbrev DQ:FuncId:=75
abbrev Vd:FuncId:=76
abbrev DP:FuncId:=78
abbrev DN:FuncId:=79
abbrev DW:FuncId:=80
abbrev CG:FuncId:=81
abbrev CH:FuncId:=82
abbrev Ht:FuncId:=83
abbrev uC:FuncId:=84
abbrev Zd:FuncId:=85
abbrev DU:FuncId:=86
abbrev amA:FuncId:=87
abbrev rB:FuncId:=88
abbrev kJ:FuncId:=89
abbrev Hp:FuncId:=90
abbrev Zk:FuncId:=91
abbrev Vi:FuncId:=92
abbrev DY:FuncId:=93
abbrev sB:FuncId:=94
abbrev Rz:FuncId:=95
abbrev Ip:FuncId:=96
abbrev Zg:FuncId:=97
abbrev Rx:FuncId:=98
abbrev Zh:FuncId:=99
abbrev RC:FuncId:=100
abbrev U5:FuncId:=101
abbrev U8:FuncId:=102
abbrev U6:FuncId:=103
abbrev Ru:FuncId:=104
abbrev Mz:FuncId:=105
abbrev Vc:FuncId:=106
abbrev Hv:FuncId:=107
abbrev Hw:FuncId:=108
abbrev JS:FuncId:=109
abbrev Rq:FuncId:=110
abbrev Mv:FuncId:=111
abbrev RI:FuncId:=112
abbrev Hq:FuncId:=113
abbrev yN:FuncId:=114
abbrev UT:FuncId:=115
abbrev rC:FuncId:=116
abbrev Rv:FuncId:=117
abbrev Ze:FuncId:=118
abbrev Rs:FuncId:=119
abbrev Qb:FuncId:=120
abbrev JU:FuncId:=121
abbrev JO:FuncId:=122
abbrev Io:FuncId:=123
abbrev A9:FuncId:=124
abbrev UZ:FuncId:=125
abbrev UU:FuncId:=126
abbrev Hu:FuncId:=127
abbrev axF:FuncId:=128
abbrev RH:FuncId:=129
abbrev Zb:FuncId:=130
abbrev Zc:FuncId:=131
abbrev DK:FuncId:=132
abbrev A5:FuncId:=133
abbrev My:FuncId:=134
abbrev Mx:FuncId:=135
abbrev Hr:FuncId:=136
abbrev A6:FuncId:=137
abbrev Mw:FuncId:=138
abbrev UY:FuncId:=139
abbrev DO:FuncId:=141
abbrev BQ:FuncId:=142
abbrev MJ:FuncId:=143
abbrev U0:FuncId:=144
abbrev JT:FuncId:=145
abbrev DV:FuncId:=146
abbrev N0 (Q:Exit->Env->a7B->Prop)(k:K0):Prop:=∀g w,k w->Q .normal g w
abbrev E0 (Q:Exit->Env->a7B->Prop)(k:K0)(x0:Nat):Prop:=∀g w,k w->Q (.exit x0) g w
abbrev N1 (Q:Exit->Env->a7B->Prop)(k:K1)(a_:Nat):Prop:=∀g w,k (g a_) w->Q .normal g w
abbrev E1 (Q:Exit->Env->a7B->Prop)(k:K1)(x0:Nat)(a_:Nat):Prop:=∀g w,k (g a_) w->Q (.exit x0) g w
abbrev N2 (Q:Exit->Env->a7B->Prop)(k:K2)(a_ b_:Nat):Prop:=∀g w,k (g a_) (g b_) w->Q .normal g w
abbrev E2 (Q:Exit->Env->a7B->Prop)(k:K2)(x0:Nat)(a_ b_:Nat):Prop:=∀g w,k (g a_) (g b_) w->Q (.exit x0) g w
abbrev N3 (Q:Exit->Env->a7B->Prop)(k:K3)(a_ b_ c_:Nat):Prop:=∀g w,k (g a_) (g b_) (g c_) w->Q .normal g w
abbrev E3 (Q:Exit->Env->a7B->Prop)(k:K3)(x0:Nat)(a_ b_ c_:Nat):Prop:=∀g w,k (g a_) (g b_) (g c_) w->Q (.exit x0) g w
abbrev N4 (Q:Exit->Env->a7B->Prop)(k:K4)(a_ b_ c_ d_:Nat):Prop:=∀g w,k (g a_) (g b_) (g c_) (g d_) w->Q .normal g w
abbrev E4 (Q:Exit->Env->a7B->Prop)(k:K4)(x0:Nat)(a_ b_ c_ d_:Nat):Prop:=∀g w,k (g a_) (g b_) (g c_) (g d_) w->Q (.exit x0) g w
abbrev N5 (Q:Exit->Env->a7B->Prop)(k:K5)(a_ b_ c_ d_ e_:Nat):Prop:=∀g w,k (g a_) (g b_) (g c_) (g d_) (g e_) w->Q .normal g w
abbrev E5 (Q:Exit->Env->a7B->Prop)(k:K5)(x0:Nat)(a_ b_ c_ d_ e_:Nat):Prop:=∀g w,k (g a_) (g b_) (g c_) (g d_) (g e_) w->Q (.exit x0) g w
abbrev N6 (Q:Exit->Env->a7B->Prop)(k:K6)(a_ b_ c_ d_ e_ f_:Nat):Prop:=∀g w,k (g a_) (g b_) (g c_) (g d_) (g e_) (g f_) w->Q .normal g w
abbrev E6 (Q:Exit->Env->a7B->Prop)(k:K6)(x0:Nat)(a_ b_ c_ d_ e_ f_:Nat):Prop:=∀g w,k (g a_) (g b_) (g c_) (g d_) (g e_) (g f_) w->Q (.exit x0) g w
abbrev N7 (Q:Exit->Env->a7B->Prop)(k:K7)(a_ b_ c_ d_ e_ f_ g_:Nat):Prop:=∀g w,k (g a_) (g b_) (g c_) (g d_) (g e_) (g f_) (g g_) w->Q .normal g w
abbrev E7 (Q:Exit->Env->a7B->Prop)(k:K7)(x0:Nat)(a_ b_ c_ d_ e_ f_ g_:Nat):Prop:=∀g w,k (g a_) (g b_) (g c_) (g d_) (g e_) (g f_) (g g_) w->Q (.exit x0) g w
abbrev N8 (Q:Exit->Env->a7B->Prop)(k:K8)(a_ b_ c_ d_ e_ f_ g_ h_:Nat):Prop:=∀g w,k (g a_) (g b_) (g c_) (g d_) (g e_) (g f_) (g g_) (g h_) w->Q .normal g w
abbrev E8 (Q:Exit->Env->a7B->Prop)(k:K8)(x0:Nat)(a_ b_ c_ d_ e_ f_ g_ h_:Nat):Prop:=∀g w,k (g a_) (g b_) (g c_) (g d_) (g e_) (g f_) (g g_) (g h_) w->Q (.exit x0) g w
abbrev N9 (Q:Exit->Env->a7B->Prop)(k:K9)(a_ b_ c_ d_ e_ f_ g_ h_ i_:Nat):Prop:=∀g w,k (g a_) (g b_) (g c_) (g d_) (g e_) (g f_) (g g_) (g h_) (g i_) w->Q .normal g w
abbrev E9 (Q:Exit->Env->a7B->Prop)(k:K9)(x0:Nat)(a_ b_ c_ d_ e_ f_ g_ h_ i_:Nat):Prop:=∀g w,k (g a_) (g b_) (g c_) (g d_) (g e_) (g f_) (g g_) (g h_) (g i_) w->Q (.exit x0) g w
abbrev N10 (Q:Exit->Env->a7B->Prop)(k:K10)(a_ b_ c_ d_ e_ f_ g_ h_ i_ j_:Nat):Prop:=∀g w,k (g a_) (g b_) (g c_) (g d_) (g e_) (g f_) (g g_) (g h_) (g i_) (g j_) w->Q .normal g w
abbrev E10 (Q:Exit->Env->a7B->Prop)(k:K10)(x0:Nat)(a_ b_ c_ d_ e_ f_ g_ h_ i_ j_:Nat):Prop:=∀g w,k (g a_) (g b_) (g c_) (g d_) (g e_) (g f_) (g g_) (g h_) (g i_) (g j_) w->Q (.exit x0) g w
abbrev a7D (n_:Int):a7C:= .int .i64 n_
end Go.Proofs.YthohephggmkeeaaGreatDoor
namespace Go.Proofs.YthohephggmkeeaaGreatDoor
open Go Go.En
set_option maxRecDepth 20000
attribute [local irreducible] Go.En.bQ
variable (Q : Exit -> Env -> a7B -> Prop) (g : Env) (w : a7B)
def wN:FA:=nA Ba
def Ac:List ResultVar:=[.tmp 6]
noncomputable def EE:Code:=aO Tryz.f3
def D3:DT:=bP pg wN EE Tryz.f3 (gP Ac)
def JA(R:K1) bJ zP dY w:=
 (?X:PT (type_of%(tt (D3 (λc=>c) no [] R (El [0,1,2] [bJ,zP,dY]) w= ?X) (by unfold D3 Tryz.f3 Ac wN;exact ev))))
def QM a0 a1 a2 w(R:K1):=
 JA R a0 a1 a2 w
theorem VJ{a0 a1 a2 w R}(h:QM a0 a1 a2 w R):aL pg Ba #[a0,a1,a2] w R:=
 gF (ann:=wN) Tryz.f3 EE [a0,a1,a2] Ac 76 TryzM.mixed Tryz.func3 (gI h bH)
def JY:FA:=nA Rr
def Pg:List ResultVar:=[.tmp 0]
noncomputable def Tr:Code:=aO Tryz.f4
def D4:DT:=bP pg JY Tr Tryz.f4 (gP Pg)
def aaD(R:K1) w:=
 (?X:PT (type_of%(tt (D4 (λc=>c) no [] R (El [] []) w= ?X) (by unfold D4 Tryz.f4 Pg JY;exact ev))))
def aAX w(R:K1):=
 aaD R w
theorem ayN{w R}(h:aAX w R):aL pg Rr #[] w R:=
 gF (ann:=JY) Tryz.f4 Tr [] Pg 59 TryzM.mixed Tryz.func4 (gI h bH)
def D1:FA:=nA JK
def HV:List ResultVar:=[.tmp 6,.tmp 7]
noncomputable def Nb:Code:=aO Tryz.f5
def D5:DT:=bP pg D1 Nb Tryz.f5 (gP HV)
def TE(R:K1) bJ zP dY w:=
 (?X:PT (type_of%(tt (D5 (λc=>c) no [] R (El [0,1,2] [bJ,zP,dY]) w= ?X) (by unfold D5 Tryz.f5 HV D1;exact ev))))
def ahZ a0 a1 a2 w(R:K1):=
 TE R a0 a1 a2 w
theorem amM{a0 a1 a2 w R}(h:ahZ a0 a1 a2 w R):aL pg JK #[a0,a1,a2] w R:=
 gF (ann:=D1) Tryz.f5 Nb [a0,a1,a2] HV 24 TryzM.mixed Tryz.func5 (gI h bH)
def gM:FA:=⟨MI,λi=>match Nat.beq i 14 with|true=> .leaf ([],[]) (fz 6 [])|false=> .leaf ([],[]) []⟩
def nN:List ResultVar:=[.tmp 6,.tmp 7,.tmp 8,.tmp 9]
noncomputable def mY:Code:=aO Tryz.f6
def D6:DT:=bP pg gM mY Tryz.f6 (gP nN)
def Li(R:K1) OB tJ Ag w:=
 R (.tuple #[OB,tJ,Ag,(a7D 0)]) w
def Yv(kn:K6)(k2:K3)(R:K1) bJ dY eM OB tJ Ag w:=
 (?X:PT (type_of%(tt (D6 (λc=>(bI (bI (aD 1 (aA 3 (aA 1 (aA 3 c))))))) (Aj kn 0 2 10 12 13 14) [(2,(kC k2 12 13 14))] R (El [0,2,10,12,13,14] [bJ,dY,eM,OB,tJ,Ag]) w= ?X) (by unfold D6 Tryz.f6 nN gM;exact ev))))
def Ct(k2:K3)(R:K1) bJ dY eM OB tJ Ag w:=
 aN (λ(X:(a7C×a7C×a7C×a7C)->K0) (t:a7C×a7C×a7C×a7C) (w:a7B)=>Yv (λbJ _ _ OB tJ Ag w=>X (bJ,OB,tJ,Ag) w) k2 R t.1 dY eM t.2.1 t.2.2.1 t.2.2.2 w) (bJ,OB,tJ,Ag) w
theorem aoZ(k2:K3)(R:K1)(h2:E3 Q k2 2 12 13 14)(hr:HR nN R Q)(h:Ct k2 R (g 0) (g 2) (g 10) (g 12) (g 13) (g 14) w):bQ pg gM (bI (aD 1 (aA 3 (aA 1 (aA 3 mY))))) Q g w:=by
 refine qO (λg:Env=>(g 0,g 12,g 13,g 14)) _ h (λX g1 w1 ha hL=> ?_);rw[<-bG 2 ha,<-bG 10 ha]at hL;exact(pV [(2,(kC k2 12 13 14))] (Aj (λbJ _ _ OB tJ Ag w=>X (bJ,OB,tJ,Ag) w) 0 2 10 12 13 14) hL bH hr ⟨h2,trivial⟩)
def Lj(R:K1) bJ dY eM OB tJ Ag w:=
 Ct (Li R) R bJ dY eM OB tJ Ag w
theorem apA(kn:K3)(R:K1)(hn:N3 Q kn 12 13 14)(hr:HR nN R Q)(h:Ct kn R (g 0) (g 2) (g 10) (g 12) (g 13) (g 14) w):bQ pg gM (aD 1 (aA 3 (aA 1 (aA 3 mY)))) Q g w:=
 jP 2 (aoZ _ g w kn R hn hr h)
def Yw(kn:K6) bJ dY eM w:=
 kn bJ dY eM (.string ⟨#[]⟩) (a7D 0) (a7D 0) w
def Cu(R:K1) bJ dY eM w:=
 Yw (Lj R) bJ dY eM w
def Yx(kn:K5)(k0:K3) bJ zP dY eM anC w:=
 (?X:PT (type_of%(tt (D6 (λc=>(bI (bI (aA 1 (aD 1 (aA 3 c)))))) (nY kn 0 1 2 10 11) [(0,(kC k0 0 2 10))] nG (El [0,1,2,10,11] [bJ,zP,dY,eM,anC]) w= ?X) (by unfold D6 Tryz.f6 nN gM;exact ev))))
def Cv(k0:K3) bJ zP dY eM anC w:=
 aN (λ(X:(a7C×a7C)->K0) (t:a7C×a7C) (w:a7B)=>Yx (λ_ _ _ eM anC w=>X (eM,anC) w) k0 bJ zP dY t.1 t.2 w) (eM,anC) w
theorem apC(k0:K3)(h0:E3 Q k0 0 0 2 10)(h:Cv k0 (g 0) (g 1) (g 2) (g 10) (g 11) w):bQ pg gM (bI (aA 1 (aD 1 (aA 3 mY)))) Q g w:=by
 refine qO (λg:Env=>(g 10,g 11)) _ h (λX g1 w1 ha hL=> ?_);rw[<-bG 0 ha,<-bG 1 ha,<-bG 2 ha]at hL;exact(pV [(0,(kC k0 0 2 10))] (kr:=no) (nY (λ_ _ _ eM anC w=>X (eM,anC) w) 0 1 2 10 11) hL bH sL ⟨h0,trivial⟩)
def Ut(kn:K5) bJ zP dY eM w:=
 kn bJ zP dY eM (a7D 0) w
def HS(kn:K3) bJ zP dY eM w:=
 Ut (Cv kn) bJ zP dY eM w
def HU(R:K1) bJ zP dY eM w:=
 HS (Cu R) bJ zP dY eM w
theorem agR(kn:K3)(hn:N3 Q kn 0 2 10)(h:HS kn (g 0) (g 1) (g 2) (g 10) w):bQ pg gM (aD 1 (aA 3 mY)) Q g w:=
 bC 1 (dP (nY (Cv kn) 0 1 2 10 11) h (λg w h=>aC (jP 0 (apC _ g w kn hn h))))
def Uu(kn:K4)(R:K1) bJ zP dY w:=
 (?X:PT (type_of%(tt (D6 (λc=>(aD 3 c)) (lX kn 0 1 2 10) [] R (El [0,1,2] [bJ,zP,dY]) w= ?X) (by unfold D6 Tryz.f6 nN gM;exact ev))))
def Uv(R:K1) bJ zP dY w:=
 Uu (HU R) R bJ zP dY w
def avU a0 a1 a2 w(R:K1):=
 Uv R a0 a1 a2 w
theorem avV{a0 a1 a2 w R}(h:avU a0 a1 a2 w R):aL pg MI #[a0,a1,a2] w R:=
 gF (ann:=gM) Tryz.f6 mY [a0,a1,a2] nN 106 TryzM.mixed Tryz.func6 (bC 3 (vT (lX (HU R) 0 1 2 10) h (λg w h=>aC (bC 1 (agR _ g w (Cu R) (λg w h=>aC (bC 3 (dP (Aj (Lj R) 0 2 10 12 13 14) h (λg w h=>aC (bC 1 (apA _ g w (Li R) R (λg w h=>aC (gI h bH)) bH h)))))) h))) bH))
def D2:FA:=⟨JL,λi=>match Nat.beq i 4 with|true=> .leaf ([],[]) (fz 11 [])|false=> .leaf ([],[]) []⟩
def HW:List ResultVar:=[.tmp 6,.tmp 7,.tmp 8]
noncomputable def Nc:Code:=aO Tryz.f7
def D7:DT:=bP pg D2 Nc Tryz.f7 (gP HW)
def TF(R:K1) bJ zP dY w:=
 (?X:PT (type_of%(tt (D7 (λc=>c) no [] R (El [0,1,2] [bJ,zP,dY]) w= ?X) (by unfold D7 Tryz.f7 HW D2;exact ev))))
def aiA a0 a1 a2 w(R:K1):=
 TF R a0 a1 a2 w
theorem amN{a0 a1 a2 w R}(h:aiA a0 a1 a2 w R):aL pg JL #[a0,a1,a2] w R:=
 gF (ann:=D2) Tryz.f7 Nc [a0,a1,a2] HW 29 TryzM.mixed Tryz.func7 (gI h bH)
def pM:FA:=⟨UW,λi=>match Nat.beq i 3 with|true=>lf (fz 1 (ft [] (fz 1 (fu [1] (fz 2 (ft [] (fz 1 [])))))))|false=> .leaf ([],[]) []⟩
def sG:List ResultVar:=[.tmp 6,.tmp 7]
noncomputable def BV:Code:=aO Tryz.f8
def D8:DT:=bP pg pM BV Tryz.f8 (gP sG)
def RY(R:K1) s_8 w:=
 R (.tuple #[s_8,(a7D 0)]) w
def Br(kn:K1)(R:K1) s_8 aXy w:=
 bF pg (bZ .neq 24 (.tmp 64) (.const (a7D 0)) aXy (a7D 0)) w λj5 w=>
 JJ j5
  (R (.tuple #[(.pointer none),aXy]) w)
  (kn s_8 w)
def aiB(kn:K2)(R:K1) s_8 w:=
 (?X:PT (type_of%(tt (D8 (λc=>(aD 4 (bI (aA 1 (bI (bI (aD 1 (aA 3 c)))))))) (vJ kn 8 10) [] R (El [8] [s_8]) w= ?X) (by unfold D8 Tryz.f8 sG pM;exact ev))))
def RZ(kn:K1)(R:K1) s_8 w:=
 aiB (Br kn R) R s_8 w
def aiC(kn:K1)(k0:K1) s_8 w:=
 (?X:PT (type_of%(tt (D8 (λc=>(aD 1 (bI (bI (aD 1 (aA 3 c)))))) (AN kn 8) [(0,(AN k0 8))] nG (El [8] [s_8]) w= ?X) (by unfold D8 Tryz.f8 sG pM;exact ev))))
def aiD(kn:K1)(k0:K1)(R:K1) s_8 w:=
 aiC (RZ kn R) k0 s_8 w
def Iu(k0:K1)(R:K1) s_8 w:=
 aN (λ(X:Unit->K0) (t:Unit) (w:a7B)=>aiD (λ_ w=>X () w) k0 R s_8 w) () w
theorem axS(k0:K1)(R:K1)(h0:E1 Q k0 0 8)(hr:HR sG R Q)(h:Iu k0 R (g 8) w):bQ pg pM (bI (aD 1 (aA 3 BV))) Q g w:=by
 refine qO (λ_:Env=>()) _ h (λX g1 w1 ha hL=> ?_);rw[<-bG 8 ha]at hL;exact(bC 1 (pV [(0,(AN k0 8))] (kr:=no) (AN (RZ (λ_ w=>X () w) R) 8) hL (λg w h=>aC (jP 1 (bC 4 (vT (vJ (Br (λ_ w=>X () w) R) 8 10) h (λg w h=>aC (vT (AN (λ_ w=>X () w) 8) h bH hr)) hr)))) sL ⟨h0,trivial⟩))
def EL(R:K1) s_8 w:=
 Iu (RY R) R s_8 w
theorem axT(kn:K1)(R:K1)(hn:N1 Q kn 8)(hr:HR sG R Q)(h:Iu kn R (g 8) w):bQ pg pM (aD 1 (aA 3 BV)) Q g w:=
 jP 0 (axS _ g w kn R hn hr h)
def ZK(kn:K1)(R:K1) bJ zP dY w:=
 (?X:PT (type_of%(tt (D8 (λc=>(aD 3 c)) (AN kn 8) [] R (El [0,1,2] [bJ,zP,dY]) w= ?X) (by unfold D8 Tryz.f8 sG pM;exact ev))))
def ZL(R:K1) bJ zP dY w:=
 ZK (EL R) R bJ zP dY w
def aDi a0 a1 a2 w(R:K1):=
 ZL R a0 a1 a2 w
theorem aBC{a0 a1 a2 w R}(h:aDi a0 a1 a2 w R):aL pg UW #[a0,a1,a2] w R:=
 gF (ann:=pM) Tryz.f8 BV [a0,a1,a2] sG 68 TryzM.mixed Tryz.func8 (bC 3 (vT (AN (EL R) 8) h (λg w h=>aC (bC 1 (axT _ g w (RY R) R (λg w h=>aC (gI h bH)) bH h))) bH))
def lG:FA:=nA pL
def vW:List ResultVar:=[.cell 4 40,.tmp 5]
noncomputable def xG:Code:=aO Tryz.f9
def D9:DT:=bP pg lG xG Tryz.f9 (gP vW)
def Km(R:K1) r_2 b4 P5 w:=
 bF pg (cK 40 r_2) w λf4 w=>
 bF pg (dL 40 b4 f4) w λ_u w=>
 LdR pg 40 b4 w λr0=>R (.tuple #[r0,P5]) w
def Xs(kn:K6)(k0:K3) r_2 b4 s_6 P5 m_8 i_9 w:=
 (?X:PT (type_of%(tt (D9 (λc=>(bI (bI (aA 1 (aD 1 (aA 3 (aA 2 c))))))) (Aj kn 2 4 6 7 8 9) [(0,(kC k0 2 4 7))] nG (El [2,4,6,7,8,9] [r_2,b4,s_6,P5,m_8,i_9]) w= ?X) (by unfold D9 Tryz.f9 vW lG;exact ev))))
def B7 (k0:K3) r_2 b4 s_6 P5 m_8 i_9 w:=
 aN (λ(X:(a7C×a7C×a7C)->K0) (t:a7C×a7C×a7C) (w:a7B)=>Xs (λ_ _ _ P5 m_8 i_9 w=>X (P5,m_8,i_9) w) k0 r_2 b4 s_6 t.1 t.2.1 t.2.2 w) (P5,m_8,i_9) w
theorem anP(k0:K3)(h0:E3 Q k0 0 2 4 7)(h:B7 k0 (g 2) (g 4) (g 6) (g 7) (g 8) (g 9) w):bQ pg lG (bI (aA 1 (aD 1 (aA 3 (aA 2 xG))))) Q g w:=by
 refine qO (λg:Env=>(g 7,g 8,g 9)) _ h (λX g1 w1 ha hL=> ?_);rw[<-bG 2 ha,<-bG 4 ha,<-bG 6 ha]at hL;exact(pV [(0,(kC k0 2 4 7))] (kr:=no) (Aj (λ_ _ _ P5 m_8 i_9 w=>X (P5,m_8,i_9) w) 2 4 6 7 8 9) hL bH sL ⟨h0,trivial⟩)
def Xt(kn:K6) r_2 b4 s_6 P5 m_8 w:=
 kn r_2 b4 s_6 P5 m_8 (a7D 0) w
def Kn(kn:K3) r_2 b4 s_6 P5 m_8 w:=
 Xt (B7 kn) r_2 b4 s_6 P5 m_8 w
def Ko(R:K1) r_2 b4 s_6 P5 m_8 w:=
 Kn (Km R) r_2 b4 s_6 P5 m_8 w
theorem anQ(kn:K3)(hn:N3 Q kn 2 4 7)(h:Kn kn (g 2) (g 4) (g 6) (g 7) (g 8) w):bQ pg lG (aD 1 (aA 3 (aA 2 xG))) Q g w:=
 bC 1 (dP (Aj (B7 kn) 2 4 6 7 8 9) h (λg w h=>aC (jP 0 (anP _ g w kn hn h))))
def Xu(kn:K5) lL r_2 b4 w:=
 (?X:PT (type_of%(tt (D9 (λc=>(aD 3 (aA 2 c))) (nY kn 2 4 6 7 8) [] nG (El [1,2,4] [lL,r_2,b4]) w= ?X) (by unfold D9 Tryz.f9 vW lG;exact ev))))
def B8 (R:K1) lL r_2 b4 w:=
 Xu (Ko R) lL r_2 b4 w
def Ui(kn:K3) Ah lL w:=
 (?X:PT (type_of%(tt (D9 (λc=>(aD 2 c)) (kC kn 1 2 4) [] nG (El [0,1] [Ah,lL]) w= ?X) (by unfold D9 Tryz.f9 vW lG;exact ev))))
def Uj(R:K1) Ah lL w:=
 Ui (B8 R) Ah lL w
def atH a0 a1 w(R:K1):=
 Uj R a0 a1 w
theorem atJ{a0 a1 w R}(h:atH a0 a1 w R):aL pg pL #[a0,a1] w R:=
 gF (ann:=lG) Tryz.f9 xG [a0,a1] vW 46 TryzM.mixed Tryz.func9 (bC 2 (dP (kC (B8 R) 1 2 4) h (λg w h=>aC (bC 3 (dP (nY (Ko R) 2 4 6 7 8) h (λg w h=>aC (bC 1 (anQ _ g w (Km R) (λg w h=>aC (gI h bH)) h))))))))
def oL:FA:=⟨Zj,λi=>match Nat.beq i 22 with|true=> .leaf ([],[]) (fz 6 [])|false=>match Nat.beq i 26 with|true=> .leaf ([],[]) (fz 6 [])|false=> .leaf ([],[]) []⟩
def rT:List ResultVar:=[.tmp 8,.tmp 9,.tmp 10]
noncomputable def EH:Code:=aO Tryz.f10
def D10:DT:=bP pg oL EH Tryz.f10 (gP rT)
def AH(R:K1) bJ arQ w:=
 (?X:PT (type_of%(tt (D10 (λc=>(aA 2 (aA 1 (aA 7 c)))) no [] R (El [0,14] [bJ,arQ]) w= ?X) (by unfold D10 Tryz.f10 rT oL;exact ev))))
def avW(kn:K2)(R:K1) bJ aG8 arQ w:=
 (?X:PT (type_of%(tt (D10 (λc=>(aD 2 (aA 1 (aA 7 c)))) (vJ kn 0 14) [] R (El [0,11,14] [bJ,aG8,arQ]) w= ?X) (by unfold D10 Tryz.f10 rT oL;exact ev))))
def Mj(R:K1) bJ aG8 arQ w:=
 avW (AH R) R bJ aG8 arQ w
def avX(kn:K6)(k0:K3)(R:K1) bJ dY VL aG8 arQ L7 w:=
 (?X:PT (type_of%(tt (D10 (λc=>(bI (bI (aD 1 (aA 7 c))))) (Aj kn 0 2 3 11 14 15) [(0,(kC k0 0 11 14))] R (El [0,2,3,11,14,15] [bJ,dY,VL,aG8,arQ,L7]) w= ?X) (by unfold D10 Tryz.f10 rT oL;exact ev))))
def Mk(k0:K3)(R:K1) bJ dY VL aG8 arQ L7 w:=
 aN (λ(X:(a7C×a7C)->K0) (t:a7C×a7C) (w:a7B)=>avX (λbJ _ _ _ _ L7 w=>X (bJ,L7) w) k0 R t.1 dY VL aG8 arQ t.2 w) (bJ,L7) w
theorem aCk(k0:K3)(R:K1)(h0:E3 Q k0 0 0 11 14)(hr:HR rT R Q)(h:Mk k0 R (g 0) (g 2) (g 3) (g 11) (g 14) (g 15) w):bQ pg oL (bI (aD 1 (aA 7 EH))) Q g w:=by
 refine qO (λg:Env=>(g 0,g 15)) _ h (λX g1 w1 ha hL=> ?_);rw[<-bG 2 ha,<-bG 3 ha,<-bG 11 ha,<-bG 14 ha]at hL;exact(pV [(0,(kC k0 0 11 14))] (Aj (λbJ _ _ _ _ L7 w=>X (bJ,L7) w) 0 2 3 11 14 15) hL bH hr ⟨h0,trivial⟩)
def F4 (R:K1) bJ dY VL aG8 arQ L7 w:=
 Mk (Mj R) R bJ dY VL aG8 arQ L7 w
theorem aCl(kn:K3)(R:K1)(hn:N3 Q kn 0 11 14)(hr:HR rT R Q)(h:Mk kn R (g 0) (g 2) (g 3) (g 11) (g 14) (g 15) w):bQ pg oL (aD 1 (aA 7 EH)) Q g w:=
 jP 0 (aCk _ g w kn R hn hr h)
def avY(kn:K6)(R:K1) bJ aE5 dY VL w:=
 (?X:PT (type_of%(tt (D10 (λc=>(aD 7 c)) (Aj kn 0 2 3 11 14 15) [] R (El [0,1,2,3] [bJ,aE5,dY,VL]) w= ?X) (by unfold D10 Tryz.f10 rT oL;exact ev))))
def avZ(R:K1) bJ aE5 dY VL w:=
 avY (F4 R) R bJ aE5 dY VL w
def aGt a0 a1 a2 a3 w(R:K1):=
 avZ R a0 a1 a2 a3 w
theorem aEE{a0 a1 a2 a3 w R}(h:aGt a0 a1 a2 a3 w R):aL pg Zj #[a0,a1,a2,a3] w R:=
 gF (ann:=oL) Tryz.f10 EH [a0,a1,a2,a3] rT 125 TryzM.mixed Tryz.func10 (bC 7 (vT (Aj (F4 R) 0 2 3 11 14 15) h (λg w h=>aC (bC 1 (aCl _ g w (Mj R) R (λg w h=>aC (bC 2 (vT (vJ (AH R) 0 14) h (λg w h=>aC (gI h bH)) bH))) bH h))) bH))
def Zr:FA:=nA CF
def agS:List ResultVar:=[.tmp 2]
noncomputable def YK:Code:=aO Tryz.f11
def Lz(R:K1) bJ w:=
 aL pg nT #[bJ] w λb4 w=>
 bF pg (dK 68 [(0,b4)]) w λb5 w=>
 bF pg (aKd 68 b5) w λb6 w=>
 R b6 w
def Tz a0 w(R:K1):=
 Lz R a0 w
theorem YL{a0 w R}(h:Tz a0 w R):aL pg CF #[a0] w R:=
 gF (ann:=Zr) Tryz.f11 YK [a0] agS 7 TryzM.mixed Tryz.func11 (gI h bH)
def uG:FA:=nA yO
def wW:List ResultVar:=[.tmp 2]
noncomputable def Dm:Code:=aO Tryz.f12
def D12:DT:=bP pg uG Dm Tryz.f12 (gP wW)
def G3 (R:K1) Ah w:=
 (?X:PT (type_of%(tt (D12 (λc=>c) no [] R (El [0] [Ah]) w= ?X) (by unfold D12 Tryz.f12 wW uG;exact ev))))
def Nm a0 w(R:K1):=
 G3 R a0 w
theorem TA{a0 w R}(h:Nm a0 w R):aL pg yO #[a0] w R:=
 gF (ann:=uG) Tryz.f12 Dm [a0] wW 10 TryzM.mixed Tryz.func12 (gI h bH)
def dV:FA:=nA nZ
def jH:List ResultVar:=[.tmp 4]
noncomputable def kT:Code:=aO Tryz.f13
def D13:DT:=bP pg dV kT Tryz.f13 (gP jH)
def tE(R:K1) x_5 w:=
 R x_5 w
def Ds(kn:K4)(k0:K1) x_5 c8 c9 d0 w:=
 (?X:PT (type_of%(tt (D13 (λc=>(bI (bI (aA 1 (aD 1 (aA 3 c)))))) (lX kn 5 18 19 20) [(0,(AN k0 5))] nG (El [5,18,19,20] [x_5,c8,c9,d0]) w= ?X) (by unfold D13 Tryz.f13 jH dV;exact ev))))
def nE(k0:K1) x_5 c8 c9 d0 w:=
 aN (λ(X:(a7C×a7C)->K0) (t:a7C×a7C) (w:a7B)=>Ds (λx_5 _ _ d0 w=>X (x_5,d0) w) k0 t.1 c8 c9 t.2 w) (x_5,d0) w
theorem Nn(k0:K1)(h0:E1 Q k0 0 5)(h:nE k0 (g 5) (g 18) (g 19) (g 20) w):bQ pg dV (bI (aA 1 (aD 1 (aA 3 kT)))) Q g w:=by
 refine qO (λg:Env=>(g 5,g 20)) _ h (λX g1 w1 ha hL=> ?_);rw[<-bG 18 ha,<-bG 19 ha]at hL;exact(pV [(0,(AN k0 5))] (kr:=no) (lX (λx_5 _ _ d0 w=>X (x_5,d0) w) 5 18 19 20) hL bH sL ⟨h0,trivial⟩)
def Dt(kn:K4) Ah lL x_5 w:=
 (?X:PT (type_of%(tt (D13 (λc=>(aD 1 (aD 1 (aA 3 c)))) (lX kn 5 18 19 20) [] nG (El [0,1,5] [Ah,lL,x_5]) w= ?X) (by unfold D13 Tryz.f13 jH dV;exact ev))))
def tF(kn:K1) Ah lL x_5 w:=
 Dt (nE kn) Ah lL x_5 w
def tG(R:K1) Ah lL x_5 w:=
 tF (tE R) Ah lL x_5 w
theorem No(kn:K1)(hn:N1 Q kn 5)(h:tF kn (g 0) (g 1) (g 5) w):bQ pg dV (aD 1 (aA 3 kT)) Q g w:=
 bC 1 (dP (lX (nE kn) 5 18 19 20) h (λg w h=>aC (jP 0 (Nn _ g w kn hn h))))
def Du(kn:K3)(R:K1) Ah lL w:=
 (?X:PT (type_of%(tt (D13 (λc=>(aD 3 c)) (kC kn 0 1 5) [] R (El [0,1] [Ah,lL]) w= ?X) (by unfold D13 Tryz.f13 jH dV;exact ev))))
def Dv(R:K1) Ah lL w:=
 Du (tG R) R Ah lL w
def Jj a0 a1 w(R:K1):=
 Dv R a0 a1 w
theorem Qa{a0 a1 w R}(h:Jj a0 a1 w R):aL pg nZ #[a0,a1] w R:=
 gF (ann:=dV) Tryz.f13 kT [a0,a1] jH 35 TryzM.mixed Tryz.func13 (bC 3 (vT (kC (tG R) 0 1 5) h (λg w h=>aC (bC 1 (No _ g w (tE R) (λg w h=>aC (gI h bH)) h))) bH))
def wL:FA:=nA A7
def Aa:List ResultVar:=[.tmp 2]
noncomputable def EC:Code:=aO Tryz.f14
def D14:DT:=bP pg wL EC Tryz.f14 (gP Aa)
def Ji(R:K1) Ah w:=
 (?X:PT (type_of%(tt (D14 (λc=>c) no [] R (El [0] [Ah]) w= ?X) (by unfold D14 Tryz.f14 Aa wL;exact ev))))
def Qw a0 w(R:K1):=
 Ji R a0 w
theorem Vw{a0 w R}(h:Qw a0 w R):aL pg A7 #[a0] w R:=
 gF (ann:=wL) Tryz.f14 EC [a0] Aa 9 TryzM.mixed Tryz.func14 (gI h bH)
def dQ:FA:=⟨yS,λi=>match Nat.beq i 1 with|true=>lf (fz 8 (ft [4,5,6] (ft [] (fz 1 []))))|false=>match Nat.beq i 6 with|true=> .leaf ([],[]) (fz 27 [])|false=> .leaf ([],[]) []⟩
def eC:List ResultVar:=[.tmp 2]
noncomputable def mW:Code:=aO Tryz.f15
def D15:DT:=bP pg dQ mW Tryz.f15 (gP eC)
def iE(R:K1) eQ MO w:=
 (?X:PT (type_of%(tt (D15 (λc=>(aA 2 (aA 1 (aA 8 (bI (aA 1 c)))))) no [] R (El [0,8] [eQ,MO]) w= ?X) (by unfold D15 Tryz.f15 eC dQ;exact ev))))
def G8 (kn:K2)(R:K1) eQ h_4 MO w:=
 (?X:PT (type_of%(tt (D15 (λc=>(aD 2 (aA 1 (aA 8 (bI (aA 1 c)))))) (vJ kn 0 8) [] R (El [0,4,8] [eQ,h_4,MO]) w= ?X) (by unfold D15 Tryz.f15 eC dQ;exact ev))))
def kW(R:K1) eQ h_4 MO w:=
 G8 (iE R) R eQ h_4 MO w
def G9 (kn:K4)(k0:K3)(R:K1) eQ h_4 g_7 MO w:=
 (?X:PT (type_of%(tt (D15 (λc=>(bI (bI (aD 1 (aA 8 (bI (aA 1 c))))))) (lX kn 0 4 7 8) [(0,(kC k0 0 4 8))] R (El [0,4,7,8] [eQ,h_4,g_7,MO]) w= ?X) (by unfold D15 Tryz.f15 eC dQ;exact ev))))
def qE(k0:K3)(R:K1) eQ h_4 g_7 MO w:=
 aN (λ(X:a7C->K0) (t:a7C) (w:a7B)=>G9 (λ_ _ _ MO w=>X MO w) k0 R eQ h_4 g_7 t w) MO w
theorem R0 (k0:K3)(R:K1)(h0:E3 Q k0 0 0 4 8)(hr:HR eC R Q)(h:qE k0 R (g 0) (g 4) (g 7) (g 8) w):bQ pg dQ (bI (aD 1 (aA 8 (bI (aA 1 mW))))) Q g w:=by
 refine qO (λg:Env=>g 8) _ h (λX g1 w1 ha hL=> ?_);rw[<-bG 0 ha,<-bG 4 ha,<-bG 7 ha]at hL;exact(pV [(0,(kC k0 0 4 8))] (lX (λ_ _ _ MO w=>X MO w) 0 4 7 8) hL bH hr ⟨h0,trivial⟩)
def kX(R:K1) eQ h_4 g_7 MO w:=
 qE (kW R) R eQ h_4 g_7 MO w
theorem R1 (kn:K3)(R:K1)(hn:N3 Q kn 0 4 8)(hr:HR eC R Q)(h:qE kn R (g 0) (g 4) (g 7) (g 8) w):bQ pg dQ (aD 1 (aA 8 (bI (aA 1 mW)))) Q g w:=
 jP 0 (R0 _ g w kn R hn hr h)
def Ha(kn:K4)(R:K1) eQ w:=
 (?X:PT (type_of%(tt (D15 (λc=>(aD 8 (bI (aA 1 c)))) (lX kn 0 4 7 8) [] R (El [0] [eQ]) w= ?X) (by unfold D15 Tryz.f15 eC dQ;exact ev))))
def wQ(R:K1) eQ w:=
 Ha (kX R) R eQ w
def EM(kn:K1) eQ w:=
 kn eQ w
def EN(R:K1) eQ w:=
 EM (wQ R) eQ w
def Ns a0 w(R:K1):=
 EN R a0 w
theorem TK{a0 w R}(h:Ns a0 w R):aL pg yS #[a0] w R:=
 gF (ann:=dQ) Tryz.f15 mW [a0] eC 125 TryzM.mixed Tryz.func15 (bC 1 (dP (AN (wQ R) 0) h (λg w h=>aC (scD (bC 8 (vT (lX (kX R) 0 4 7 8) h (λg w h=>aC (bC 1 (R1 _ g w (kW R) R (λg w h=>aC (bC 2 (vT (vJ (iE R) 0 8) h (λg w h=>aC (gI h bH)) bH))) bH h))) bH))))))
def wM:FA:=nA A8
def Ab:List ResultVar:=[.tmp 2]
noncomputable def ED:Code:=aO Tryz.f16
def D16:DT:=bP pg wM ED Tryz.f16 (gP Ab)
def Jk(R:K1) eQ w:=
 (?X:PT (type_of%(tt (D16 (λc=>c) no [] R (El [0] [eQ]) w= ?X) (by unfold D16 Tryz.f16 Ab wM;exact ev))))
def Qx a0 w(R:K1):=
 Jk R a0 w
theorem Vx{a0 w R}(h:Qx a0 w R):aL pg A8 #[a0] w R:=
 gF (ann:=wM) Tryz.f16 ED [a0] Ab 39 TryzM.mixed Tryz.func16 (gI h bH)
def MR:FA:=nA U1
def SP:List ResultVar:=[.cell 4 40,.tmp 5]
noncomputable def WC:Code:=aO Tryz.f17
def D17:DT:=bP pg MR WC Tryz.f17 (gP SP)
def ajL(R:K1) Ah lL w:=
 (?X:PT (type_of%(tt (D17 (λc=>c) no [] R (El [0,1] [Ah,lL]) w= ?X) (by unfold D17 Tryz.f17 SP MR;exact ev))))
def aEd a0 a1 w(R:K1):=
 ajL R a0 a1 w
theorem aBM{a0 a1 w R}(h:aEd a0 a1 w R):aL pg U1 #[a0,a1] w R:=
 gF (ann:=MR) Tryz.f17 WC [a0,a1] SP 33 TryzM.mixed Tryz.func17 (gI h bH)
def mL:FA:=⟨Vh,λi=>match Nat.beq i 4 with|true=>lf (fz 3 (ft [0,1] (fz 2 [])))|false=>match Nat.beq i 32 with|true=>lf (fz 3 (ft [0,1] (fz 2 [])))|false=>match Nat.beq i 35 with|true=>lf (fz 7 (ft [0,1,2,3,4] (fz 2 [])))|false=> .leaf ([],[]) []⟩
def oX:List ResultVar:=[.cell 2 52,.tmp 3,.tmp 4]
noncomputable def WR:Code:=aO Tryz.f18
def D18:DT:=bP pg mL WR Tryz.f18 (gP oX)
def IU(R:K1) bJ b2 h_5 r_6 Aw w:=
 (?X:PT (type_of%(tt (D18 (λc=>(aA 1 (aA 1 (aA 2 (aA 3 (aA 8 c)))))) no [] R (El [0,2,5,6,11] [bJ,b2,h_5,r_6,Aw]) w= ?X) (by unfold D18 Tryz.f18 oX mL;exact ev))))
def alH(kn:K5) bJ b2 h_5 r_6 mQ Aw w:=
 (?X:PT (type_of%(tt (D18 (λc=>(aD 1 (aA 1 (aA 2 (aA 3 (aA 8 c)))))) (nY kn 0 2 5 6 11) [] nG (El [0,2,5,6,8,11] [bJ,b2,h_5,r_6,mQ,Aw]) w= ?X) (by unfold D18 Tryz.f18 oX mL;exact ev))))
def IV(R:K1) bJ b2 h_5 r_6 mQ Aw w:=
 alH (IU R) bJ b2 h_5 r_6 mQ Aw w
def alI(kn:K6) bJ b2 h_5 r_6 mQ Aw aVR w:=
 (?X:PT (type_of%(tt (D18 (λc=>(aD 1 (aA 2 (aA 3 (aA 8 c))))) (Aj kn 0 2 5 6 8 11) [] nG (El [0,2,5,6,8,11,12] [bJ,b2,h_5,r_6,mQ,Aw,aVR]) w= ?X) (by unfold D18 Tryz.f18 oX mL;exact ev))))
def BK(R:K1) bJ b2 h_5 r_6 mQ Aw aVR w:=
 alI (IV R) bJ b2 h_5 r_6 mQ Aw aVR w
def alJ(kn:K7) bJ b2 h_5 r_6 d_7 mQ Aw w:=
 (?X:PT (type_of%(tt (D18 (λc=>(aD 2 (aA 3 (aA 8 c)))) (DZ kn 0 2 5 6 8 11 12) [] nG (El [0,2,5,6,7,8,11] [bJ,b2,h_5,r_6,d_7,mQ,Aw]) w= ?X) (by unfold D18 Tryz.f18 oX mL;exact ev))))
def BL(R:K1) bJ b2 h_5 r_6 d_7 mQ Aw w:=
 alJ (BK R) bJ b2 h_5 r_6 d_7 mQ Aw w
def alK(kn:K7) bJ b2 h_5 r_6 d_7 mQ w:=
 (?X:PT (type_of%(tt (D18 (λc=>(aD 3 (aA 8 c))) (DZ kn 0 2 5 6 7 8 11) [] nG (El [0,2,5,6,7,8] [bJ,b2,h_5,r_6,d_7,mQ]) w= ?X) (by unfold D18 Tryz.f18 oX mL;exact ev))))
def IW(R:K1) bJ b2 h_5 r_6 d_7 mQ w:=
 alK (BL R) bJ b2 h_5 r_6 d_7 mQ w
def adG(kn:K6)(R:K1) bJ w:=
 (?X:PT (type_of%(tt (D18 (λc=>(aD 8 c)) (Aj kn 0 2 5 6 7 8) [] R (El [0] [bJ]) w= ?X) (by unfold D18 Tryz.f18 oX mL;exact ev))))
def adH(R:K1) bJ w:=
 adG (IW R) R bJ w
def aED a0 w(R:K1):=
 adH R a0 w
theorem aCj{a0 w R}(h:aED a0 w R):aL pg Vh #[a0] w R:=
 gF (ann:=mL) Tryz.f18 WR [a0] oX 117 TryzM.mixed Tryz.func18 (bC 8 (vT (Aj (IW R) 0 2 5 6 7 8) h (λg w h=>aC (bC 3 (dP (DZ (BL R) 0 2 5 6 7 8 11) h (λg w h=>aC (bC 2 (dP (DZ (BK R) 0 2 5 6 8 11 12) h (λg w h=>aC (bC 1 (dP (Aj (IV R) 0 2 5 6 8 11) h (λg w h=>aC (bC 1 (dP (nY (IU R) 0 2 5 6 11) h (λg w h=>aC (gI h bH)))))))))))))) bH))
def qT:FA:=⟨RE,λi=>match Nat.beq i 6 with|true=>lf (fz 4 (ft [] (fz 2 [])))|false=>match Nat.beq i 9 with|true=>lf (fz 3 (ft [] (fz 2 [])))|false=>match Nat.beq i 14 with|true=>lf (fz 3 (ft [] (fz 2 [])))|false=>match Nat.beq i 19 with|true=>lf (fz 5 (ft [1,2] (fz 2 [])))|false=>match Nat.beq i 21 with|true=>lf (fz 5 (ft [3,4] (fz 2 (ft [] []))))|false=>match Nat.beq i 22 with|true=>lf (fz 5 (ft [1,2] (fz 2 [])))|false=>match Nat.beq i 25 with|true=>lf (fz 4 (ft [] (fz 2 [])))|false=>match Nat.beq i 26 with|true=> .split 5 10 (pm [0,1,2,3,4,5,6,7,8,9,10,11,12,13] [(5,10)] (fz 5 (ft [] (fz 4 (ft [0,1,2] (fz 1 (ft [2] (fz 1 [])))))))) (pm [0,1,2,3,4,10,5,6,7,8,9,11,12,13] [(10,5)] (fz 5 (ft [0,1,2] (ft [] (fz 5 (ft [1] (fz 1 [])))))))|false=>match Nat.beq i 28 with|true=>lf (fz 4 (ft [] (fz 2 [])))|false=>match Nat.beq i 31 with|true=>lf (fz 4 (ft [] (fz 2 [])))|false=>match Nat.beq i 32 with|true=>lf (fz 9 (ft [1,2] (fz 2 [])))|false=> .leaf ([],[]) []⟩
def tR:List ResultVar:=[.tmp 6,.cell 7 62,.tmp 8,.tmp 9]
noncomputable def Tx:Code:=aO Tryz.f19
def D19:DT:=bP pg qT Tx Tryz.f19 (gP tR)
def pW(R:K1) bJ tU g_4 b7 Ew aSt aVo aY0 aZc aY6 c9 w:=
 (?X:PT (type_of%(tt (D19 (λc=>(aA 8 (aA 6 (aA 3 c)))) no [] R (El [0,2,4,7,10,11,12,15,16,18,19] [bJ,tU,g_4,b7,Ew,aSt,aVo,aY0,aZc,aY6,c9]) w= ?X) (by unfold D19 Tryz.f19 tR qT;exact ev))))
def adI(kn:K11)(R:K1) bJ tU g_4 b7 Ew aSt aVS w:=
 (?X:PT (type_of%(tt (D19 (λc=>(aD 8 (aA 6 (aA 3 c)))) (aGM kn 0 2 4 7 10 11 12 15 16 18 19) [] R (El [0,2,4,7,10,11,13] [bJ,tU,g_4,b7,Ew,aSt,aVS]) w= ?X) (by unfold D19 Tryz.f19 tR qT;exact ev))))
def zX(R:K1) bJ tU g_4 b7 Ew aSt aVS w:=
 adI (pW R) R bJ tU g_4 b7 Ew aSt aVS w
def adJ(kn:K7)(R:K1) bJ tU g_4 b7 Ew w:=
 (?X:PT (type_of%(tt (D19 (λc=>(aD 6 (aA 3 c))) (DZ kn 0 2 4 7 10 11 13) [] R (El [0,2,4,7,10] [bJ,tU,g_4,b7,Ew]) w= ?X) (by unfold D19 Tryz.f19 tR qT;exact ev))))
def F3 (R:K1) bJ tU g_4 b7 Ew w:=
 adJ (zX R) R bJ tU g_4 b7 Ew w
def adK(kn:K5) bJ g_1 tU w:=
 (?X:PT (type_of%(tt (D19 (λc=>(aD 3 c)) (nY kn 0 2 4 7 10) [] nG (El [0,1,2] [bJ,g_1,tU]) w= ?X) (by unfold D19 Tryz.f19 tR qT;exact ev))))
def adL(R:K1) bJ g_1 tU w:=
 adK (F3 R) bJ g_1 tU w
def aBg a0 a1 a2 w(R:K1):=
 adL R a0 a1 a2 w
theorem aAg{a0 a1 a2 w R}(h:aBg a0 a1 a2 w R):aL pg RE #[a0,a1,a2] w R:=
 gF (ann:=qT) Tryz.f19 Tx [a0,a1,a2] tR 143 TryzM.mixed Tryz.func19 (bC 3 (dP (nY (F3 R) 0 2 4 7 10) h (λg w h=>aC (bC 6 (vT (DZ (zX R) 0 2 4 7 10 11 13) h (λg w h=>aC (bC 8 (vT (aGM (pW R) 0 2 4 7 10 11 12 15 16 18 19) h (λg w h=>aC (gI h bH)) bH))) bH)))))
def cP:FA:=⟨U2,λi=>match Nat.beq i 10 with|true=>lf (fz 9 (ft [5,6] (ft [] (fz 1 (ft [] [])))))|false=>match Nat.beq i 12 with|true=>lf (fz 2 (ft [] (fu [0] (fu [1] (ft [] (fz 1 (fu [1,4] (fu [2,5] (ft [2] (fz 1 (fu [1,5,8] (fu [2,6,9] (ft [2,6] (fz 2 []))))))))))))))|false=> .leaf ([],[]) []⟩
def oU:List ResultVar:=[.tmp 2]
noncomputable def gE:Code:=aO Tryz.f20
def D20:DT:=bP pg cP gE Tryz.f20 (gP oU)
def aaZ(R:K1) NX w:=
 (?X:PT (type_of%(tt (D20 (λc=>(aA 1 (aA 1 (aA 1 (aA 1 (aA 1 (aA 3 c))))))) no [] R (El [3] [NX]) w= ?X) (by unfold D20 Tryz.f20 oU cP;exact ev))))
def abA(kn:K3)(k8:K1) eQ NX cV w:=
 (?X:PT (type_of%(tt (D20 (λc=>(bI (bI (aD 1 (aA 1 (aA 1 (aA 1 (aA 1 (aA 3 c))))))))) (kC kn 0 3 4) [(8,(AN k8 3))] nG (El [0,3,4] [eQ,NX,cV]) w= ?X) (by unfold D20 Tryz.f20 oU cP;exact ev))))
def QX(k8:K1) eQ NX cV w:=
 aN (λ(X:(a7C×a7C)->K0) (t:a7C×a7C) (w:a7B)=>abA (λ_ NX cV w=>X (NX,cV) w) k8 eQ t.1 t.2 w) (NX,cV) w
theorem aEe(k8:K1)(h8:E1 Q k8 8 3)(h:QX k8 (g 0) (g 3) (g 4) w):bQ pg cP (bI (aD 1 (aA 1 (aA 1 (aA 1 (aA 1 (aA 3 gE))))))) Q g w:=by
 refine qO (λg:Env=>(g 3,g 4)) _ h (λX g1 w1 ha hL=> ?_);rw[<-bG 0 ha]at hL;exact(pV [(8,(AN k8 3))] (kr:=no) (kC (λ_ NX cV w=>X (NX,cV) w) 0 3 4) hL bH sL ⟨h8,trivial⟩)
def QY(R:K1) eQ NX cV w:=
 QX (aaZ R) eQ NX cV w
theorem aEf(kn:K1)(hn:N1 Q kn 3)(h:QX kn (g 0) (g 3) (g 4) w):bQ pg cP (aD 1 (aA 1 (aA 1 (aA 1 (aA 1 (aA 3 gE)))))) Q g w:=
 jP 8 (aEe _ g w kn hn h)
def aA3 (kn:K3) eQ NX cV w:=
 (?X:PT (type_of%(tt (D20 (λc=>(aD 1 (aA 1 (aA 1 (aA 1 (aA 3 c)))))) (kC kn 0 3 4) [] nG (El [0,3,4] [eQ,NX,cV]) w= ?X) (by unfold D20 Tryz.f20 oU cP;exact ev))))
def abB(R:K1) eQ NX cV w:=
 aA3 (QY R) eQ NX cV w
def abC(kn:K3)(k6:K3) eQ NX cV w:=
 (?X:PT (type_of%(tt (D20 (λc=>(bI (bI (aD 1 (aA 1 (aA 1 (aA 3 c))))))) (kC kn 0 3 4) [(6,(kC k6 0 3 4))] nG (El [0,3,4] [eQ,NX,cV]) w= ?X) (by unfold D20 Tryz.f20 oU cP;exact ev))))
def QZ(k6:K3) eQ NX cV w:=
 aN (λ(X:(a7C×a7C)->K0) (t:a7C×a7C) (w:a7B)=>abC (λ_ NX cV w=>X (NX,cV) w) k6 eQ t.1 t.2 w) (NX,cV) w
theorem aEg(k6:K3)(h6:E3 Q k6 6 0 3 4)(h:QZ k6 (g 0) (g 3) (g 4) w):bQ pg cP (bI (aD 1 (aA 1 (aA 1 (aA 3 gE))))) Q g w:=by
 refine qO (λg:Env=>(g 3,g 4)) _ h (λX g1 w1 ha hL=> ?_);rw[<-bG 0 ha]at hL;exact(pV [(6,(kC k6 0 3 4))] (kr:=no) (kC (λ_ NX cV w=>X (NX,cV) w) 0 3 4) hL bH sL ⟨h6,trivial⟩)
def L9 (R:K1) eQ NX cV w:=
 QZ (abB R) eQ NX cV w
theorem aBN(kn:K3)(hn:N3 Q kn 0 3 4)(h:QZ kn (g 0) (g 3) (g 4) w):bQ pg cP (aD 1 (aA 1 (aA 1 (aA 3 gE)))) Q g w:=
 jP 6 (aEg _ g w kn hn h)
def VV(kn:K3) eQ NX cV w:=
 bF pg (yM .len #[9] 3 [eQ]) w λl1 w=>
 bF pg (S3 3 36 l1) w λl2 w=>
 bF pg (bZ .add 36 iB iB NX l2) w λl3 w=>
 kn eQ l3 cV w
def Ma(R:K1) eQ NX cV w:=
 VV (L9 R) eQ NX cV w
def VW(kn:K5)(k4:K3) eQ NX cV v_6 k_8 w:=
 (?X:PT (type_of%(tt (D20 (λc=>(bI (bI (aA 2 (aA 1 (aA 2 (cT (aA 1 (aD 1 (aA 3 c)))))))))) (nY kn 0 3 4 6 8) [(4,(kC k4 0 3 4))] nG (El [0,3,4,6,8] [eQ,NX,cV,v_6,k_8]) w= ?X) (by unfold D20 Tryz.f20 oU cP;exact ev))))
def FG(k4:K3) eQ NX cV v_6 k_8 w:=
 aN (λ(X:(a7C×a7C)->K0) (t:a7C×a7C) (w:a7B)=>VW (λ_ NX _ _ k_8 w=>X (NX,k_8) w) k4 eQ t.1 cV v_6 t.2 w) (NX,k_8) w
theorem aBO(k4:K3)(h4:E3 Q k4 4 0 3 4)(h:FG k4 (g 0) (g 3) (g 4) (g 6) (g 8) w):bQ pg cP (bI (aA 2 (aA 1 (aA 2 (cT (aA 1 (aD 1 (aA 3 gE)))))))) Q g w:=by
 refine qO (λg:Env=>(g 3,g 8)) _ h (λX g1 w1 ha hL=> ?_);rw[<-bG 0 ha,<-bG 4 ha,<-bG 6 ha]at hL;exact(pV [(4,(kC k4 0 3 4))] (kr:=no) (nY (λ_ NX _ _ k_8 w=>X (NX,k_8) w) 0 3 4 6 8) hL bH sL ⟨h4,trivial⟩)
def atK(kn:K5) eQ cV v_6 w:=
 (?X:PT (type_of%(tt (D20 (λc=>(aD 2 (aA 1 (aA 2 (cT (aA 1 (aD 1 (aA 3 c)))))))) (nY kn 0 3 4 6 8) [] nG (El [0,4,6] [eQ,cV,v_6]) w= ?X) (by unfold D20 Tryz.f20 oU cP;exact ev))))
def Mb(kn:K3) eQ cV v_6 w:=
 atK (FG kn) eQ cV v_6 w
def VX(kn:K3) eQ cV v_6 w:=
 bF pg (bZ .add 3 iB iB cV (a7D 32)) w λf1 w=>
 kn eQ f1 v_6 w
def VY(kn:K4)(k2:K3) eQ cV v_6 k_7 w:=
 (?X:PT (type_of%(tt (D20 (λc=>(bI (bI (aA 1 (aD 1 (bI (aA 1 (bI (bI (aD 1 (aA 2 (cT (aA 1 (aD 1 (aA 3 c))))))))))))))) (lX kn 0 4 6 7) [(2,(kC k2 0 4 6))] nG (El [0,4,6,7] [eQ,cV,v_6,k_7]) w= ?X) (by unfold D20 Tryz.f20 oU cP;exact ev))))
def uP(k2:K3) eQ cV v_6 k_7 w:=
 aN (λ(X:a7C->K0) (t:a7C) (w:a7B)=>VY (λ_ _ _ k_7 w=>X k_7 w) k2 eQ cV v_6 t w) k_7 w
theorem aBP(k2:K3)(h2:E3 Q k2 2 0 4 6)(h:uP k2 (g 0) (g 4) (g 6) (g 7) w):bQ pg cP (bI (aA 1 (aD 1 (bI (aA 1 (bI (bI (aD 1 (aA 2 (cT (aA 1 (aD 1 (aA 3 gE))))))))))))) Q g w:=by
 refine qO (λg:Env=>g 7) _ h (λX g1 w1 ha hL=> ?_);rw[<-bG 0 ha,<-bG 4 ha,<-bG 6 ha]at hL;exact(pV [(2,(kC k2 0 4 6))] (kr:=no) (lX (λ_ _ _ k_7 w=>X k_7 w) 0 4 6 7) hL bH sL ⟨h2,trivial⟩)
def VZ(kn:K4) eQ cV v_6 w:=
 kn eQ cV v_6 (a7D 0) w
def Mc(kn:K3) eQ cV v_6 w:=
 VZ (uP kn) eQ cV v_6 w
def AF(kn:K3) eQ cV v_6 w:=
 Mc (VX kn) eQ cV v_6 w
theorem aBQ(kn:K3)(hn:N3 Q kn 0 4 6)(h:Mc kn (g 0) (g 4) (g 6) w):bQ pg cP (aD 1 (bI (aA 1 (bI (bI (aD 1 (aA 2 (cT (aA 1 (aD 1 (aA 3 gE))))))))))) Q g w:=
 bC 1 (dP (lX (uP kn) 0 4 6 7) h (λg w h=>aC (jP 2 (aBP _ g w kn hn h))))
def V0 (kn:K3)(k0:K3) eQ cV v_6 w:=
 bF pg (bZ .add 3 iB iB cV (a7D 32)) w λd0 w=>
 bF pg (yM .len #[9] 3 [eQ]) w λd2 w=>
 bF pg (bZ .leq 3 iB iB d0 d2) w λd3 w=>
 JJ d3
  (kn eQ cV v_6 w)
  (k0 eQ cV v_6 w)
def V1 (kn:K3)(k0:K3) eQ cV v_6 w:=
 V0 (AF kn) k0 eQ cV v_6 w
def FI(k0:K3) eQ cV v_6 w:=
 aN (λ(X:a7C->K0) (t:a7C) (w:a7B)=>V1 (λ_ cV _ w=>X cV w) k0 eQ t v_6 w) cV w
theorem aBR(k0:K3)(h0:E3 Q k0 0 0 4 6)(h:FI k0 (g 0) (g 4) (g 6) w):bQ pg cP (bI (aD 1 (aA 2 (cT (aA 1 (aD 1 (aA 3 gE))))))) Q g w:=by
 refine qO (λg:Env=>g 4) _ h (λX g1 w1 ha hL=> ?_);rw[<-bG 0 ha,<-bG 6 ha]at hL;exact(bC 1 (pV [(0,(kC k0 0 4 6))] (kr:=no) (kC (AF (λ_ cV _ w=>X cV w)) 0 4 6) hL (λg w h=>aC (jP 1 (bC 1 (aBQ _ g w (VX (λ_ cV _ w=>X cV w)) (λg w h=>aC (dP (kC (λ_ cV _ w=>X cV w) 0 4 6) h bH)) h)))) sL ⟨h0,trivial⟩))
def V2 (kn:K3) eQ cV v_6 w:=
 FI (Mb kn) eQ cV v_6 w
theorem aBS(kn:K3)(hn:N3 Q kn 0 4 6)(h:FI kn (g 0) (g 4) (g 6) w):bQ pg cP (aD 1 (aA 2 (cT (aA 1 (aD 1 (aA 3 gE)))))) Q g w:=
 jP 0 (aBR _ g w kn hn h)
def atL(kn:K3) eQ cV w:=
 (?X:PT (type_of%(tt (D20 (λc=>(aD 2 (cT (aA 1 (aD 1 (aA 3 c)))))) (kC kn 0 4 6) [] nG (El [0,4] [eQ,cV]) w= ?X) (by unfold D20 Tryz.f20 oU cP;exact ev))))
def atM(kn:K3) eQ cV w:=
 atL (V2 kn) eQ cV w
def atN(kn:K3) eQ NX cV w:=
 kn eQ NX cV w
def V3 (kn:K3) eQ NX cV c3 w:=
 JJ c3 (atM kn eQ cV w) (atN kn eQ NX cV w)
def atO(kn:K4) eQ NX cV w:=
 bF pg (yM .len #[9] 3 [eQ]) w λc2 w=>
 bF pg (bZ .geq 3 iB iB c2 (a7D 32)) w λc3 w=>
 kn eQ NX cV c3 w
def V4 (kn:K3) eQ NX cV w:=
 atO (V3 kn) eQ NX cV w
def V5 (R:K1) eQ NX cV w:=
 V4 (Ma R) eQ NX cV w
theorem aBT(kn:K3)(hn:N3 Q kn 0 3 4)(h:V4 kn (g 0) (g 3) (g 4) w):bQ pg cP (aD 1 (aA 3 gE)) Q g w:=
 bC 1 (dP (lX (V3 kn) 0 3 4 13) h (λg w h=>aC (cdD (.tmp 13) (λh=>(bC 2 (dP (kC (V2 kn) 0 4 6) h (λg w h=>aC (bC 1 (aBS _ g w (Mb kn) (λg w h=>aC (bC 2 (dP (nY (FG kn) 0 3 4 6 8) h (λg w h=>aC (jP 4 (aBO _ g w kn hn h)))))) h)))))) (λh=>(dP _ h hn)) h)))
def atP(kn:K3) eQ w:=
 kn eQ (.int .u64 2870177450012600261) (a7D 0) w
def atQ(R:K1) eQ w:=
 atP (V5 R) eQ w
def aJO a0 w(R:K1):=
 atQ R a0 w
theorem aFt{a0 w R}(h:aJO a0 w R):aL pg U2 #[a0] w R:=
 gF (ann:=cP) Tryz.f20 gE [a0] oU 137 TryzM.mixed Tryz.func20 (bC 3 (dP (kC (V5 R) 0 3 4) h (λg w h=>aC (bC 1 (aBT _ g w (Ma R) (λg w h=>aC (bC 1 (dP (kC (L9 R) 0 3 4) h (λg w h=>aC (bC 1 (aBN _ g w (abB R) (λg w h=>aC (bC 1 (dP (kC (QY R) 0 3 4) h (λg w h=>aC (bC 1 (aEf _ g w (aaZ R) (λg w h=>aC (gI h bH)) h)))))) h)))))) h)))))
def wO:FA:=nA nT
def Af:List ResultVar:=[.tmp 2]
noncomputable def EI:Code:=aO Tryz.f21
def D21:DT:=bP pg wO EI Tryz.f21 (gP Af)
def JG(R:K1) eQ w:=
 (?X:PT (type_of%(tt (D21 (λc=>c) no [] R (El [0] [eQ]) w= ?X) (by unfold D21 Tryz.f21 Af wO;exact ev))))
def Q8 a0 w(R:K1):=
 JG R a0 w
theorem Wp{a0 w R}(h:Q8 a0 w R):aL pg nT #[a0] w R:=
 gF (ann:=wO) Tryz.f21 EI [a0] Af 8 TryzM.mixed Tryz.func21 (gI h bH)
def uH:FA:=nA yP
def wX:List ResultVar:=[.tmp 6]
noncomputable def Dn:Code:=aO Tryz.f22
def D22:DT:=bP pg uH Dn Tryz.f22 (gP wX)
def G4 (R:K1) Ah lL aXF w:=
 (?X:PT (type_of%(tt (D22 (λc=>c) no [] R (El [0,1,2] [Ah,lL,aXF]) w= ?X) (by unfold D22 Tryz.f22 wX uH;exact ev))))
def Np a0 a1 a2 w(R:K1):=
 G4 R a0 a1 a2 w
theorem TB{a0 a1 a2 w R}(h:Np a0 a1 a2 w R):aL pg yP #[a0,a1,a2] w R:=
 gF (ann:=uH) Tryz.f22 Dn [a0,a1,a2] wX 48 TryzM.mixed Tryz.func22 (gI h bH)
def sS:FA:=nA wI
def uV:List ResultVar:=[.tmp 4]
noncomputable def Bp:Code:=aO Tryz.f23
def D23:DT:=bP pg sS Bp Tryz.f23 (gP uV)
def EK(R:K1) Ah lL w:=
 (?X:PT (type_of%(tt (D23 (λc=>c) no [] R (El [0,1] [Ah,lL]) w= ?X) (by unfold D23 Tryz.f23 uV sS;exact ev))))
def LA a0 a1 w(R:K1):=
 EK R a0 a1 w
theorem RX{a0 a1 w R}(h:LA a0 a1 w R):aL pg wI #[a0,a1] w R:=
 gF (ann:=sS) Tryz.f23 Bp [a0,a1] uV 12 TryzM.mixed Tryz.func23 (gI h bH)
def jT:FA:=⟨UX,λi=>match Nat.beq i 28 with|true=>lf (fz 4 (ft [1,3] (fz 1 (ft [0,3] (fz 2 [])))))|false=> .leaf ([],[]) []⟩
def mE:List ResultVar:=[.cell 2 72,.tmp 3,.tmp 4]
noncomputable def WA:Code:=aO Tryz.f24
def D24:DT:=bP pg jT WA Tryz.f24 (gP mE)
def Iv(R:K1) bJ b2 r_5 h_7 zF w:=
 (?X:PT (type_of%(tt (D24 (λc=>(aA 1 (aA 1 (aA 1 (aA 2 (aA 2 (aA 7 c))))))) no [] R (El [0,2,5,7,9] [bJ,b2,r_5,h_7,zF]) w= ?X) (by unfold D24 Tryz.f24 mE jT;exact ev))))
def aiJ(kn:K5) bJ b2 r_5 h_7 mQ zF w:=
 (?X:PT (type_of%(tt (D24 (λc=>(aD 1 (aA 1 (aA 1 (aA 2 (aA 2 (aA 7 c))))))) (nY kn 0 2 5 7 9) [] nG (El [0,2,5,7,8,9] [bJ,b2,r_5,h_7,mQ,zF]) w= ?X) (by unfold D24 Tryz.f24 mE jT;exact ev))))
def Iw(R:K1) bJ b2 r_5 h_7 mQ zF w:=
 aiJ (Iv R) bJ b2 r_5 h_7 mQ zF w
def aiK(kn:K6) bJ b2 r_5 h_7 mQ zF aHs w:=
 (?X:PT (type_of%(tt (D24 (λc=>(aD 1 (aA 1 (aA 2 (aA 2 (aA 7 c)))))) (Aj kn 0 2 5 7 8 9) [] nG (El [0,2,5,7,8,9,11] [bJ,b2,r_5,h_7,mQ,zF,aHs]) w= ?X) (by unfold D24 Tryz.f24 mE jT;exact ev))))
def Ix(R:K1) bJ b2 r_5 h_7 mQ zF aHs w:=
 aiK (Iw R) bJ b2 r_5 h_7 mQ zF aHs w
def aiL(kn:K7) bJ b2 r_5 h_7 mQ zF aHs w:=
 (?X:PT (type_of%(tt (D24 (λc=>(aD 1 (aA 2 (aA 2 (aA 7 c))))) (DZ kn 0 2 5 7 8 9 11) [] nG (El [0,2,5,7,8,9,11] [bJ,b2,r_5,h_7,mQ,zF,aHs]) w= ?X) (by unfold D24 Tryz.f24 mE jT;exact ev))))
def By(R:K1) bJ b2 r_5 h_7 mQ zF aHs w:=
 aiL (Ix R) bJ b2 r_5 h_7 mQ zF aHs w
def aiM(kn:K7) bJ b2 r_5 d_6 h_7 mQ zF w:=
 (?X:PT (type_of%(tt (D24 (λc=>(aD 2 (aA 2 (aA 7 c)))) (DZ kn 0 2 5 7 8 9 11) [] nG (El [0,2,5,6,7,8,9] [bJ,b2,r_5,d_6,h_7,mQ,zF]) w= ?X) (by unfold D24 Tryz.f24 mE jT;exact ev))))
def Bz(R:K1) bJ b2 r_5 d_6 h_7 mQ zF w:=
 aiM (By R) bJ b2 r_5 d_6 h_7 mQ zF w
def ZS(kn:K7) bJ b2 r_5 d_6 h_7 mQ w:=
 (?X:PT (type_of%(tt (D24 (λc=>(aD 2 (aA 7 c))) (DZ kn 0 2 5 6 7 8 9) [] nG (El [0,2,5,6,7,8] [bJ,b2,r_5,d_6,h_7,mQ]) w= ?X) (by unfold D24 Tryz.f24 mE jT;exact ev))))
def Fh(R:K1) bJ b2 r_5 d_6 h_7 mQ w:=
 ZS (Bz R) bJ b2 r_5 d_6 h_7 mQ w
def ZT(kn:K6)(R:K1) bJ w:=
 (?X:PT (type_of%(tt (D24 (λc=>(aD 7 c)) (Aj kn 0 2 5 6 7 8) [] R (El [0] [bJ]) w= ?X) (by unfold D24 Tryz.f24 mE jT;exact ev))))
def ZU(R:K1) bJ w:=
 ZT (Fh R) R bJ w
def aDp a0 w(R:K1):=
 ZU R a0 w
theorem aBE{a0 w R}(h:aDp a0 w R):aL pg UX #[a0] w R:=
 gF (ann:=jT) Tryz.f24 WA [a0] mE 94 TryzM.mixed Tryz.func24 (bC 7 (vT (Aj (Fh R) 0 2 5 6 7 8) h (λg w h=>aC (bC 2 (dP (DZ (Bz R) 0 2 5 6 7 8 9) h (λg w h=>aC (bC 2 (dP (DZ (By R) 0 2 5 7 8 9 11) h (λg w h=>aC (bC 1 (dP (DZ (Ix R) 0 2 5 7 8 9 11) h (λg w h=>aC (bC 1 (dP (Aj (Iw R) 0 2 5 7 8 9) h (λg w h=>aC (bC 1 (dP (nY (Iv R) 0 2 5 7 9) h (λg w h=>aC (gI h bH))))))))))))))))) bH))
def Ea:FA:=nA BP
def HX:List ResultVar:=[.cell 0 75]
noncomputable def Nf:Code:=aO Tryz.f25
def D25:DT:=bP pg Ea Nf Tryz.f25 (gP HX)
def TN(R:K1) w:=
 (?X:PT (type_of%(tt (D25 (λc=>c) no [] R (El [] []) w= ?X) (by unfold D25 Tryz.f25 HX Ea;exact ev))))
def aiF w(R:K1):=
 TN R w
theorem amP{w R}(h:aiF w R):aL pg BP #[] w R:=
 gF (ann:=Ea) Tryz.f25 Nf [] HX 2 TryzM.mixed Tryz.func25 (gI h bH)
def jS:FA:=⟨yQ,λi=>match Nat.beq i 24 with|true=> .leaf ([],[]) (fz 13 [])|false=>match Nat.beq i 26 with|true=>lf (fz 5 (ft [1,2] (fz 2 [])))|false=> .leaf ([],[]) []⟩
def lB:List ResultVar:=[.tmp 8,.cell 9 83,.tmp 10,.tmp 11]
noncomputable def Dp:Code:=aO Tryz.f26
def D26:DT:=bP pg jS Dp Tryz.f26 (gP lB)
def kV(R:K1) eQ I3 g_6 b9 aMq w:=
 (?X:PT (type_of%(tt (D26 (λc=>(aA 2 (aA 9 c))) no [] R (El [0,1,6,9,15] [eQ,I3,g_6,b9,aMq]) w= ?X) (by unfold D26 Tryz.f26 lB jS;exact ev))))
def wP(kn:K5)(R:K1) eQ I3 tV g_6 b9 aC8 aMq aVT w:=
 (?X:PT (type_of%(tt (D26 (λc=>(aD 2 (aA 9 c))) (nY kn 0 1 6 9 15) [] R (El [0,1,3,6,9,12,15,16] [eQ,I3,tV,g_6,b9,aC8,aMq,aVT]) w= ?X) (by unfold D26 Tryz.f26 lB jS;exact ev))))
def eB(R:K1) eQ I3 tV g_6 b9 aC8 aMq aVT w:=
 wP (kV R) R eQ I3 tV g_6 b9 aC8 aMq aVT w
def G5 (kn:K8)(R:K1) eQ I3 g_2 tV w:=
 (?X:PT (type_of%(tt (D26 (λc=>(aD 9 c)) (Mq8 kn 0 1 3 6 9 12 15 16) [] R (El [0,1,2,3] [eQ,I3,g_2,tV]) w= ?X) (by unfold D26 Tryz.f26 lB jS;exact ev))))
def G6 (R:K1) eQ I3 g_2 tV w:=
 G5 (eB R) R eQ I3 g_2 tV w
def Nq a0 a1 a2 a3 w(R:K1):=
 G6 R a0 a1 a2 a3 w
theorem TI{a0 a1 a2 a3 w R}(h:Nq a0 a1 a2 a3 w R):aL pg yQ #[a0,a1,a2,a3] w R:=
 gF (ann:=jS) Tryz.f26 Dp [a0,a1,a2,a3] lB 105 TryzM.mixed Tryz.func26 (bC 9 (vT (Mq8 (eB R) 0 1 3 6 9 12 15 16) h (λg w h=>aC (bC 2 (vT (nY (kV R) 0 1 6 9 15) h (λg w h=>aC (gI h bH)) bH))) bH))
def sT:FA:=nA qC
def uW:List ResultVar:=[.tmp 4]
noncomputable def Bq:Code:=aO Tryz.f27
def D27:DT:=bP pg sT Bq Tryz.f27 (gP uW)
def EO(R:K1) eQ I3 w:=
 (?X:PT (type_of%(tt (D27 (λc=>c) no [] R (El [0,1] [eQ,I3]) w= ?X) (by unfold D27 Tryz.f27 uW sT;exact ev))))
def LB a0 a1 w(R:K1):=
 EO R a0 a1 w
theorem R2 {a0 a1 w R}(h:LB a0 a1 w R):aL pg qC #[a0,a1] w R:=
 gF (ann:=sT) Tryz.f27 Bq [a0,a1] uW 24 TryzM.mixed Tryz.func27 (gI h bH)
def pC:FA:=nA MH
def Cz:List ResultVar:=[.tmp 2]
noncomputable def xM:Code:=aO Tryz.f28
def D28:DT:=bP pg pC xM Tryz.f28 (gP Cz)
def Lf(R:K1) w_0 iP w:=
 (?X:PT (type_of%(tt (D28 (λc=>(aA 1 (aA 2 c))) no [] R (El [0,3] [w_0,iP]) w= ?X) (by unfold D28 Tryz.f28 Cz pC;exact ev))))
def Yr(kn:K3)(k0:K2) w_0 iP cV w:=
 (?X:PT (type_of%(tt (D28 (λc=>(bI (bI (aA 1 (aD 1 (aA 2 c)))))) (kC kn 0 3 4) [(0,(vJ k0 0 3))] nG (El [0,3,4] [w_0,iP,cV]) w= ?X) (by unfold D28 Tryz.f28 Cz pC;exact ev))))
def Cs(k0:K2) w_0 iP cV w:=
 aN (λ(X:(a7C×a7C)->K0) (t:a7C×a7C) (w:a7B)=>Yr (λ_ iP cV w=>X (iP,cV) w) k0 w_0 t.1 t.2 w) (iP,cV) w
theorem aoX(k0:K2)(h0:E2 Q k0 0 0 3)(h:Cs k0 (g 0) (g 3) (g 4) w):bQ pg pC (bI (aA 1 (aD 1 (aA 2 xM)))) Q g w:=by
 refine qO (λg:Env=>(g 3,g 4)) _ h (λX g1 w1 ha hL=> ?_);rw[<-bG 0 ha]at hL;exact(pV [(0,(vJ k0 0 3))] (kr:=no) (kC (λ_ iP cV w=>X (iP,cV) w) 0 3 4) hL bH sL ⟨h0,trivial⟩)
def Ys(kn:K3) w_0 iP w:=
 kn w_0 iP (.int .u64 0) w
def Lg(kn:K2) w_0 iP w:=
 Ys (Cs kn) w_0 iP w
def Lh(R:K1) w_0 iP w:=
 Lg (Lf R) w_0 iP w
theorem aoY(kn:K2)(hn:N2 Q kn 0 3)(h:Lg kn (g 0) (g 3) w):bQ pg pC (aD 1 (aA 2 xM)) Q g w:=
 bC 1 (dP (kC (Cs kn) 0 3 4) h (λg w h=>aC (jP 0 (aoX _ g w kn hn h))))
def Yt(kn:K2) w_0 w:=
 kn w_0 (.int .u64 1024) w
def Yu(R:K1) w_0 w:=
 Yt (Lh R) w_0 w
def avS a0 w(R:K1):=
 Yu R a0 w
theorem avT{a0 w R}(h:avS a0 w R):aL pg MH #[a0] w R:=
 gF (ann:=pC) Tryz.f28 xM [a0] Cz 20 TryzM.mixed Tryz.func28 (bC 2 (dP (vJ (Lh R) 0 3) h (λg w h=>aC (bC 1 (aoY _ g w (Lf R) (λg w h=>aC (gI h bH)) h)))))
def Bd:FA:=⟨DR,λi=>match Nat.beq i 3 with|true=>lf (fz 3 (ft [0,1] (fz 1 [])))|false=> .leaf ([],[]) []⟩
def CW:List ResultVar:=[.cell 2 90,.tmp 3]
noncomputable def Jg:Code:=aO Tryz.f29
def D29:DT:=bP pg Bd Jg Tryz.f29 (gP CW)
def Pb(R:K1) bJ w:=
 (?X:PT (type_of%(tt (D29 (λc=>c) no [] R (El [0] [bJ]) w= ?X) (by unfold D29 Tryz.f29 CW Bd;exact ev))))
def Yq a0 w(R:K1):=
 Pb R a0 w
theorem adF{a0 w R}(h:Yq a0 w R):aL pg DR #[a0] w R:=
 gF (ann:=Bd) Tryz.f29 Jg [a0] CW 34 TryzM.mixed Tryz.func29 (gI h bH)
def vO:FA:=nA RG
def Pq:List ResultVar:=[.tmp 4]
noncomputable def Au:Code:=aO Tryz.f30
def D30:DT:=bP pg vO Au Tryz.f30 (gP Pq)
def Pc(R:K1) b_5 w:=
 bF pg (S3 22 9 b_5) w λd0 w=>
 R d0 w
def adM(kn:K4)(k0:K1) eQ lL b_5 i_6 w:=
 (?X:PT (type_of%(tt (D30 (λc=>(bI (bI (aA 1 (aD 1 (aA 2 c)))))) (lX kn 0 1 5 6) [(0,(AN k0 5))] nG (El [0,1,5,6] [eQ,lL,b_5,i_6]) w= ?X) (by unfold D30 Tryz.f30 Pq vO;exact ev))))
def F5 (k0:K1) eQ lL b_5 i_6 w:=
 aN (λ(X:a7C->K0) (t:a7C) (w:a7B)=>adM (λ_ _ _ i_6 w=>X i_6 w) k0 eQ lL b_5 t w) i_6 w
theorem awA(k0:K1)(h0:E1 Q k0 0 5)(h:F5 k0 (g 0) (g 1) (g 5) (g 6) w):bQ pg vO (bI (aA 1 (aD 1 (aA 2 Au)))) Q g w:=by
 refine qO (λg:Env=>g 6) _ h (λX g1 w1 ha hL=> ?_);rw[<-bG 0 ha,<-bG 1 ha,<-bG 5 ha]at hL;exact(pV [(0,(AN k0 5))] (kr:=no) (lX (λ_ _ _ i_6 w=>X i_6 w) 0 1 5 6) hL bH sL ⟨h0,trivial⟩)
def adN(kn:K4) eQ lL b_5 w:=
 kn eQ lL b_5 (a7D 0) w
def Pd(kn:K1) eQ lL b_5 w:=
 adN (F5 kn) eQ lL b_5 w
def Pe(R:K1) eQ lL b_5 w:=
 Pd (Pc R) eQ lL b_5 w
theorem awB(kn:K1)(hn:N1 Q kn 5)(h:Pd kn (g 0) (g 1) (g 5) w):bQ pg vO (aD 1 (aA 2 Au)) Q g w:=
 bC 1 (dP (lX (F5 kn) 0 1 5 6) h (λg w h=>aC (jP 0 (awA _ g w kn hn h))))
def adO(kn:K3) eQ lL w:=
 bF pg (mT 22 lL lL) w λb8 w=>
 kn eQ lL b8 w
def adP(R:K1) eQ lL w:=
 adO (Pe R) eQ lL w
def aBh a0 a1 w(R:K1):=
 adP R a0 a1 w
theorem aAh{a0 a1 w R}(h:aBh a0 a1 w R):aL pg RG #[a0,a1] w R:=
 gF (ann:=vO) Tryz.f30 Au [a0,a1] Pq 21 TryzM.mixed Tryz.func30 (bC 2 (dP (kC (Pe R) 0 1 5) h (λg w h=>aC (bC 1 (awB _ g w (Pc R) (λg w h=>aC (gI h bH)) h)))))
def pR:FA:=⟨Vb,λi=>match Nat.beq i 16 with|true=>lf (fz 5 (ft [] (fz 6 [])))|false=> .leaf ([],[]) []⟩
def sH:List ResultVar:=[.tmp 4,.tmp 5,.tmp 6,.tmp 7]
noncomputable def WM:Code:=aO Tryz.f31
def D31:DT:=bP pg pR WM Tryz.f31 (gP sH)
def BI(R:K1) e_9 awT aSk aY1 w:=
 (?X:PT (type_of%(tt (D31 (λc=>(aA 3 (aA 7 (aA 1 (aA 5 c))))) no [] R (El [9,11,13,17] [e_9,awT,aSk,aY1]) w= ?X) (by unfold D31 Tryz.f31 sH pR;exact ev))))
def akN(kn:K4)(R:K1) h_8 awT aV8 aSk w:=
 (?X:PT (type_of%(tt (D31 (λc=>(aD 3 (aA 7 (aA 1 (aA 5 c))))) (lX kn 9 11 13 17) [] R (El [8,11,12,13] [h_8,awT,aV8,aSk]) w= ?X) (by unfold D31 Tryz.f31 sH pR;exact ev))))
def IM(R:K1) h_8 awT aV8 aSk w:=
 akN (BI R) R h_8 awT aV8 aSk w
def akO(kn:K4)(R:K1) bJ jF h_8 aLC w:=
 (?X:PT (type_of%(tt (D31 (λc=>(aD 7 (aA 1 (aA 5 c)))) (lX kn 8 11 12 13) [] R (El [0,1,8,10] [bJ,jF,h_8,aLC]) w= ?X) (by unfold D31 Tryz.f31 sH pR;exact ev))))
def IN(R:K1) bJ jF h_8 aLC w:=
 akO (IM R) R bJ jF h_8 aLC w
def IP(kn:K4) bJ jF h_8 aLC w:=
 (?X:PT (type_of%(tt (D31 (λc=>(aD 1 (aA 5 c))) (lX kn 0 1 8 10) [] nG (El [0,1,8,10] [bJ,jF,h_8,aLC]) w= ?X) (by unfold D31 Tryz.f31 sH pR;exact ev))))
def BJ(R:K1) bJ jF h_8 aLC w:=
 IP (IN R) bJ jF h_8 aLC w
def akP(kn:K4)(R:K1) bJ jF w:=
 (?X:PT (type_of%(tt (D31 (λc=>(aD 5 c)) (lX kn 0 1 8 10) [] R (El [0,1] [bJ,jF]) w= ?X) (by unfold D31 Tryz.f31 sH pR;exact ev))))
def akQ(R:K1) bJ jF w:=
 akP (BJ R) R bJ jF w
def aEw a0 a1 w(R:K1):=
 akQ R a0 a1 w
theorem aCc{a0 a1 w R}(h:aEw a0 a1 w R):aL pg Vb #[a0,a1] w R:=
 gF (ann:=pR) Tryz.f31 WM [a0,a1] sH 117 TryzM.mixed Tryz.func31 (bC 5 (vT (lX (BJ R) 0 1 8 10) h (λg w h=>aC (bC 1 (dP (lX (IN R) 0 1 8 10) h (λg w h=>aC (bC 7 (vT (lX (IM R) 8 11 12 13) h (λg w h=>aC (bC 3 (vT (lX (BI R) 9 11 13 17) h (λg w h=>aC (gI h bH)) bH))) bH)))))) bH))
def eH:FA:=⟨Vg,λi=>match Nat.beq i 4 with|true=>lf (fz 4 (ft [1,2] (fz 1 [])))|false=>match Nat.beq i 7 with|true=>lf (fz 2 (ft [] (fz 1 [])))|false=>match Nat.beq i 8 with|true=>lf (fz 2 (ft [] (fz 1 [])))|false=>match Nat.beq i 11 with|true=>lf (fz 4 (ft [1,2] (fz 1 [])))|false=>match Nat.beq i 13 with|true=>lf (fz 2 (ft [] (fz 1 [])))|false=>match Nat.beq i 20 with|true=> .split 9 14 (pm [0,1,2,3,4,5,6,7,8,9,10,11,12,13,14,15,16,17] [(9,14)] (fz 9 (ft [] (fz 4 (ft [0,1,2] (ft [1,2] (fz 2 []))))))) (pm [0,1,2,3,4,5,6,7,8,14,9,10,11,12,13,15,16,17] [(14,9)] (fz 9 (ft [0,1,4,5] (ft [] (fz 4 (ft [0,1] (fz 2 [])))))))|false=>match Nat.beq i 22 with|true=>lf (fz 3 (ft [] (fz 1 [])))|false=>match Nat.beq i 27 with|true=>lf (fz 3 (ft [] (fz 1 [])))|false=>match Nat.beq i 46 with|true=>lf (fz 2 (ft [] (fz 1 [])))|false=>match Nat.beq i 48 with|true=>lf (fz 2 (ft [] (fz 1 [])))|false=>match Nat.beq i 49 with|true=>lf (fz 3 (ft [] (fz 1 [])))|false=> .leaf ([],[]) []⟩
def iL:List ResultVar:=[.tmp 4,.cell 5 60,.tmp 6]
noncomputable def nK:Code:=aO Tryz.f32
def D32:DT:=bP pg eH nK Tryz.f32 (gP iL)
def SG(R:K1) b5 dA c2 amH sE w:=
 (?X:PT (type_of%(tt (D32 (λc=>(aA 1 (aA 6 (aA 1 (aA 11 c))))) no [] R (El [5,7,12,18,23] [b5,dA,c2,amH,sE]) w= ?X) (by unfold D32 Tryz.f32 iL eH;exact ev))))
def IS(kn:K10) b5 dA UQ c2 amH Fp FD Fu sE ayI w:=
 bF pg (bZ .add 36 iB iB ayI (.int .u64 1)) w λs9 w=>
 kn b5 dA UQ c2 amH Fp FD Fu sE s9 w
def akZ(kn:K10)(k2:K5) b5 dA UQ c2 amH Fp FD Fu sE ayI w:=
 (?X:PT (type_of%(tt (D32 (λc=>(aD 2 (bI (bI (aA 1 (aD 1 (aA 6 (aA 1 (aA 11 c))))))))) (GF kn 5 7 9 12 18 20 21 22 23 24) [(2,(nY k2 5 7 12 18 23))] nG (El [5,7,9,12,18,20,21,22,23,24] [b5,dA,UQ,c2,amH,Fp,FD,Fu,sE,ayI]) w= ?X) (by unfold D32 Tryz.f32 iL eH;exact ev))))
def alA(kn:K10)(k2:K5) b5 dA UQ c2 amH Fp FD Fu sE ayI w:=
 akZ (IS kn) k2 b5 dA UQ c2 amH Fp FD Fu sE ayI w
def wE(k2:K5) b5 dA UQ c2 amH Fp FD Fu sE ayI w:=
 aN (λ(X:(a7C×a7C×a7C×a7C×a7C)->K0) (t:a7C×a7C×a7C×a7C×a7C) (w:a7B)=>alA (λ_ _ _ _ _ Fp FD Fu sE ayI w=>X (Fp,FD,Fu,sE,ayI) w) k2 b5 dA UQ c2 amH t.1 t.2.1 t.2.2.1 t.2.2.2.1 t.2.2.2.2 w) (Fp,FD,Fu,sE,ayI) w
theorem aAa(k2:K5)(h2:E5 Q k2 2 5 7 12 18 23)(h:wE k2 (g 5) (g 7) (g 9) (g 12) (g 18) (g 20) (g 21) (g 22) (g 23) (g 24) w):bQ pg eH (bI (aA 1 (aD 1 (aA 6 (aA 1 (aA 11 nK)))))) Q g w:=by
 refine qO (λg:Env=>(g 20,g 21,g 22,g 23,g 24)) _ h (λX g1 w1 ha hL=> ?_);rw[<-bG 5 ha,<-bG 7 ha,<-bG 9 ha,<-bG 12 ha,<-bG 18 ha]at hL;exact(bC 2 (pV [(2,(nY k2 5 7 12 18 23))] (kr:=no) (GF (IS (λ_ _ _ _ _ Fp FD Fu sE ayI w=>X (Fp,FD,Fu,sE,ayI) w)) 5 7 9 12 18 20 21 22 23 24) hL (λg w h=>aC (dP (GF (λ_ _ _ _ _ Fp FD Fu sE ayI w=>X (Fp,FD,Fu,sE,ayI) w) 5 7 9 12 18 20 21 22 23 24) h bH)) sL ⟨h2,trivial⟩))
def alB(kn:K10) b5 dA UQ c2 amH Fp FD Fu sE w:=
 kn b5 dA UQ c2 amH Fp FD Fu sE (.int .u64 0) w
def SH(kn:K5) b5 dA UQ c2 amH Fp FD Fu sE w:=
 alB (wE kn) b5 dA UQ c2 amH Fp FD Fu sE w
def SI(R:K1) b5 dA UQ c2 amH Fp FD Fu sE w:=
 SH (SG R) b5 dA UQ c2 amH Fp FD Fu sE w
theorem aAb(kn:K5)(hn:N5 Q kn 5 7 12 18 23)(h:SH kn (g 5) (g 7) (g 9) (g 12) (g 18) (g 20) (g 21) (g 22) (g 23) w):bQ pg eH (aD 1 (aA 6 (aA 1 (aA 11 nK)))) Q g w:=
 bC 1 (dP (GF (wE kn) 5 7 9 12 18 20 21 22 23 24) h (λg w h=>aC (jP 2 (aAa _ g w kn hn h))))
def acX(kn:K9)(R:K1) b5 dA UQ c2 dZ w:=
 (?X:PT (type_of%(tt (D32 (λc=>(aD 6 (aA 1 (aA 11 c)))) (Mq9 kn 5 7 9 12 18 20 21 22 23) [] R (El [5,7,9,12,13] [b5,dA,UQ,c2,dZ]) w= ?X) (by unfold D32 Tryz.f32 iL eH;exact ev))))
def F0 (R:K1) b5 dA UQ c2 dZ w:=
 acX (SI R) R b5 dA UQ c2 dZ w
def F1 (kn:K8) fW b5 dA UQ iJ c2 dZ L6 w:=
 bF pg (bZ .add 3 iB iB L6 (a7D 1)) w λm0 w=>
 kn fW b5 dA UQ iJ c2 dZ m0 w
def tO(kn:K8)(R:K1) fW b5 dA UQ iJ c2 dZ L6 aMq aTY aYW w:=
 (?X:PT (type_of%(tt (D32 (λc=>(aA 1 (bI (aD 1 (aA 1 (bI (bI (aA 1 (aD 1 (aA 11 c)))))))))) (Mq8 kn 3 5 7 9 11 12 13 14) [] R (El [3,5,7,9,11,12,13,14,15,16,17] [fW,b5,dA,UQ,iJ,c2,dZ,L6,aMq,aTY,aYW]) w= ?X) (by unfold D32 Tryz.f32 iL eH;exact ev))))
def acY(kn:K11) fW b5 dA UQ iJ c2 dZ L6 w:=
 (?X:PT (type_of%(tt (D32 (λc=>(aD 1 (bI (aD 1 (aA 1 (bI (bI (aA 1 (aD 1 (aA 11 c)))))))))) (aGM kn 3 5 7 9 11 12 13 14 15 16 17) [] nG (El [3,5,7,9,11,12,13,14] [fW,b5,dA,UQ,iJ,c2,dZ,L6]) w= ?X) (by unfold D32 Tryz.f32 iL eH;exact ev))))
def O7 (kn:K8)(R:K1) fW b5 dA UQ iJ c2 dZ L6 w:=
 acY (tO kn R) fW b5 dA UQ iJ c2 dZ L6 w
def O8 (kn:K8)(R:K1) fW b5 dA UQ iJ c2 dZ L6 w:=
 O7 (F1 kn) R fW b5 dA UQ iJ c2 dZ L6 w
theorem avJ(kn:K8)(R:K1)(hn:N8 Q kn 3 5 7 9 11 12 13 14)(hr:HR iL R Q)(h:O7 kn R (g 3) (g 5) (g 7) (g 9) (g 11) (g 12) (g 13) (g 14) w):bQ pg eH (aD 1 (aA 1 (bI (bI (aA 1 (aD 1 (aA 11 nK))))))) Q g w:=
 jP 1 (bC 1 (dP (aGM (tO kn R) 3 5 7 9 11 12 13 14 15 16 17) h (λg w h=>aC (vT _ h hn hr))))
def acZ(kn:K8)(k0:K5) fW b5 dA UQ iJ c2 dZ L6 w:=
 bF pg (bZ .lss 3 iB iB L6 (a7D 3)) w λl8 w=>
 JJ l8
  (kn fW b5 dA UQ iJ c2 dZ L6 w)
  (k0 b5 dA UQ c2 dZ w)
def adA(kn:K8)(k0:K5)(R:K1) fW b5 dA UQ iJ c2 dZ L6 w:=
 acZ (O8 kn R) k0 fW b5 dA UQ iJ c2 dZ L6 w
def tP(k0:K5)(R:K1) fW b5 dA UQ iJ c2 dZ L6 w:=
 aN (λ(X:(a7C×a7C)->K0) (t:a7C×a7C) (w:a7B)=>adA (λ_ _ _ _ _ _ dZ L6 w=>X (dZ,L6) w) k0 R fW b5 dA UQ iJ c2 t.1 t.2 w) (dZ,L6) w
theorem avK(k0:K5)(R:K1)(h0:E5 Q k0 0 5 7 9 12 13)(hr:HR iL R Q)(h:tP k0 R (g 3) (g 5) (g 7) (g 9) (g 11) (g 12) (g 13) (g 14) w):bQ pg eH (bI (aA 1 (aD 1 (aA 11 nK)))) Q g w:=by
 refine qO (λg:Env=>(g 13,g 14)) _ h (λX g1 w1 ha hL=> ?_);rw[<-bG 3 ha,<-bG 5 ha,<-bG 7 ha,<-bG 9 ha,<-bG 11 ha,<-bG 12 ha]at hL;exact(bC 1 (pV [(0,(nY k0 5 7 9 12 13))] (kr:=no) (Mq8 (O8 (λ_ _ _ _ _ _ dZ L6 w=>X (dZ,L6) w) R) 3 5 7 9 11 12 13 14) hL (λg w h=>aC (bC 1 (avJ _ g w (F1 (λ_ _ _ _ _ _ dZ L6 w=>X (dZ,L6) w)) R (λg w h=>aC (dP (Mq8 (λ_ _ _ _ _ _ dZ L6 w=>X (dZ,L6) w) 3 5 7 9 11 12 13 14) h bH)) hr h))) sL ⟨h0,trivial⟩))
def adB(kn:K8) fW b5 dA UQ iJ c2 dZ w:=
 kn fW b5 dA UQ iJ c2 dZ (a7D 0) w
def O9 (kn:K5)(R:K1) fW b5 dA UQ iJ c2 dZ w:=
 adB (tP kn R) fW b5 dA UQ iJ c2 dZ w
def Pa(R:K1) fW b5 dA UQ iJ c2 dZ w:=
 O9 (F0 R) R fW b5 dA UQ iJ c2 dZ w
theorem avL(kn:K5)(R:K1)(hn:N5 Q kn 5 7 9 12 13)(hr:HR iL R Q)(h:O9 kn R (g 3) (g 5) (g 7) (g 9) (g 11) (g 12) (g 13) w):bQ pg eH (aD 1 (aA 11 nK)) Q g w:=
 bC 1 (dP (Mq8 (tP kn R) 3 5 7 9 11 12 13 14) h (λg w h=>aC (jP 0 (avK _ g w kn R hn hr h))))
def adC(kn:K7)(R:K1) eQ jF w:=
 (?X:PT (type_of%(tt (D32 (λc=>(aD 11 c)) (DZ kn 3 5 7 9 11 12 13) [] R (El [0,1] [eQ,jF]) w= ?X) (by unfold D32 Tryz.f32 iL eH;exact ev))))
def adD(R:K1) eQ jF w:=
 adC (Pa R) R eQ jF w
def aEB a0 a1 w(R:K1):=
 adD R a0 a1 w
theorem aCh{a0 a1 w R}(h:aEB a0 a1 w R):aL pg Vg #[a0,a1] w R:=
 gF (ann:=eH) Tryz.f32 nK [a0,a1] iL 209 TryzM.mixed Tryz.func32 (bC 11 (vT (DZ (Pa R) 3 5 7 9 11 12 13) h (λg w h=>aC (bC 1 (avL _ g w (F0 R) R (λg w h=>aC (bC 6 (vT (Mq9 (SI R) 5 7 9 12 18 20 21 22 23) h (λg w h=>aC (bC 1 (aAb _ g w (SG R) (λg w h=>aC (gI h bH)) h))) bH))) bH h))) bH))
def iH:FA:=⟨Zi,λi=>match Nat.beq i 8 with|true=>lf (fz 2 (ft [] (fz 1 [])))|false=>match Nat.beq i 9 with|true=> .split 5 10 (pm [0,1,2,3,4,5,6,7,8,9,10,11,12,13] [(5,10)] (fz 5 (ft [] (fz 4 (ft [0,1,2] (fz 1 (ft [2] (fz 1 [])))))))) (pm [0,1,2,3,4,10,5,6,7,8,9,11,12,13] [(10,5)] (fz 5 (ft [0,1,4] (ft [] (fz 5 (ft [1] (fz 1 [])))))))|false=>match Nat.beq i 11 with|true=>lf (fz 3 (ft [] (fz 1 [])))|false=>match Nat.beq i 13 with|true=>lf (fz 2 (ft [] (fz 1 [])))|false=>match Nat.beq i 15 with|true=>lf (fz 2 (ft [] (fz 1 [])))|false=>match Nat.beq i 24 with|true=>lf (fz 2 (ft [] (fz 1 [])))|false=>match Nat.beq i 25 with|true=>lf (fz 6 (ft [] (fz 1 [])))|false=> .leaf ([],[]) []⟩
def mF:List ResultVar:=[.tmp 12,.cell 13 56,.tmp 14]
noncomputable def tD:Code:=aO Tryz.f33
def D33:DT:=bP pg iH tD Tryz.f33 (gP mF)
def Wh(R:K1) kM aK fA GI c3 fC eA w:=
 (?X:PT (type_of%(tt (D33 (λc=>(aA 1 (aA 3 c))) no [] R (El [0,1,5,9,13,15,16] [kM,aK,fA,GI,c3,fC,eA]) w= ?X) (by unfold D33 Tryz.f33 mF iH;exact ev))))
def Wi(kn:K10) kM aK Sg bA fA GI c3 fC eA DI w:=
 bF pg (bZ .add 3 iB iB DI (a7D 1)) w λe0 w=>
 kn kM aK Sg bA fA GI c3 fC eA e0 w
def avQ(kn:K12)(k2:K10) kM aK Sg bA fA GI c3 fC eA DI aMr aLw w:=
 (?X:PT (type_of%(tt (D33 (λc=>(bI (bI (aA 7 (aA 3 (bI (aD 1 (aA 1 (bI (bI (aA 1 (aD 1 (aA 3 c))))))))))))) (aGN kn 0 1 2 4 5 9 13 15 16 17 19 22) [(2,(GF k2 0 1 2 4 5 9 13 15 16 17))] nG (El [0,1,2,4,5,9,13,15,16,17,19,22] [kM,aK,Sg,bA,fA,GI,c3,fC,eA,DI,aMr,aLw]) w= ?X) (by unfold D33 Tryz.f33 mF iH;exact ev))))
def F2 (k2:K10) kM aK Sg bA fA GI c3 fC eA DI aMr aLw w:=
 aN (λ(X:(a7C×a7C)->K0) (t:a7C×a7C) (w:a7B)=>avQ (λ_ _ _ _ _ _ _ _ eA _ _ aLw w=>X (eA,aLw) w) k2 kM aK Sg bA fA GI c3 fC t.1 DI aMr t.2 w) (eA,aLw) w
theorem aCi(k2:K10)(h2:E10 Q k2 2 0 1 2 4 5 9 13 15 16 17)(h:F2 k2 (g 0) (g 1) (g 2) (g 4) (g 5) (g 9) (g 13) (g 15) (g 16) (g 17) (g 19) (g 22) w):bQ pg iH (bI (aA 7 (aA 3 (bI (aD 1 (aA 1 (bI (bI (aA 1 (aD 1 (aA 3 tD))))))))))) Q g w:=by
 refine qO (λg:Env=>(g 16,g 22)) _ h (λX g1 w1 ha hL=> ?_);rw[<-bG 0 ha,<-bG 1 ha,<-bG 2 ha,<-bG 4 ha,<-bG 5 ha,<-bG 9 ha,<-bG 13 ha,<-bG 15 ha,<-bG 17 ha,<-bG 19 ha]at hL;exact(pV [(2,(GF k2 0 1 2 4 5 9 13 15 16 17))] (kr:=no) (aGN (λ_ _ _ _ _ _ _ _ eA _ _ aLw w=>X (eA,aLw) w) 0 1 2 4 5 9 13 15 16 17 19 22) hL bH sL ⟨h2,trivial⟩)
def Wj(kn:K12)(R:K1) kM aK Sg bA fA GI c3 fC eA DI aVU aMr d0 aVp w:=
 (?X:PT (type_of%(tt (D33 (λc=>(aD 7 (aA 3 (bI (aD 1 (aA 1 (bI (bI (aA 1 (aD 1 (aA 3 c))))))))))) (aGN kn 0 1 2 4 5 9 13 15 16 17 19 22) [] R (El [0,1,2,4,5,9,13,15,16,17,18,19,20,21] [kM,aK,Sg,bA,fA,GI,c3,fC,eA,DI,aVU,aMr,d0,aVp]) w= ?X) (by unfold D33 Tryz.f33 mF iH;exact ev))))
def uU(kn:K10)(R:K1) kM aK Sg bA fA GI c3 fC eA DI aVU aMr d0 aVp w:=
 Wj (F2 kn) R kM aK Sg bA fA GI c3 fC eA DI aVU aMr d0 aVp w
def avR(kn:K14)(R:K1) kM aK Sg bA fA GI c3 fC eA DI w:=
 (?X:PT (type_of%(tt (D33 (λc=>(aD 3 (bI (aD 1 (aA 1 (bI (bI (aA 1 (aD 1 (aA 3 c)))))))))) (aU4 kn 0 1 2 4 5 9 13 15 16 17 18 19 20 21) [] R (El [0,1,2,4,5,9,13,15,16,17] [kM,aK,Sg,bA,fA,GI,c3,fC,eA,DI]) w= ?X) (by unfold D33 Tryz.f33 mF iH;exact ev))))
def Mi(kn:K10)(R:K1) kM aK Sg bA fA GI c3 fC eA DI w:=
 avR (uU kn R) R kM aK Sg bA fA GI c3 fC eA DI w
def SJ(kn:K10)(R:K1) kM aK Sg bA fA GI c3 fC eA DI w:=
 Mi (Wi kn) R kM aK Sg bA fA GI c3 fC eA DI w
theorem aAd(kn:K10)(R:K1)(hn:N10 Q kn 0 1 2 4 5 9 13 15 16 17)(hr:HR mF R Q)(h:Mi kn R (g 0) (g 1) (g 2) (g 4) (g 5) (g 9) (g 13) (g 15) (g 16) (g 17) w):bQ pg iH (aD 1 (aA 1 (bI (bI (aA 1 (aD 1 (aA 3 tD))))))) Q g w:=
 jP 1 (bC 3 (vT (aU4 (uU kn R) 0 1 2 4 5 9 13 15 16 17 18 19 20 21) h (λg w h=>aC (bC 7 (vT (aGN (F2 kn) 0 1 2 4 5 9 13 15 16 17 19 22) h (λg w h=>aC (jP 2 (aCi _ g w kn hn h))) hr))) hr))
def alC(kn:K10)(k0:K7) kM aK Sg bA fA GI c3 fC eA DI w:=
 bF pg (yM .len #[96] 3 [Sg]) w λd7 w=>
 bF pg (bZ .lss 3 iB iB DI d7) w λd8 w=>
 JJ d8
  (kn kM aK Sg bA fA GI c3 fC eA DI w)
  (k0 kM aK fA GI c3 fC eA w)
def alD(kn:K10)(k0:K7)(R:K1) kM aK Sg bA fA GI c3 fC eA DI w:=
 alC (SJ kn R) k0 kM aK Sg bA fA GI c3 fC eA DI w
def IT(k0:K7)(R:K1) kM aK Sg bA fA GI c3 fC eA DI w:=
 aN (λ(X:(a7C×a7C×a7C)->K0) (t:a7C×a7C×a7C) (w:a7B)=>alD (λ_ aK _ _ _ _ _ _ eA DI w=>X (aK,eA,DI) w) k0 R kM t.1 Sg bA fA GI c3 fC t.2.1 t.2.2 w) (aK,eA,DI) w
theorem aAe(k0:K7)(R:K1)(h0:E7 Q k0 0 0 1 5 9 13 15 16)(hr:HR mF R Q)(h:IT k0 R (g 0) (g 1) (g 2) (g 4) (g 5) (g 9) (g 13) (g 15) (g 16) (g 17) w):bQ pg iH (bI (aA 1 (aD 1 (aA 3 tD)))) Q g w:=by
 refine qO (λg:Env=>(g 1,g 16,g 17)) _ h (λX g1 w1 ha hL=> ?_);rw[<-bG 0 ha,<-bG 2 ha,<-bG 4 ha,<-bG 5 ha,<-bG 9 ha,<-bG 13 ha,<-bG 15 ha]at hL;exact(bC 1 (pV [(0,(DZ k0 0 1 5 9 13 15 16))] (kr:=no) (GF (SJ (λ_ aK _ _ _ _ _ _ eA DI w=>X (aK,eA,DI) w) R) 0 1 2 4 5 9 13 15 16 17) hL (λg w h=>aC (bC 1 (aAd _ g w (Wi (λ_ aK _ _ _ _ _ _ eA DI w=>X (aK,eA,DI) w)) R (λg w h=>aC (dP (GF (λ_ aK _ _ _ _ _ _ eA DI w=>X (aK,eA,DI) w) 0 1 2 4 5 9 13 15 16 17) h bH)) hr h))) sL ⟨h0,trivial⟩))
def alE(kn:K10) kM aK Sg bA fA GI c3 fC eA w:=
 kn kM aK Sg bA fA GI c3 fC eA (a7D 0) w
def SK(kn:K7)(R:K1) kM aK Sg bA fA GI c3 fC eA w:=
 alE (IT kn R) kM aK Sg bA fA GI c3 fC eA w
def SL(R:K1) kM aK Sg bA fA GI c3 fC eA w:=
 SK (Wh R) R kM aK Sg bA fA GI c3 fC eA w
theorem aAf(kn:K7)(R:K1)(hn:N7 Q kn 0 1 5 9 13 15 16)(hr:HR mF R Q)(h:SK kn R (g 0) (g 1) (g 2) (g 4) (g 5) (g 9) (g 13) (g 15) (g 16) w):bQ pg iH (aD 1 (aA 3 tD)) Q g w:=
 bC 1 (dP (GF (IT kn R) 0 1 2 4 5 9 13 15 16 17) h (λg w h=>aC (jP 0 (aAe _ g w kn R hn hr h))))
def alF(kn:K9) kM aK Sg r_3 bA fA w:=
 (?X:PT (type_of%(tt (D33 (λc=>(aD 3 c)) (Mq9 kn 0 1 2 4 5 9 13 15 16) [] nG (El [0,1,2,3,4,5] [kM,aK,Sg,r_3,bA,fA]) w= ?X) (by unfold D33 Tryz.f33 mF iH;exact ev))))
def alG(R:K1) kM aK Sg r_3 bA fA w:=
 alF (SL R) kM aK Sg r_3 bA fA w
def aGs a0 a1 a2 a3 a4 a5 w(R:K1):=
 alG R a0 a1 a2 a3 a4 a5 w
theorem aEC{a0 a1 a2 a3 a4 a5 w R}(h:aGs a0 a1 a2 a3 a4 a5 w R):aL pg Zi #[a0,a1,a2,a3,a4,a5] w R:=
 gF (ann:=iH) Tryz.f33 tD [a0,a1,a2,a3,a4,a5] mF 136 TryzM.mixed Tryz.func33 (bC 3 (dP (Mq9 (SL R) 0 1 2 4 5 9 13 15 16) h (λg w h=>aC (bC 1 (aAf _ g w (Wh R) R (λg w h=>aC (gI h bH)) bH h)))))
def JZ:FA:=nA Rt
def Ph:List ResultVar:=[.tmp 4]
noncomputable def Ts:Code:=aO Tryz.f34
def D34:DT:=bP pg JZ Ts Tryz.f34 (gP Ph)
def abD(R:K1) v_0 x_1 w:=
 (?X:PT (type_of%(tt (D34 (λc=>c) no [] R (El [0,1] [v_0,x_1]) w= ?X) (by unfold D34 Tryz.f34 Ph JZ;exact ev))))
def aA5 a0 a1 w(R:K1):=
 abD R a0 a1 w
theorem azC{a0 a1 w R}(h:aA5 a0 a1 w R):aL pg Rt #[a0,a1] w R:=
 gF (ann:=JZ) Tryz.f34 Ts [a0,a1] Ph 13 TryzM.mixed Tryz.func34 (gI h bH)
def Vl:FA:=nA amB
def adS:List ResultVar:=[.tmp 6]
noncomputable def ahO:Code:=aO Tryz.f35
def D35:DT:=bP pg Vl ahO Tryz.f35 (gP adS)
def aA4 (R:K1) eQ i_1 uO w:=
 (?X:PT (type_of%(tt (D35 (λc=>c) no [] R (El [0,1,2] [eQ,i_1,uO]) w= ?X) (by unfold D35 Tryz.f35 adS Vl;exact ev))))
def aJP a0 a1 a2 w(R:K1):=
 aA4 R a0 a1 a2 w
theorem aFu{a0 a1 a2 w R}(h:aJP a0 a1 a2 w R):aL pg amB #[a0,a1,a2] w R:=
 gF (ann:=Vl) Tryz.f35 ahO [a0,a1,a2] adS 19 TryzM.mixed Tryz.func35 (gI h bH)
def MS:FA:=nA U3
def SQ:List ResultVar:=[.tmp 4]
noncomputable def WD:Code:=aO Tryz.f36
def D36:DT:=bP pg MS WD Tryz.f36 (gP SQ)
def ajM(R:K1) sQ lL w:=
 (?X:PT (type_of%(tt (D36 (λc=>c) no [] R (El [0,1] [sQ,lL]) w= ?X) (by unfold D36 Tryz.f36 SQ MS;exact ev))))
def aEh a0 a1 w(R:K1):=
 ajM R a0 a1 w
theorem aBU{a0 a1 w R}(h:aEh a0 a1 w R):aL pg U3 #[a0,a1] w R:=
 gF (ann:=MS) Tryz.f36 WD [a0,a1] SQ 13 TryzM.mixed Tryz.func36 (gI h bH)
def Hx:FA:=nA Mu
def Lk:List ResultVar:=[.tmp 2]
noncomputable def Qn:Code:=aO Tryz.f37
def D37:DT:=bP pg Hx Qn Tryz.f37 (gP Lk)
def W1 (R:K1) w_0 w:=
 (?X:PT (type_of%(tt (D37 (λc=>c) no [] R (El [0] [w_0]) w= ?X) (by unfold D37 Tryz.f37 Lk Hx;exact ev))))
def arE a0 w(R:K1):=
 W1 R a0 w
theorem arF{a0 w R}(h:arE a0 w R):aL pg Mu #[a0] w R:=
 gF (ann:=Hx) Tryz.f37 Qn [a0] Lk 15 TryzM.mixed Tryz.func37 (gI h bH)
def uI:FA:=nA yR
def wY:List ResultVar:=[.tmp 4,.tmp 5]
noncomputable def Dq:Code:=aO Tryz.f38
def D38:DT:=bP pg uI Dq Tryz.f38 (gP wY)
def G7 (R:K1) eQ lL w:=
 (?X:PT (type_of%(tt (D38 (λc=>c) no [] R (El [0,1] [eQ,lL]) w= ?X) (by unfold D38 Tryz.f38 wY uI;exact ev))))
def Nr a0 a1 w(R:K1):=
 G7 R a0 a1 w
theorem TJ{a0 a1 w R}(h:Nr a0 a1 w R):aL pg yR #[a0,a1] w R:=
 gF (ann:=uI) Tryz.f38 Dq [a0,a1] wY 19 TryzM.mixed Tryz.func38 (gI h bH)
def Bb:FA:=nA DL
def CU:List ResultVar:=[.cell 2 107,.tmp 3]
noncomputable def Jd:Code:=aO Tryz.f39
def D39:DT:=bP pg Bb Jd Tryz.f39 (gP CU)
def NG(R:K1) bJ w:=
 (?X:PT (type_of%(tt (D39 (λc=>c) no [] R (El [0] [bJ]) w= ?X) (by unfold D39 Tryz.f39 CU Bb;exact ev))))
def W0 a0 w(R:K1):=
 NG R a0 w
theorem ZR{a0 w R}(h:W0 a0 w R):aL pg DL #[a0] w R:=
 gF (ann:=Bb) Tryz.f39 Jd [a0] CU 33 TryzM.mixed Tryz.func39 (gI h bH)
def eX:FA:=⟨yT,λi=>match Nat.beq i 9 with|true=>lf (fz 7 (ft [] (fz 2 [])))|false=> .leaf ([],[]) []⟩
def lC:List ResultVar:=[.tmp 4]
noncomputable def mZ:Code:=aO Tryz.f40
def D40:DT:=bP pg eX mZ Tryz.f40 (gP lC)
def xA(R:K1) CS w:=
 R CS w
def Hl(kn:K2)(k0:K1) CS LN w:=
 (?X:PT (type_of%(tt (D40 (λc=>(bI (bI (aD 1 (aA 2 (aA 2 (aA 2 c))))))) (vJ kn 7 8) [(0,(AN k0 7))] nG (El [7,8] [CS,LN]) w= ?X) (by unfold D40 Tryz.f40 lC eX;exact ev))))
def qJ(k0:K1) CS LN w:=
 aN (λ(X:a7C->K0) (t:a7C) (w:a7B)=>Hl (λ_ LN w=>X LN w) k0 CS t w) LN w
theorem S6 (k0:K1)(h0:E1 Q k0 0 7)(h:qJ k0 (g 7) (g 8) w):bQ pg eX (bI (aD 1 (aA 2 (aA 2 (aA 2 mZ))))) Q g w:=by
 refine qO (λg:Env=>g 8) _ h (λX g1 w1 ha hL=> ?_);rw[<-bG 7 ha]at hL;exact(pV [(0,(AN k0 7))] (kr:=no) (vJ (λ_ LN w=>X LN w) 7 8) hL bH sL ⟨h0,trivial⟩)
def qK(R:K1) CS LN w:=
 qJ (xA R) CS LN w
theorem S7 (kn:K1)(hn:N1 Q kn 7)(h:qJ kn (g 7) (g 8) w):bQ pg eX (aD 1 (aA 2 (aA 2 (aA 2 mZ)))) Q g w:=
 jP 0 (S6 _ g w kn hn h)
def Hm(kn:K2) sQ aVM w:=
 bF pg (S3 70 3 aVM) w λd9 w=>
 bF pg (mT 22 d9 d9) w λe0 w=>
 bF pg (yM .copy #[22,22] 3 [e0,sQ]) w λe3 w=>
 kn e0 e3 w
def xB(R:K1) sQ aVM w:=
 Hm (qK R) sQ aVM w
def Hn(kn:K2) sQ Vv w:=
 (?X:PT (type_of%(tt (D40 (λc=>(aD 2 (aA 2 c))) (vJ kn 0 6) [] nG (El [0,1] [sQ,Vv]) w= ?X) (by unfold D40 Tryz.f40 lC eX;exact ev))))
def xC(R:K1) sQ Vv w:=
 Hn (xB R) sQ Vv w
def Gm(kn:K2) sQ Vv w:=
 (?X:PT (type_of%(tt (D40 (λc=>(aD 2 c)) (vJ kn 0 1) [] nG (El [0,1] [sQ,Vv]) w= ?X) (by unfold D40 Tryz.f40 lC eX;exact ev))))
def Gn(R:K1) sQ Vv w:=
 Gm (xC R) sQ Vv w
def PM a0 a1 w(R:K1):=
 Gn R a0 a1 w
theorem UB{a0 a1 w R}(h:PM a0 a1 w R):aL pg yT #[a0,a1] w R:=
 gF (ann:=eX) Tryz.f40 mZ [a0,a1] lC 48 TryzM.mixed Tryz.func40 (bC 2 (dP (vJ (xC R) 0 1) h (λg w h=>aC (bC 2 (dP (vJ (xB R) 0 6) h (λg w h=>aC (bC 2 (dP (vJ (qK R) 7 8) h (λg w h=>aC (bC 1 (S7 _ g w (xA R) (λg w h=>aC (gI h bH)) h)))))))))))
def xD:FA:=⟨JM,λi=>match Nat.beq i 4 with|true=> .split 5 10 (pm [0,1,2,3,4,5,6,7,8,9,10,11,12,13] [(5,10)] (fz 5 (ft [] (fz 4 (ft [0,1,2] (fz 1 (ft [2] (fz 1 [])))))))) (pm [0,1,2,3,4,10,5,6,7,8,9,11,12,13] [(10,5)] (fz 5 (ft [0,1,2] (ft [] (fz 5 (ft [1] (fz 1 [])))))))|false=>match Nat.beq i 10 with|true=>lf (fz 6 (ft [] (fz 1 [])))|false=> .leaf ([],[]) []⟩
def AI:List ResultVar:=[.tmp 10,.cell 11 83,.tmp 12]
noncomputable def Nd:Code:=aO Tryz.f41
def D41:DT:=bP pg xD Nd Tryz.f41 (gP AI)
def Av(R:K1) I3 tV aqM g_7 c1 aYZ aZb aYV aY8 c8 w:=
 (?X:PT (type_of%(tt (D41 (λc=>(aA 4 c)) no [] R (El [1,3,4,7,11,13,14,16,17,18] [I3,tV,aqM,g_7,c1,aYZ,aZb,aYV,aY8,c8]) w= ?X) (by unfold D41 Tryz.f41 AI xD;exact ev))))
def TG(kn:K10)(R:K1) bJ I3 g_2 tV aqM w:=
 (?X:PT (type_of%(tt (D41 (λc=>(aD 4 c)) (GF kn 1 3 4 7 11 13 14 16 17 18) [] R (El [0,1,2,3,4] [bJ,I3,g_2,tV,aqM]) w= ?X) (by unfold D41 Tryz.f41 AI xD;exact ev))))
def TH(R:K1) bJ I3 g_2 tV aqM w:=
 TG (Av R) R bJ I3 g_2 tV aqM w
def aiE a0 a1 a2 a3 a4 w(R:K1):=
 TH R a0 a1 a2 a3 a4 w
theorem amO{a0 a1 a2 a3 a4 w R}(h:aiE a0 a1 a2 a3 a4 w R):aL pg JM #[a0,a1,a2,a3,a4] w R:=
 gF (ann:=xD) Tryz.f41 Nd [a0,a1,a2,a3,a4] AI 68 TryzM.mixed Tryz.func41 (bC 4 (vT (GF (Av R) 1 3 4 7 11 13 14 16 17 18) h (λg w h=>aC (gI h bH)) bH))
def aKR:FA:=nA aCF
def aO9:List ResultVar:=[.tmp 2]
noncomputable def aIL:Code:=aO Tryz.f42
def aGJ(R:K1) bJ w:=
 aL pg afH #[] w λb4 w=>
 aL pg Ai #[b4,bJ] w λb7 w=>
 aL pg DX #[b4] w λb9 w=>
 R b9 w
def aSu a0 w(R:K1):=
 aGJ R a0 w
theorem aKI{a0 w R}(h:aSu a0 w R):aL pg aCF #[a0] w R:=
 gF (ann:=aKR) Tryz.f42 aIL [a0] aO9 10 TryzM.mixed Tryz.func42 (gI h bH)
def yY:FA:=⟨Va,λi=>match Nat.beq i 13 with|true=>lf (fz 3 (ft [0,1] (fz 1 [])))|false=> .leaf ([],[]) []⟩
def BN:List ResultVar:=[.cell 2 115,.tmp 3]
noncomputable def WL:Code:=aO Tryz.f43
def D43:DT:=bP pg yY WL Tryz.f43 (gP BN)
def BG(R:K1) b2 h_4 w:=
 (?X:PT (type_of%(tt (D43 (λc=>(aA 3 (aA 7 c))) no [] R (El [2,4] [b2,h_4]) w= ?X) (by unfold D43 Tryz.f43 BN yY;exact ev))))
def akK(kn:K2)(R:K1) bJ b2 h_4 aMk w:=
 (?X:PT (type_of%(tt (D43 (λc=>(aD 3 (aA 7 c))) (vJ kn 2 4) [] R (El [0,2,4,5] [bJ,b2,h_4,aMk]) w= ?X) (by unfold D43 Tryz.f43 BN yY;exact ev))))
def BH(R:K1) bJ b2 h_4 aMk w:=
 akK (BG R) R bJ b2 h_4 aMk w
def akL(kn:K4)(R:K1) bJ w:=
 (?X:PT (type_of%(tt (D43 (λc=>(aD 7 c)) (lX kn 0 2 4 5) [] R (El [0] [bJ]) w= ?X) (by unfold D43 Tryz.f43 BN yY;exact ev))))
def akM(R:K1) bJ w:=
 akL (BH R) R bJ w
def aEv a0 w(R:K1):=
 akM R a0 w
theorem aCb{a0 w R}(h:aEv a0 w R):aL pg Va #[a0] w R:=
 gF (ann:=yY) Tryz.f43 WL [a0] BN 88 TryzM.mixed Tryz.func43 (bC 7 (vT (lX (BH R) 0 2 4 5) h (λg w h=>aC (bC 3 (vT (vJ (BG R) 2 4) h (λg w h=>aC (gI h bH)) bH))) bH))
def vN:FA:=nA RA
def Pn:List ResultVar:=[.tmp 4]
noncomputable def As:Code:=aO Tryz.f44
def D44:DT:=bP pg vN As Tryz.f44 (gP Pn)
def O4 (R:K1) b_5 w:=
 bF pg (S3 22 9 b_5) w λc9 w=>
 R c9 w
def acS(kn:K4)(k0:K1) YJ lL b_5 i_6 w:=
 (?X:PT (type_of%(tt (D44 (λc=>(bI (bI (aA 1 (aD 1 (aA 2 c)))))) (lX kn 0 1 5 6) [(0,(AN k0 5))] nG (El [0,1,5,6] [YJ,lL,b_5,i_6]) w= ?X) (by unfold D44 Tryz.f44 Pn vN;exact ev))))
def FZ(k0:K1) YJ lL b_5 i_6 w:=
 aN (λ(X:a7C->K0) (t:a7C) (w:a7B)=>acS (λ_ _ _ i_6 w=>X i_6 w) k0 YJ lL b_5 t w) i_6 w
theorem avF(k0:K1)(h0:E1 Q k0 0 5)(h:FZ k0 (g 0) (g 1) (g 5) (g 6) w):bQ pg vN (bI (aA 1 (aD 1 (aA 2 As)))) Q g w:=by
 refine qO (λg:Env=>g 6) _ h (λX g1 w1 ha hL=> ?_);rw[<-bG 0 ha,<-bG 1 ha,<-bG 5 ha]at hL;exact(pV [(0,(AN k0 5))] (kr:=no) (lX (λ_ _ _ i_6 w=>X i_6 w) 0 1 5 6) hL bH sL ⟨h0,trivial⟩)
def acT(kn:K4) YJ lL b_5 w:=
 kn YJ lL b_5 (a7D 0) w
def O5 (kn:K1) YJ lL b_5 w:=
 acT (FZ kn) YJ lL b_5 w
def O6 (R:K1) YJ lL b_5 w:=
 O5 (O4 R) YJ lL b_5 w
theorem avG(kn:K1)(hn:N1 Q kn 5)(h:O5 kn (g 0) (g 1) (g 5) w):bQ pg vN (aD 1 (aA 2 As)) Q g w:=
 bC 1 (dP (lX (FZ kn) 0 1 5 6) h (λg w h=>aC (jP 0 (avF _ g w kn hn h))))
def acU(kn:K3) YJ lL w:=
 bF pg (mT 22 lL lL) w λb8 w=>
 kn YJ lL b8 w
def acV(R:K1) YJ lL w:=
 acU (O6 R) YJ lL w
def aBd a0 a1 w(R:K1):=
 acV R a0 a1 w
theorem azW{a0 a1 w R}(h:aBd a0 a1 w R):aL pg RA #[a0,a1] w R:=
 gF (ann:=vN) Tryz.f44 As [a0,a1] Pn 20 TryzM.mixed Tryz.func44 (bC 2 (dP (kC (O6 R) 0 1 5) h (λg w h=>aC (bC 1 (avG _ g w (O4 R) (λg w h=>aC (gI h bH)) h)))))
def Ee:FA:=nA U9
def IX:List ResultVar:=[.tmp 2,.tmp 3,.tmp 4]
noncomputable def WK:Code:=aO Tryz.f45
def D45:DT:=bP pg Ee WK Tryz.f45 (gP IX)
def sF(R:K1) l_6 e_7 LN w:=
 (?X:PT (type_of%(tt (D45 (λc=>(aA 7 c)) no [] R (El [6,7,8] [l_6,e_7,LN]) w= ?X) (by unfold D45 Tryz.f45 IX Ee;exact ev))))
def akC(kn:K3)(R:K1) bJ w:=
 (?X:PT (type_of%(tt (D45 (λc=>(aD 7 c)) (kC kn 6 7 8) [] R (El [0] [bJ]) w= ?X) (by unfold D45 Tryz.f45 IX Ee;exact ev))))
def akD(R:K1) bJ w:=
 akC (sF R) R bJ w
def aEs a0 w(R:K1):=
 akD R a0 w
theorem aB6 {a0 w R}(h:aEs a0 w R):aL pg U9 #[a0] w R:=
 gF (ann:=Ee) Tryz.f45 WK [a0] IX 57 TryzM.mixed Tryz.func45 (bC 7 (vT (kC (sF R) 6 7 8) h (λg w h=>aC (gI h bH)) bH))
def HA:FA:=nA MC
def Lo:List ResultVar:=[.tmp 6,.tmp 7]
noncomputable def Qq:Code:=aO Tryz.f46
def D46:DT:=bP pg HA Qq Tryz.f46 (gP Lo)
def Ye(R:K1) w_0 s_1 uO w:=
 (?X:PT (type_of%(tt (D46 (λc=>c) no [] R (El [0,1,2] [w_0,s_1,uO]) w= ?X) (by unfold D46 Tryz.f46 Lo HA;exact ev))))
def auY a0 a1 a2 w(R:K1):=
 Ye R a0 a1 a2 w
theorem auZ{a0 a1 a2 w R}(h:auY a0 a1 a2 w R):aL pg MC #[a0,a1,a2] w R:=
 gF (ann:=HA) Tryz.f46 Qq [a0,a1,a2] Lo 30 TryzM.mixed Tryz.func46 (gI h bH)
def gY:FA:=nA JQ
def jJ:List ResultVar:=[.tmp 6,.tmp 7]
noncomputable def pU:Code:=aO Tryz.f47
def D47:DT:=bP pg gY pU Tryz.f47 (gP jJ)
def HO(R:K1) dB w:=
 R (.tuple #[dB,(a7D 0)]) w
def pH(kn:K9) uO mA HI jG RJ RO RS dB BC w:=
 bF pg (bZ .add 3 iB iB BC (a7D 1)) w λl9 w=>
 kn uO mA HI jG RJ RO RS dB l9 w
def tN(kn:K9)(R:K1) uO mA HI jG RJ RO RS dB BC aY5 aTt w:=
 (?X:PT (type_of%(tt (D47 (λc=>(aA 3 (bI (aD 1 (aA 1 (bI (bI (aA 1 (aD 1 (aA 12 c)))))))))) (Mq9 kn 2 8 10 11 12 13 14 15 16) [] R (El [2,8,10,11,12,13,14,15,16,17,18] [uO,mA,HI,jG,RJ,RO,RS,dB,BC,aY5,aTt]) w= ?X) (by unfold D47 Tryz.f47 jJ gY;exact ev))))
def Up(kn:K11) uO mA HI jG RJ RO RS dB BC w:=
 (?X:PT (type_of%(tt (D47 (λc=>(aD 3 (bI (aD 1 (aA 1 (bI (bI (aA 1 (aD 1 (aA 12 c)))))))))) (aGM kn 2 8 10 11 12 13 14 15 16 17 18) [] nG (El [2,8,10,11,12,13,14,15,16] [uO,mA,HI,jG,RJ,RO,RS,dB,BC]) w= ?X) (by unfold D47 Tryz.f47 jJ gY;exact ev))))
def HP(kn:K9)(R:K1) uO mA HI jG RJ RO RS dB BC w:=
 Up (tN kn R) uO mA HI jG RJ RO RS dB BC w
def HQ(kn:K9)(R:K1) uO mA HI jG RJ RO RS dB BC w:=
 HP (pH kn) R uO mA HI jG RJ RO RS dB BC w
theorem agQ(kn:K9)(R:K1)(hn:N9 Q kn 2 8 10 11 12 13 14 15 16)(hr:HR jJ R Q)(h:HP kn R (g 2) (g 8) (g 10) (g 11) (g 12) (g 13) (g 14) (g 15) (g 16) w):bQ pg gY (aD 1 (aA 1 (bI (bI (aA 1 (aD 1 (aA 12 pU))))))) Q g w:=
 jP 1 (bC 3 (dP (aGM (tN kn R) 2 8 10 11 12 13 14 15 16 17 18) h (λg w h=>aC (vT _ h hn hr))))
def Uq(kn:K9)(k0:K1) uO mA HI jG RJ RO RS dB BC w:=
 bF pg (bZ .lss 3 iB iB BC (a7D 4)) w λl7 w=>
 JJ l7
  (kn uO mA HI jG RJ RO RS dB BC w)
  (k0 dB w)
def Ur(kn:K9)(k0:K1)(R:K1) uO mA HI jG RJ RO RS dB BC w:=
 Uq (HQ kn R) k0 uO mA HI jG RJ RO RS dB BC w
def xW(k0:K1)(R:K1) uO mA HI jG RJ RO RS dB BC w:=
 aN (λ(X:(a7C×a7C)->K0) (t:a7C×a7C) (w:a7B)=>Ur (λ_ _ _ _ _ _ _ dB BC w=>X (dB,BC) w) k0 R uO mA HI jG RJ RO RS t.1 t.2 w) (dB,BC) w
theorem acQ(k0:K1)(R:K1)(h0:E1 Q k0 0 15)(hr:HR jJ R Q)(h:xW k0 R (g 2) (g 8) (g 10) (g 11) (g 12) (g 13) (g 14) (g 15) (g 16) w):bQ pg gY (bI (aA 1 (aD 1 (aA 12 pU)))) Q g w:=by
 refine qO (λg:Env=>(g 15,g 16)) _ h (λX g1 w1 ha hL=> ?_);rw[<-bG 2 ha,<-bG 8 ha,<-bG 10 ha,<-bG 11 ha,<-bG 12 ha,<-bG 13 ha,<-bG 14 ha]at hL;exact(bC 1 (pV [(0,(AN k0 15))] (kr:=no) (Mq9 (HQ (λ_ _ _ _ _ _ _ dB BC w=>X (dB,BC) w) R) 2 8 10 11 12 13 14 15 16) hL (λg w h=>aC (bC 1 (agQ _ g w (pH (λ_ _ _ _ _ _ _ dB BC w=>X (dB,BC) w)) R (λg w h=>aC (dP (Mq9 (λ_ _ _ _ _ _ _ dB BC w=>X (dB,BC) w) 2 8 10 11 12 13 14 15 16) h bH)) hr h))) sL ⟨h0,trivial⟩))
def Q0 (kn:K9) uO mA HI jG RJ RO RS dB w:=
 kn uO mA HI jG RJ RO RS dB (a7D 0) w
def FY(kn:K1)(R:K1) uO mA HI jG RJ RO RS dB w:=
 Q0 (xW kn R) uO mA HI jG RJ RO RS dB w
def xX(R:K1) uO mA HI jG RJ RO RS dB w:=
 FY (HO R) R uO mA HI jG RJ RO RS dB w
theorem acR(kn:K1)(R:K1)(hn:N1 Q kn 15)(hr:HR jJ R Q)(h:FY kn R (g 2) (g 8) (g 10) (g 11) (g 12) (g 13) (g 14) (g 15) w):bQ pg gY (aD 1 (aA 12 pU)) Q g w:=
 bC 1 (dP (Mq9 (xW kn R) 2 8 10 11 12 13 14 15 16) h (λg w h=>aC (jP 0 (acQ _ g w kn R hn hr h))))
def Q1 (kn:K8)(R:K1) w_0 s_1 uO w:=
 (?X:PT (type_of%(tt (D47 (λc=>(aD 12 c)) (Mq8 kn 2 8 10 11 12 13 14 15) [] R (El [0,1,2] [w_0,s_1,uO]) w= ?X) (by unfold D47 Tryz.f47 jJ gY;exact ev))))
def Q2 (R:K1) w_0 s_1 uO w:=
 Q1 (xX R) R w_0 s_1 uO w
def akE a0 a1 a2 w(R:K1):=
 Q2 R a0 a1 a2 w
theorem aoR{a0 a1 a2 w R}(h:akE a0 a1 a2 w R):aL pg JQ #[a0,a1,a2] w R:=
 gF (ann:=gY) Tryz.f47 pU [a0,a1,a2] jJ 119 TryzM.mixed Tryz.func47 (bC 12 (vT (Mq8 (xX R) 2 8 10 11 12 13 14 15) h (λg w h=>aC (bC 1 (acR _ g w (HO R) R (λg w h=>aC (gI h bH)) bH h))) bH))
def HB:FA:=nA MF
def Lp:List ResultVar:=[.cell 2 40,.tmp 3]
noncomputable def Qr:Code:=aO Tryz.f48
def D48:DT:=bP pg HB Qr Tryz.f48 (gP Lp)
def Ym(R:K1) Ah w:=
 (?X:PT (type_of%(tt (D48 (λc=>c) no [] R (El [0] [Ah]) w= ?X) (by unfold D48 Tryz.f48 Lp HB;exact ev))))
def avM a0 w(R:K1):=
 Ym R a0 w
theorem avN{a0 w R}(h:avM a0 w R):aL pg MF #[a0] w R:=
 gF (ann:=HB) Tryz.f48 Qr [a0] Lp 39 TryzM.mixed Tryz.func48 (gI h bH)
def M0:FA:=nA Vf
def S1:List ResultVar:=[.cell 8 59,.tmp 9,.tmp 10]
noncomputable def WQ:Code:=aO Tryz.f49
def D49:DT:=bP pg M0 WQ Tryz.f49 (gP S1)
def akY(R:K1) bU aLB b_2 fW w:=
 (?X:PT (type_of%(tt (D49 (λc=>c) no [] R (El [0,1,2,3] [bU,aLB,b_2,fW]) w= ?X) (by unfold D49 Tryz.f49 S1 M0;exact ev))))
def aEA a0 a1 a2 a3 w(R:K1):=
 akY R a0 a1 a2 a3 w
theorem aCg{a0 a1 a2 a3 w R}(h:aEA a0 a1 a2 a3 w R):aL pg Vf #[a0,a1,a2,a3] w R:=
 gF (ann:=M0) Tryz.f49 WQ [a0,a1,a2,a3] S1 88 TryzM.mixed Tryz.func49 (gI h bH)
def sD:FA:=nA Qc
def F7:List ResultVar:=[.cell 2 128,.tmp 3]
noncomputable def EF:Code:=aO Tryz.f50
def D50:DT:=bP pg sD EF Tryz.f50 (gP F7)
def V6 (R:K1) b2 l_4 iU w:=
 (?X:PT (type_of%(tt (D50 (λc=>(aA 1 (aA 4 c))) no [] R (El [2,4,5] [b2,l_4,iU]) w= ?X) (by unfold D50 Tryz.f50 F7 sD;exact ev))))
def atU(kn:K3)(k0:K3) b2 l_4 iU w:=
 (?X:PT (type_of%(tt (D50 (λc=>(bI (bI (aD 1 (aA 4 c))))) (kC kn 2 4 5) [(0,(kC k0 2 4 5))] nG (El [2,4,5] [b2,l_4,iU]) w= ?X) (by unfold D50 Tryz.f50 F7 sD;exact ev))))
def Md(k0:K3) b2 l_4 iU w:=
 aN (λ(X:a7C->K0) (t:a7C) (w:a7B)=>atU (λ_ _ iU w=>X iU w) k0 b2 l_4 t w) iU w
theorem aBY(k0:K3)(h0:E3 Q k0 0 2 4 5)(h:Md k0 (g 2) (g 4) (g 5) w):bQ pg sD (bI (aD 1 (aA 4 EF))) Q g w:=by
 refine qO (λg:Env=>g 5) _ h (λX g1 w1 ha hL=> ?_);rw[<-bG 2 ha,<-bG 4 ha]at hL;exact(pV [(0,(kC k0 2 4 5))] (kr:=no) (kC (λ_ _ iU w=>X iU w) 2 4 5) hL bH sL ⟨h0,trivial⟩)
def V7 (R:K1) b2 l_4 iU w:=
 Md (V6 R) b2 l_4 iU w
theorem aBZ(kn:K3)(hn:N3 Q kn 2 4 5)(h:Md kn (g 2) (g 4) (g 5) w):bQ pg sD (aD 1 (aA 4 EF)) Q g w:=
 jP 0 (aBY _ g w kn hn h)
def V8 (kn:K3)(R:K1) eQ w:=
 (?X:PT (type_of%(tt (D50 (λc=>(aD 4 c)) (kC kn 2 4 5) [] R (El [0] [eQ]) w= ?X) (by unfold D50 Tryz.f50 F7 sD;exact ev))))
def V9 (R:K1) eQ w:=
 V8 (V7 R) R eQ w
def azH a0 w(R:K1):=
 V9 R a0 w
theorem abL{a0 w R}(h:azH a0 w R):aL pg Qc #[a0] w R:=
 gF (ann:=sD) Tryz.f50 EF [a0] F7 33 TryzM.mixed Tryz.func50 (bC 4 (vT (kC (V7 R) 2 4 5) h (λg w h=>aC (bC 1 (aBZ _ g w (V6 R) (λg w h=>aC (gI h bH)) h))) bH))
def J1:FA:=nA Iq
def Pm:List ResultVar:=[.cell 4 128,.tmp 5]
noncomputable def Tu:Code:=aO Tryz.f51
def D51:DT:=bP pg J1 Tu Tryz.f51 (gP Pm)
def acC(R:K1) b0 Ei w:=
 (?X:PT (type_of%(tt (D51 (λc=>c) no [] R (El [0,1] [b0,Ei]) w= ?X) (by unfold D51 Tryz.f51 Pm J1;exact ev))))
def aA9 a0 a1 w(R:K1):=
 acC R a0 a1 w
theorem azQ{a0 a1 w R}(h:aA9 a0 a1 w R):aL pg Iq #[a0,a1] w R:=
 gF (ann:=J1) Tryz.f51 Tu [a0,a1] Pm 17 TryzM.mixed Tryz.func51 (gI h bH)
def J3:FA:=nA RD
def Pp:List ResultVar:=[.cell 8 128,.tmp 9]
noncomputable def Tw:Code:=aO Tryz.f52
def D52:DT:=bP pg J3 Tw Tryz.f52 (gP Pp)
def adE(R:K1) bU b1 aHX b_3 w:=
 (?X:PT (type_of%(tt (D52 (λc=>c) no [] R (El [0,1,2,3] [bU,b1,aHX,b_3]) w= ?X) (by unfold D52 Tryz.f52 Pp J3;exact ev))))
def aBf a0 a1 a2 a3 w(R:K1):=
 adE R a0 a1 a2 a3 w
theorem aAc{a0 a1 a2 a3 w R}(h:aBf a0 a1 a2 a3 w R):aL pg RD #[a0,a1,a2,a3] w R:=
 gF (ann:=J3) Tryz.f52 Tw [a0,a1,a2,a3] Pp 37 TryzM.mixed Tryz.func52 (gI h bH)
def MX:FA:=⟨LV,λi=>match Nat.beq i 3 with|true=>lf (fz 7 (ft [] (fz 3 (ft [0] (fz 1 [])))))|false=>match Nat.beq i 4 with|true=>lf (fz 10 (ft [0,1,3,4,5,7,8] (fz 1 [])))|false=> .leaf ([],[]) []⟩
def SY:List ResultVar:=[.cell 6 128,.tmp 7]
noncomputable def WJ:Code:=aO Tryz.f53
def D53:DT:=bP pg MX WJ Tryz.f53 (gP SY)
def akB(R:K1) b0 aHW b_2 w:=
 (?X:PT (type_of%(tt (D53 (λc=>c) no [] R (El [0,1,2] [b0,aHW,b_2]) w= ?X) (by unfold D53 Tryz.f53 SY MX;exact ev))))
def aEq a0 a1 a2 w(R:K1):=
 akB R a0 a1 a2 w
theorem aB5 {a0 a1 a2 w R}(h:aEq a0 a1 a2 w R):aL pg LV #[a0,a1,a2] w R:=
 gF (ann:=MX) Tryz.f53 WJ [a0,a1,a2] SY 40 TryzM.mixed Tryz.func53 (gI h bH)
def MT:FA:=nA LU
def SS:List ResultVar:=[.tmp 2]
noncomputable def WE:Code:=aO Tryz.f54
def D54:DT:=bP pg MT WE Tryz.f54 (gP SS)
def ajS(R:K1) bJ w:=
 (?X:PT (type_of%(tt (D54 (λc=>c) no [] R (El [0] [bJ]) w= ?X) (by unfold D54 Tryz.f54 SS MT;exact ev))))
def aEk a0 w(R:K1):=
 ajS R a0 w
theorem aBX{a0 w R}(h:aEk a0 w R):aL pg LU #[a0] w R:=
 gF (ann:=MT) Tryz.f54 WE [a0] SS 9 TryzM.mixed Tryz.func54 (gI h bH)
def sX:FA:=⟨MG,λi=>match Nat.beq i 3 with|true=>lf (fz 2 (ft [] (fz 1 [])))|false=>match Nat.beq i 5 with|true=>lf (fz 12 (ft [] (fz 1 [])))|false=>match Nat.beq i 11 with|true=>lf (fz 2 (ft [] (fz 1 [])))|false=>match Nat.beq i 12 with|true=>lf (fz 4 (ft [] (fz 1 [])))|false=>match Nat.beq i 17 with|true=>lf (fz 2 (ft [] (fz 1 [])))|false=>match Nat.beq i 19 with|true=>lf (fz 8 (ft [] (fz 1 [])))|false=>match Nat.beq i 20 with|true=>lf (fz 8 (ft [] (fz 1 [])))|false=> .leaf ([],[]) []⟩
def vY:List ResultVar:=[.tmp 4,.cell 5 56,.tmp 6]
noncomputable def Qs:Code:=aO Tryz.f55
def D55:DT:=bP pg sX Qs Tryz.f55 (gP vY)
def vV(R:K1) r_2 b5 dA k_8 x_9 w:=
 (?X:PT (type_of%(tt (D55 (λc=>(aA 3 (aA 6 c))) no [] R (El [2,5,7,8,9] [r_2,b5,dA,k_8,x_9]) w= ?X) (by unfold D55 Tryz.f55 vY sX;exact ev))))
def Yn(kn:K5)(R:K1) r_2 b5 dA k_8 w:=
 (?X:PT (type_of%(tt (D55 (λc=>(aD 3 (aA 6 c))) (nY kn 2 5 7 8 9) [] R (El [2,5,7,8] [r_2,b5,dA,k_8]) w= ?X) (by unfold D55 Tryz.f55 vY sX;exact ev))))
def Cr(R:K1) r_2 b5 dA k_8 w:=
 Yn (vV R) R r_2 b5 dA k_8 w
def Yo(kn:K4)(R:K1) Ah s_1 w:=
 (?X:PT (type_of%(tt (D55 (λc=>(aD 6 c)) (lX kn 2 5 7 8) [] R (El [0,1] [Ah,s_1]) w= ?X) (by unfold D55 Tryz.f55 vY sX;exact ev))))
def Yp(R:K1) Ah s_1 w:=
 Yo (Cr R) R Ah s_1 w
def avO a0 a1 w(R:K1):=
 Yp R a0 a1 w
theorem avP{a0 a1 w R}(h:avO a0 a1 w R):aL pg MG #[a0,a1] w R:=
 gF (ann:=sX) Tryz.f55 Qs [a0,a1] vY 72 TryzM.mixed Tryz.func55 (bC 6 (vT (lX (Cr R) 2 5 7 8) h (λg w h=>aC (bC 3 (vT (nY (vV R) 2 5 7 8 9) h (λg w h=>aC (gI h bH)) bH))) bH))
def Ed:FA:=nA JP
def H0:List ResultVar:=[.tmp 4,.tmp 5]
noncomputable def Ni:Code:=aO Tryz.f56
def D56:DT:=bP pg Ed Ni Tryz.f56 (gP H0)
def Ud(R:K1) sQ y_1 w:=
 (?X:PT (type_of%(tt (D56 (λc=>c) no [] R (El [0,1] [sQ,y_1]) w= ?X) (by unfold D56 Tryz.f56 H0 Ed;exact ev))))
def ajF a0 a1 w(R:K1):=
 Ud R a0 a1 w
theorem anI{a0 a1 w R}(h:ajF a0 a1 w R):aL pg JP #[a0,a1] w R:=
 gF (ann:=Ed) Tryz.f56 Ni [a0,a1] H0 30 TryzM.mixed Tryz.func56 (gI h bH)
def gX:FA:=⟨JN,λi=>match Nat.beq i 24 with|true=> .leaf ([],[]) (fz 6 [])|false=> .leaf ([],[]) []⟩
def jI:List ResultVar:=[.tmp 4,.tmp 5,.tmp 6,.tmp 7]
noncomputable def CL:Code:=aO Tryz.f57
def D57:DT:=bP pg gX CL Tryz.f57 (gP jI)
def AA(R:K1) bJ h_8 vC anE w:=
 (?X:PT (type_of%(tt (D57 (λc=>(aA 1 (aA 4 (aA 5 c)))) no [] R (El [0,8,10,11] [bJ,h_8,vC,anE]) w= ?X) (by unfold D57 Tryz.f57 jI gX;exact ev))))
def AB(k1:K4)(R:K1) bJ h_8 vC anE w:=
 (?X:PT (type_of%(tt (D57 (λc=>(aA 1 (bI (aA 1 (aD 1 (aA 4 (aA 5 c))))))) no [(1,(lX k1 0 8 10 11))] R (El [0,8,10,11] [bJ,h_8,vC,anE]) w= ?X) (by unfold D57 Tryz.f57 jI gX;exact ev))))
def T8 (kn:K4)(R:K1) bJ jF h_8 vC anE i4 w:=
 (?X:PT (type_of%(tt (D57 (λc=>(aD 1 (bI (aA 1 (aD 1 (aA 4 (aA 5 c))))))) (lX kn 0 8 10 11) [] R (El [0,1,8,10,11,54] [bJ,jF,h_8,vC,anE,i4]) w= ?X) (by unfold D57 Tryz.f57 jI gX;exact ev))))
def HJ(k1:K4)(R:K1) bJ jF h_8 vC anE i4 w:=
 T8 (AB k1 R) R bJ jF h_8 vC anE i4 w
def T9 (kn:K6) bJ jF h_8 vC anE w:=
 bF pg (pZ 183 h_8 0) w λi3 w=>
 bF pg (cK 3 i3) w λi4 w=>
 kn bJ jF h_8 vC anE i4 w
def HK(kn:K4)(R:K1) bJ jF h_8 vC anE w:=
 T9 (HJ kn R) bJ jF h_8 vC anE w
def AD(R:K1) bJ jF h_8 vC anE w:=
 HK (AA R) R bJ jF h_8 vC anE w
theorem agJ(kn:K4)(R:K1)(hn:N4 Q kn 0 8 10 11)(hr:HR jI R Q)(h:HK kn R (g 0) (g 1) (g 8) (g 10) (g 11) w):bQ pg gX (aD 1 (aA 4 (aA 5 CL))) Q g w:=
 bC 1 (dP (Aj (HJ kn R) 0 1 8 10 11 54) h (λg w h=>aC (jP 1 (bC 1 (vT (lX (AB kn R) 0 8 10 11) h (λg w h=>aC (pV [(1,(lX kn 0 8 10 11))] no h sL hr ⟨hn,trivial⟩)) hr)))))
def Ua(kn:K5)(R:K1) bJ jF h_8 w:=
 (?X:PT (type_of%(tt (D57 (λc=>(aD 4 (aA 5 c))) (nY kn 0 1 8 10 11) [] R (El [0,1,8] [bJ,jF,h_8]) w= ?X) (by unfold D57 Tryz.f57 jI gX;exact ev))))
def xU(R:K1) bJ jF h_8 w:=
 Ua (AD R) R bJ jF h_8 w
def QO(kn:K3)(R:K1) bJ jF w:=
 (?X:PT (type_of%(tt (D57 (λc=>(aD 5 c)) (kC kn 0 1 8) [] R (El [0,1] [bJ,jF]) w= ?X) (by unfold D57 Tryz.f57 jI gX;exact ev))))
def QP(R:K1) bJ jF w:=
 QO (xU R) R bJ jF w
def ajC a0 a1 w(R:K1):=
 QP R a0 a1 w
theorem anF{a0 a1 w R}(h:ajC a0 a1 w R):aL pg JN #[a0,a1] w R:=
 gF (ann:=gX) Tryz.f57 CL [a0,a1] jI 103 TryzM.mixed Tryz.func57 (bC 5 (vT (kC (xU R) 0 1 8) h (λg w h=>aC (bC 4 (vT (nY (AD R) 0 1 8 10 11) h (λg w h=>aC (bC 1 (agJ _ g w (AA R) R (λg w h=>aC (gI h bH)) bH h))) bH))) bH))
def cH:FA:=⟨Hs,λi=>match Nat.beq i 8 with|true=>lf (fz 2 (ft [] (fz 1 [])))|false=>match Nat.beq i 34 with|true=>lf (fz 8 (ft [] (fz 1 (ft [] []))))|false=>match Nat.beq i 41 with|true=>lf (fz 3 (ft [] (fz 1 [])))|false=> .leaf ([],[]) []⟩
def kA:List ResultVar:=[.tmp 4,.cell 5 81,.tmp 6]
noncomputable def fJ:Code:=aO Tryz.f58
def D58:DT:=bP pg cH fJ Tryz.f58 (gP kA)
def Gf(R:K1) b5 b9 jG gQ w:=
 (?X:PT (type_of%(tt (D58 (λc=>(aA 1 (aA 1 (aA 1 (aA 9 c))))) no [] R (El [5,9,11,14] [b5,b9,jG,gQ]) w= ?X) (by unfold D58 Tryz.f58 kA cH;exact ev))))
def Gg(kn:K8) b5 LN b9 jG bT gQ l6 l7 w:=
 bF pg (bZ .add 3 iB iB l7 (a7D 1)) w λq4 w=>
 kn b5 LN b9 jG bT gQ l6 q4 w
def Q3 (kn:K10)(k5:K8) b5 LN b9 jG bT gQ l6 l7 o9 p0 w:=
 (?X:PT (type_of%(tt (D58 (λc=>(bI (bI (aA 8 (bI (aD 1 (aA 2 (bI (bI (aA 1 (aD 1 (aA 1 (aA 1 (aA 9 c)))))))))))))) (GF kn 5 8 9 11 12 14 76 77 109 110) [(5,(Mq8 k5 5 8 9 11 12 14 76 77))] nG (El [5,8,9,11,12,14,76,77,109,110] [b5,LN,b9,jG,bT,gQ,l6,l7,o9,p0]) w= ?X) (by unfold D58 Tryz.f58 kA cH;exact ev))))
def nI(k5:K8) b5 LN b9 jG bT gQ l6 l7 o9 p0 w:=
 aN (λ(X:a7C->K0) (t:a7C) (w:a7B)=>Q3 (λ_ _ _ _ _ _ _ _ _ p0 w=>X p0 w) k5 b5 LN b9 jG bT gQ l6 l7 o9 t w) p0 w
theorem adV(k5:K8)(h5:E8 Q k5 5 5 8 9 11 12 14 76 77)(h:nI k5 (g 5) (g 8) (g 9) (g 11) (g 12) (g 14) (g 76) (g 77) (g 109) (g 110) w):bQ pg cH (bI (aA 8 (bI (aD 1 (aA 2 (bI (bI (aA 1 (aD 1 (aA 1 (aA 1 (aA 9 fJ)))))))))))) Q g w:=by
 refine qO (λg:Env=>g 110) _ h (λX g1 w1 ha hL=> ?_);rw[<-bG 5 ha,<-bG 8 ha,<-bG 9 ha,<-bG 11 ha,<-bG 12 ha,<-bG 14 ha,<-bG 76 ha,<-bG 77 ha,<-bG 109 ha]at hL;exact(pV [(5,(Mq8 k5 5 8 9 11 12 14 76 77))] (kr:=no) (GF (λ_ _ _ _ _ _ _ _ _ p0 w=>X p0 w) 5 8 9 11 12 14 76 77 109 110) hL bH sL ⟨h5,trivial⟩)
def Q4 (kn:K10)(k3:K4) b5 LN b9 jG bT gQ l6 l7 w:=
 (?X:PT (type_of%(tt (D58 (λc=>(aD 8 (bI (aD 1 (aA 2 (bI (bI (aA 1 (aD 1 (aA 1 (aA 1 (aA 9 c)))))))))))) (GF kn 5 8 9 11 12 14 76 77 109 110) [(3,(lX k3 5 9 11 14))] nG (El [5,8,9,11,12,14,76,77] [b5,LN,b9,jG,bT,gQ,l6,l7]) w= ?X) (by unfold D58 Tryz.f58 kA cH;exact ev))))
def Gh(kn:K8)(k3:K4) b5 LN b9 jG bT gQ l6 l7 w:=
 Q4 (nI kn) k3 b5 LN b9 jG bT gQ l6 l7 w
def Gi(kn:K8)(k3:K4) b5 LN b9 jG bT gQ l6 l7 w:=
 Gh (Gg kn) k3 b5 LN b9 jG bT gQ l6 l7 w
theorem adW(kn:K8)(k3:K4)(hn:N8 Q kn 5 8 9 11 12 14 76 77)(h3:E4 Q k3 3 5 9 11 14)(h:Gh kn k3 (g 5) (g 8) (g 9) (g 11) (g 12) (g 14) (g 76) (g 77) w):bQ pg cH (aD 1 (aA 2 (bI (bI (aA 1 (aD 1 (aA 1 (aA 1 (aA 9 fJ))))))))) Q g w:=
 jP 4 (bC 8 (pV [(3,(lX k3 5 9 11 14))] (kr:=no) (GF (nI kn) 5 8 9 11 12 14 76 77 109 110) h (λg w h=>aC (jP 5 (adV _ g w kn hn h))) sL ⟨h3,trivial⟩))
def Pt(kn:K8)(k3:K4) b5 LN b9 jG bT gQ l6 l7 w:=
 bF pg (bZ .lss 3 iB iB l7 l6) w λl8 w=>
 JJ l8
  (kn b5 LN b9 jG bT gQ l6 l7 w)
  (k3 b5 b9 jG gQ w)
def Pv(kn:K8)(k3:K4) b5 LN b9 jG bT gQ l6 l7 w:=
 Pt (Gi kn k3) k3 b5 LN b9 jG bT gQ l6 l7 w
def lO(k3:K4) b5 LN b9 jG bT gQ l6 l7 w:=
 aN (λ(X:(a7C×a7C)->K0) (t:a7C×a7C) (w:a7B)=>Pv (λ_ _ _ _ _ gQ _ l7 w=>X (gQ,l7) w) k3 b5 LN b9 jG bT t.1 l6 t.2 w) (gQ,l7) w
theorem YS(k3:K4)(h3:E4 Q k3 3 5 9 11 14)(h:lO k3 (g 5) (g 8) (g 9) (g 11) (g 12) (g 14) (g 76) (g 77) w):bQ pg cH (bI (aA 1 (aD 1 (aA 1 (aA 1 (aA 9 fJ)))))) Q g w:=by
 refine qO (λg:Env=>(g 14,g 77)) _ h (λX g1 w1 ha hL=> ?_);rw[<-bG 5 ha,<-bG 8 ha,<-bG 9 ha,<-bG 11 ha,<-bG 12 ha,<-bG 76 ha]at hL;exact(bC 2 (pV [(3,(lX k3 5 9 11 14))] (kr:=no) (Mq8 (Gi (λ_ _ _ _ _ gQ _ l7 w=>X (gQ,l7) w) k3) 5 8 9 11 12 14 76 77) hL (λg w h=>aC (bC 1 (adW _ g w (Gg (λ_ _ _ _ _ gQ _ l7 w=>X (gQ,l7) w)) k3 (λg w h=>aC (dP (Mq8 (λ_ _ _ _ _ gQ _ l7 w=>X (gQ,l7) w) 5 8 9 11 12 14 76 77) h bH)) h3 h))) sL ⟨h3,trivial⟩))
def Pw(kn:K8) b5 LN b9 jG bT gQ w:=
 kn b5 LN b9 jG bT gQ LN (a7D 0) w
def CY(kn:K4) b5 LN b9 jG bT gQ w:=
 Pw (lO kn) b5 LN b9 jG bT gQ w
def CZ(R:K1) b5 LN b9 jG bT gQ w:=
 CY (Gf R) b5 LN b9 jG bT gQ w
theorem YT(kn:K4)(hn:N4 Q kn 5 9 11 14)(h:CY kn (g 5) (g 8) (g 9) (g 11) (g 12) (g 14) w):bQ pg cH (aD 1 (aA 1 (aA 1 (aA 9 fJ)))) Q g w:=
 bC 1 (dP (Mq8 (lO kn) 5 8 9 11 12 14 76 77) h (λg w h=>aC (jP 3 (YS _ g w kn hn h))))
def Px(kn:K6) b5 LN b9 jG bT w:=
 kn b5 LN b9 jG bT (.slice none 0 0) w
def C0 (R:K1) b5 LN b9 jG bT w:=
 Px (CZ R) b5 LN b9 jG bT w
def Py(kn:K6)(k1:K5) b5 LN b9 jG bT j5 w:=
 (?X:PT (type_of%(tt (D58 (λc=>(bI (bI (aA 1 (aD 1 (aA 9 c)))))) (Aj kn 5 8 9 11 12 65) [(1,(nY k1 5 8 9 11 12))] nG (El [5,8,9,11,12,65] [b5,LN,b9,jG,bT,j5]) w= ?X) (by unfold D58 Tryz.f58 kA cH;exact ev))))
def lP(k1:K5) b5 LN b9 jG bT j5 w:=
 aN (λ(X:a7C->K0) (t:a7C) (w:a7B)=>Py (λ_ _ _ _ _ j5 w=>X j5 w) k1 b5 LN b9 jG bT t w) j5 w
theorem YU(k1:K5)(h1:E5 Q k1 1 5 8 9 11 12)(h:lP k1 (g 5) (g 8) (g 9) (g 11) (g 12) (g 65) w):bQ pg cH (bI (aA 1 (aD 1 (aA 9 fJ)))) Q g w:=by
 refine qO (λg:Env=>g 65) _ h (λX g1 w1 ha hL=> ?_);rw[<-bG 5 ha,<-bG 8 ha,<-bG 9 ha,<-bG 11 ha,<-bG 12 ha]at hL;exact(pV [(1,(nY k1 5 8 9 11 12))] (kr:=no) (Aj (λ_ _ _ _ _ j5 w=>X j5 w) 5 8 9 11 12 65) hL bH sL ⟨h1,trivial⟩)
def Pz(kn:K6) b5 LN b9 jG bT w:=
 kn b5 LN b9 jG bT (a7D 0) w
def C1 (kn:K5) b5 LN b9 jG bT w:=
 Pz (lP kn) b5 LN b9 jG bT w
def C2 (R:K1) b5 LN b9 jG bT w:=
 C1 (C0 R) b5 LN b9 jG bT w
theorem YV(kn:K5)(hn:N5 Q kn 5 8 9 11 12)(h:C1 kn (g 5) (g 8) (g 9) (g 11) (g 12) w):bQ pg cH (aD 1 (aA 9 fJ)) Q g w:=
 bC 1 (dP (Aj (lP kn) 5 8 9 11 12 65) h (λg w h=>aC (jP 1 (YU _ g w kn hn h))))
def PA(kn:K5)(R:K1) bJ jF w:=
 (?X:PT (type_of%(tt (D58 (λc=>(aD 9 c)) (nY kn 5 8 9 11 12) [] R (El [0,1] [bJ,jF]) w= ?X) (by unfold D58 Tryz.f58 kA cH;exact ev))))
def PB(R:K1) bJ jF w:=
 PA (C2 R) R bJ jF w
def adU a0 a1 w(R:K1):=
 PB R a0 a1 w
theorem agT{a0 a1 w R}(h:adU a0 a1 w R):aL pg Hs #[a0,a1] w R:=
 gF (ann:=cH) Tryz.f58 fJ [a0,a1] kA 137 TryzM.mixed Tryz.func58 (bC 9 (vT (nY (C2 R) 5 8 9 11 12) h (λg w h=>aC (bC 1 (YV _ g w (C0 R) (λg w h=>aC (bC 1 (dP (Aj (CZ R) 5 8 9 11 12 14) h (λg w h=>aC (bC 1 (YT _ g w (Gf R) (λg w h=>aC (gI h bH)) h)))))) h))) bH))
def gB:FA:=⟨Ro,λi=>match Nat.beq i 16 with|true=>lf (fz 4 (ft [] (ft [] [])))|false=>match Nat.beq i 17 with|true=>lf (fz 5 (ft [] []))|false=>match Nat.beq i 20 with|true=>lf (fz 9 (ft [8] (ft [] (ft [] []))))|false=>match Nat.beq i 25 with|true=>lf (fz 2 (ft [] (fu [0] (fz 1 (ft [] (fz 1 []))))))|false=> .leaf ([],[]) []⟩
def jZ:List ResultVar:=[.tmp 12,.cell 13 75,.tmp 14]
noncomputable def pE:Code:=aO Tryz.f59
def D59:DT:=bP pg gB pE Tryz.f59 (gP jZ)
def Nw(R:K1) aK GI c3 mI iC w:=
 (?X:PT (type_of%(tt (D59 (λc=>(aA 1 (aA 3 c))) no [] R (El [1,9,13,15,16] [aK,GI,c3,mI,iC]) w= ?X) (by unfold D59 Tryz.f59 jZ gB;exact ev))))
def EP(kn:K9) aK bA GI c3 mI iC d6 d7 d8 w:=
 bF pg (bZ .add 3 iB iB d8 (a7D 1)) w λo0 w=>
 kn aK bA GI c3 mI iC d6 d7 o0 w
def Nx(kn:K12)(k2:K9) aK bA GI c3 mI iC ayY d6 d7 d8 m5 m6 w:=
 (?X:PT (type_of%(tt (D59 (λc=>(bI (bI (aA 10 (bI (aD 1 (aA 2 (bI (bI (aA 1 (aD 1 (aA 3 c)))))))))))) (aGN kn 1 4 9 13 15 16 20 26 27 28 85 86) [(2,(Mq9 k2 1 4 9 13 15 16 26 27 28))] nG (El [1,4,9,13,15,16,20,26,27,28,85,86] [aK,bA,GI,c3,mI,iC,ayY,d6,d7,d8,m5,m6]) w= ?X) (by unfold D59 Tryz.f59 jZ gB;exact ev))))
def tI(k2:K9) aK bA GI c3 mI iC ayY d6 d7 d8 m5 m6 w:=
 aN (λ(X:a7C->K0) (t:a7C) (w:a7B)=>Nx (λ_ _ _ _ _ _ _ _ _ _ _ m6 w=>X m6 w) k2 aK bA GI c3 mI iC ayY d6 d7 d8 m5 t w) m6 w
theorem arB(k2:K9)(h2:E9 Q k2 2 1 4 9 13 15 16 26 27 28)(h:tI k2 (g 1) (g 4) (g 9) (g 13) (g 15) (g 16) (g 20) (g 26) (g 27) (g 28) (g 85) (g 86) w):bQ pg gB (bI (aA 10 (bI (aD 1 (aA 2 (bI (bI (aA 1 (aD 1 (aA 3 pE)))))))))) Q g w:=by
 refine qO (λg:Env=>g 86) _ h (λX g1 w1 ha hL=> ?_);rw[<-bG 1 ha,<-bG 4 ha,<-bG 9 ha,<-bG 13 ha,<-bG 15 ha,<-bG 16 ha,<-bG 20 ha,<-bG 26 ha,<-bG 27 ha,<-bG 28 ha,<-bG 85 ha]at hL;exact(pV [(2,(Mq9 k2 1 4 9 13 15 16 26 27 28))] (kr:=no) (aGN (λ_ _ _ _ _ _ _ _ _ _ _ m6 w=>X m6 w) 1 4 9 13 15 16 20 26 27 28 85 86) hL bH sL ⟨h2,trivial⟩)
def Ny(kn:K12)(R:K1) aK bA GI c3 mI iC d6 d7 d8 w:=
 (?X:PT (type_of%(tt (D59 (λc=>(aD 10 (bI (aD 1 (aA 2 (bI (bI (aA 1 (aD 1 (aA 3 c)))))))))) (aGN kn 1 4 9 13 15 16 20 26 27 28 85 86) [] R (El [1,4,9,13,15,16,26,27,28] [aK,bA,GI,c3,mI,iC,d6,d7,d8]) w= ?X) (by unfold D59 Tryz.f59 jZ gB;exact ev))))
def ER(kn:K9)(R:K1) aK bA GI c3 mI iC d6 d7 d8 w:=
 Ny (tI kn) R aK bA GI c3 mI iC d6 d7 d8 w
def ES(kn:K9)(R:K1) aK bA GI c3 mI iC d6 d7 d8 w:=
 ER (EP kn) R aK bA GI c3 mI iC d6 d7 d8 w
theorem arC(kn:K9)(R:K1)(hn:N9 Q kn 1 4 9 13 15 16 26 27 28)(hr:HR jZ R Q)(h:ER kn R (g 1) (g 4) (g 9) (g 13) (g 15) (g 16) (g 26) (g 27) (g 28) w):bQ pg gB (aD 1 (aA 2 (bI (bI (aA 1 (aD 1 (aA 3 pE))))))) Q g w:=
 jP 1 (bC 10 (vT (aGN (tI kn) 1 4 9 13 15 16 20 26 27 28 85 86) h (λg w h=>aC (jP 2 (arB _ g w kn hn h))) hr))
def J5 (kn:K9)(k0:K5) aK bA GI c3 mI iC d6 d7 d8 w:=
 bF pg (bZ .lss 3 iB iB d8 d7) w λd9 w=>
 JJ d9
  (kn aK bA GI c3 mI iC d6 d7 d8 w)
  (k0 aK GI c3 mI iC w)
def J6 (kn:K9)(k0:K5)(R:K1) aK bA GI c3 mI iC d6 d7 d8 w:=
 J5 (ES kn R) k0 aK bA GI c3 mI iC d6 d7 d8 w
def B0 (k0:K5)(R:K1) aK bA GI c3 mI iC d6 d7 d8 w:=
 aN (λ(X:(a7C×a7C)->K0) (t:a7C×a7C) (w:a7B)=>J6 (λaK _ _ _ _ _ _ _ d8 w=>X (aK,d8) w) k0 R t.1 bA GI c3 mI iC d6 d7 t.2 w) (aK,d8) w
theorem amR(k0:K5)(R:K1)(h0:E5 Q k0 0 1 9 13 15 16)(hr:HR jZ R Q)(h:B0 k0 R (g 1) (g 4) (g 9) (g 13) (g 15) (g 16) (g 26) (g 27) (g 28) w):bQ pg gB (bI (aA 1 (aD 1 (aA 3 pE)))) Q g w:=by
 refine qO (λg:Env=>(g 1,g 28)) _ h (λX g1 w1 ha hL=> ?_);rw[<-bG 4 ha,<-bG 9 ha,<-bG 13 ha,<-bG 15 ha,<-bG 16 ha,<-bG 26 ha,<-bG 27 ha]at hL;exact(bC 2 (pV [(0,(nY k0 1 9 13 15 16))] (kr:=no) (Mq9 (ES (λaK _ _ _ _ _ _ _ d8 w=>X (aK,d8) w) R) 1 4 9 13 15 16 26 27 28) hL (λg w h=>aC (bC 1 (arC _ g w (EP (λaK _ _ _ _ _ _ _ d8 w=>X (aK,d8) w)) R (λg w h=>aC (dP (Mq9 (λaK _ _ _ _ _ _ _ d8 w=>X (aK,d8) w) 1 4 9 13 15 16 26 27 28) h bH)) hr h))) sL ⟨h0,trivial⟩))
def WW(kn:K9) aK Sg bA GI c3 mI iC w:=
 bF pg (yM .len #[96] 3 [Sg]) w λd7 w=>
 kn aK bA GI c3 mI iC Sg d7 (a7D 0) w
def J7 (kn:K5)(R:K1) aK Sg bA GI c3 mI iC w:=
 WW (B0 kn R) aK Sg bA GI c3 mI iC w
def J8 (R:K1) aK Sg bA GI c3 mI iC w:=
 J7 (Nw R) R aK Sg bA GI c3 mI iC w
theorem amS(kn:K5)(R:K1)(hn:N5 Q kn 1 9 13 15 16)(hr:HR jZ R Q)(h:J7 kn R (g 1) (g 2) (g 4) (g 9) (g 13) (g 15) (g 16) w):bQ pg gB (aD 1 (aA 3 pE)) Q g w:=
 bC 1 (dP (Mq9 (B0 kn R) 1 4 9 13 15 16 26 27 28) h (λg w h=>aC (jP 0 (amR _ g w kn R hn hr h))))
def WX(kn:K7) kM aK Sg r_3 bA fA w:=
 (?X:PT (type_of%(tt (D59 (λc=>(aD 3 c)) (DZ kn 1 2 4 9 13 15 16) [] nG (El [0,1,2,3,4,5] [kM,aK,Sg,r_3,bA,fA]) w= ?X) (by unfold D59 Tryz.f59 jZ gB;exact ev))))
def WY(R:K1) kM aK Sg r_3 bA fA w:=
 WX (J8 R) kM aK Sg r_3 bA fA w
def aAP a0 a1 a2 a3 a4 a5 w(R:K1):=
 WY R a0 a1 a2 a3 a4 a5 w
theorem axU{a0 a1 a2 a3 a4 a5 w R}(h:aAP a0 a1 a2 a3 a4 a5 w R):aL pg Ro #[a0,a1,a2,a3,a4,a5] w R:=
 gF (ann:=gB) Tryz.f59 pE [a0,a1,a2,a3,a4,a5] jZ 111 TryzM.mixed Tryz.func59 (bC 3 (dP (DZ (J8 R) 1 2 4 9 13 15 16) h (λg w h=>aC (bC 1 (amS _ g w (Nw R) R (λg w h=>aC (gI h bH)) bH h)))))
def Zt:FA:=nA afH
def apJ:List ResultVar:=[.tmp 0]
noncomputable def aqT:Code:=aO Tryz.f60
def D60:DT:=bP pg Zt aqT Tryz.f60 (gP apJ)
def aE7 (R:K1) w:=
 (?X:PT (type_of%(tt (D60 (λc=>c) no [] R (El [] []) w= ?X) (by unfold D60 Tryz.f60 apJ Zt;exact ev))))
def aN2 w(R:K1):=
 aE7 R w
theorem aH5 {w R}(h:aN2 w R):aL pg afH #[] w R:=
 gF (ann:=Zt) Tryz.f60 aqT [] apJ 9 TryzM.mixed Tryz.func60 (gI h bH)
def fT:FA:=⟨Ai,λi=>match Nat.beq i 3 with|true=>lf (fz 9 (ft [] (fz 1 [])))|false=>match Nat.beq i 10 with|true=>lf (fz 17 (ft [9,10,11,12] (ft [] (fu [0,1] (fu [1,2] (fz 1 (ft [] [])))))))|false=> .leaf ([],[]) []⟩
def rU:List ResultVar:=[]
noncomputable def nW:Code:=aO Tryz.f61
def D61:DT:=bP pg fT nW Tryz.f61 (gP rU)
def rW(kn:K2) GG Ei w:=
 bF pg (aL4 GG) w λl4 w=>
 bF pg (pZ 204 l4 2) w λl5 w=>
 bF pg (dL 3 l5 (a7D 0)) w λ_u w=>
 kn GG Ei w
def GD(kn:K3)(k2:K2) GG Ei f7 w:=
 (?X:PT (type_of%(tt (D61 (λc=>(bI (bI (aA 1 (aD 1 (cT (aA 4 (bI (aA 1 (bI (bI (aA 2 c)))))))))))) (kC kn 0 1 47) [(2,(vJ k2 0 1))] nG (El [0,1,47] [GG,Ei,f7]) w= ?X) (by unfold D61 Tryz.f61 rU fT;exact ev))))
def rX(k2:K2) GG Ei f7 w:=
 aN (λ(X:a7C->K0) (t:a7C) (w:a7B)=>GD (λ_ _ f7 w=>X f7 w) k2 GG Ei t w) f7 w
theorem afE(k2:K2)(h2:E2 Q k2 2 0 1)(h:rX k2 (g 0) (g 1) (g 47) w):bQ pg fT (bI (aA 1 (aD 1 (cT (aA 4 (bI (aA 1 (bI (bI (aA 2 nW)))))))))) Q g w:=by
 refine qO (λg:Env=>g 47) _ h (λX g1 w1 ha hL=> ?_);rw[<-bG 0 ha,<-bG 1 ha]at hL;exact(pV [(2,(vJ k2 0 1))] (kr:=no) (kC (λ_ _ f7 w=>X f7 w) 0 1 47) hL bH sL ⟨h2,trivial⟩)
def Rn(kn:K3) GG Ei w:=
 kn GG Ei (a7D 0) w
def yH(kn:K2) GG Ei w:=
 Rn (rX kn) GG Ei w
def yI(kn:K2) GG Ei w:=
 yH (rW kn) GG Ei w
theorem afF(kn:K2)(hn:N2 Q kn 0 1)(h:yH kn (g 0) (g 1) w):bQ pg fT (aD 1 (cT (aA 4 (bI (aA 1 (bI (bI (aA 2 nW)))))))) Q g w:=
 bC 1 (dP (kC (rX kn) 0 1 47) h (λg w h=>aC (jP 2 (afE _ g w kn hn h))))
def yJ(kn:K2) GG Ei w:=
 kn GG Ei w
def rY(kn:K2) GG Ei f6 w:=
 JJ f6 (yI kn GG Ei w) (yJ kn GG Ei w)
def vG(kn:K3) GG Ei w:=
 (?X:PT (type_of%(tt (D61 (λc=>(aD 4 (bI (aA 1 (bI (bI (aA 2 c))))))) (kC kn 0 1 46) [] nG (El [0,1] [GG,Ei]) w= ?X) (by unfold D61 Tryz.f61 rU fT;exact ev))))
def fY(kn:K2) GG Ei w:=
 vG (rY kn) GG Ei w
def vH(kn:K2)(k0:K0) GG Ei w:=
 bF pg (yM .len #[22] 3 [Ei]) w λc9 w=>
 bF pg (bZ .gtr 3 iB iB c9 (a7D 0)) w λd0 w=>
 JJ d0
  (kn GG Ei w)
  (k0 w)
def vI(kn:K2)(k0:K0) GG Ei w:=
 vH (fY kn) k0 GG Ei w
def lV(k0:K0) GG Ei w:=
 aN (λ(X:a7C->K0) (t:a7C) (w:a7B)=>vI (λ_ Ei w=>X Ei w) k0 GG t w) Ei w
theorem Y7 (k0:K0)(h0:E0 Q k0 0)(h:lV k0 (g 0) (g 1) w):bQ pg fT (bI (aA 2 nW)) Q g w:=by
 refine qO (λg:Env=>g 1) _ h (λX g1 w1 ha hL=> ?_);rw[<-bG 0 ha]at hL;exact(bC 1 (pV [(0,(Mq0 k0))] (kr:=no) (vJ (fY (λ_ Ei w=>X Ei w)) 0 1) hL (λg w h=>aC (jP 1 (bC 4 (dP (kC (rY (λ_ Ei w=>X Ei w)) 0 1 46) h (λg w h=>aC (cdD (.tmp 46) (λh=>(bC 1 (afF _ g w (rW (λ_ Ei w=>X Ei w)) (λg w h=>aC (dP (vJ (λ_ Ei w=>X Ei w) 0 1) h bH)) h))) (λh=>(dP (vJ (λ_ Ei w=>X Ei w) 0 1) h bH)) h)))))) sL ⟨h0,trivial⟩))
def P6 (kn:K2)(R:K1) GG Ei w:=
 (?X:PT (type_of%(tt (D61 (λc=>(aD 2 c)) (vJ kn 0 1) [] R (El [0,1] [GG,Ei]) w= ?X) (by unfold D61 Tryz.f61 rU fT;exact ev))))
def P7 (kn:K0)(R:K1) GG Ei w:=
 P6 (lV kn) R GG Ei w
def afD a0 a1 w(R:K1):=
 P7 (λw=>R (.tuple #[]) w) R a0 a1 w
theorem ahE{a0 a1 w R}(h:afD a0 a1 w R):aL pg Ai #[a0,a1] w R:=
 gF (ann:=fT) Tryz.f61 nW [a0,a1] rU 76 TryzM.mixed Tryz.func61 (bC 2 (vT (vJ (lV (λw=>R (.tuple #[]) w)) 0 1) h (λg w h=>aC (jP 0 (Y7 _ g w (λw=>R (.tuple #[]) w) bH h))) bH))
def eI:FA:=⟨DX,λi=>match Nat.beq i 3 with|true=>lf (fz 1 (ft [] (fz 1 (fu [1] (fu [2] (fu [3] (fz 2 [])))))))|false=>match Nat.beq i 4 with|true=> .leaf ([],[]) (fz 9 [])|false=> .leaf ([],[]) []⟩
def nO:List ResultVar:=[.tmp 2]
noncomputable def nD:Code:=aO Tryz.f62
def D62:DT:=bP pg eI nD Tryz.f62 (gP nO)
def nP(R:K1) iP w:=
 (?X:PT (type_of%(tt (D62 (λc=>(aA 1 (aA 1 (aA 1 (aA 4 c))))) no [] R (El [3] [iP]) w= ?X) (by unfold D62 Tryz.f62 nO eI;exact ev))))
def Ls(kn:K4)(k2:K1) iP i3 i4 i5 w:=
 (?X:PT (type_of%(tt (D62 (λc=>(bI (bI (aA 1 (aD 1 (aA 1 (aA 1 (aA 4 c)))))))) (lX kn 3 53 54 55) [(2,(AN k2 3))] nG (El [3,53,54,55] [iP,i3,i4,i5]) w= ?X) (by unfold D62 Tryz.f62 nO eI;exact ev))))
def iQ(k2:K1) iP i3 i4 i5 w:=
 aN (λ(X:(a7C×a7C)->K0) (t:a7C×a7C) (w:a7B)=>Ls (λiP _ _ i5 w=>X (iP,i5) w) k2 t.1 i3 i4 t.2 w) (iP,i5) w
theorem apU(k2:K1)(h2:E1 Q k2 2 3)(h:iQ k2 (g 3) (g 53) (g 54) (g 55) w):bQ pg eI (bI (aA 1 (aD 1 (aA 1 (aA 1 (aA 4 nD)))))) Q g w:=by
 refine qO (λg:Env=>(g 3,g 55)) _ h (λX g1 w1 ha hL=> ?_);rw[<-bG 53 ha,<-bG 54 ha]at hL;exact(pV [(2,(AN k2 3))] (kr:=no) (lX (λiP _ _ i5 w=>X (iP,i5) w) 3 53 54 55) hL bH sL ⟨h2,trivial⟩)
def rA(kn:K4) iP b_4 w:=
 bF pg (yM .len #[22] 3 [b_4]) w λi4 w=>
 kn iP b_4 i4 (a7D 0) w
def nQ(kn:K1) iP b_4 w:=
 rA (iQ kn) iP b_4 w
def kP(R:K1) iP b_4 w:=
 nQ (nP R) iP b_4 w
theorem apV(kn:K1)(hn:N1 Q kn 3)(h:nQ kn (g 3) (g 4) w):bQ pg eI (aD 1 (aA 1 (aA 1 (aA 4 nD)))) Q g w:=
 bC 1 (dP (lX (iQ kn) 3 53 54 55) h (λg w h=>aC (jP 2 (apU _ g w kn hn h))))
def nS(kn:K2) iP b_4 w:=
 (?X:PT (type_of%(tt (D62 (λc=>(aD 1 (aA 1 (aA 4 c)))) (vJ kn 3 4) [] nG (El [3,4] [iP,b_4]) w= ?X) (by unfold D62 Tryz.f62 nO eI;exact ev))))
def kQ(R:K1) iP b_4 w:=
 nS (kP R) iP b_4 w
def Im(kn:K2)(k0:K2) iP b_4 w:=
 (?X:PT (type_of%(tt (D62 (λc=>(bI (bI (aD 1 (aA 4 c))))) (vJ kn 3 4) [(0,(vJ k0 3 4))] nG (El [3,4] [iP,b_4]) w= ?X) (by unfold D62 Tryz.f62 nO eI;exact ev))))
def jN(k0:K2) iP b_4 w:=
 aN (λ(X:(a7C×a7C)->K0) (t:a7C×a7C) (w:a7B)=>Im (λiP b_4 w=>X (iP,b_4) w) k0 t.1 t.2 w) (iP,b_4) w
theorem ahC(k0:K2)(h0:E2 Q k0 0 3 4)(h:jN k0 (g 3) (g 4) w):bQ pg eI (bI (aD 1 (aA 4 nD))) Q g w:=by
 refine qO (λg:Env=>(g 3,g 4)) _ h (λX g1 w1 ha hL=> ?_);exact(pV [(0,(vJ k0 3 4))] (kr:=no) (vJ (λiP b_4 w=>X (iP,b_4) w) 3 4) hL bH sL ⟨h0,trivial⟩)
def jO(R:K1) iP b_4 w:=
 jN (kQ R) iP b_4 w
theorem ahD(kn:K2)(hn:N2 Q kn 3 4)(h:jN kn (g 3) (g 4) w):bQ pg eI (aD 1 (aA 4 nD)) Q g w:=
 jP 0 (ahC _ g w kn hn h)
def pI(kn:K2)(R:K1) GG w:=
 (?X:PT (type_of%(tt (D62 (λc=>(aD 4 c)) (vJ kn 3 4) [] R (El [0] [GG]) w= ?X) (by unfold D62 Tryz.f62 nO eI;exact ev))))
def pJ(R:K1) GG w:=
 pI (jO R) R GG w
def awY a0 w(R:K1):=
 pJ R a0 w
theorem awZ{a0 w R}(h:awY a0 w R):aL pg DX #[a0] w R:=
 gF (ann:=eI) Tryz.f62 nD [a0] nO 81 TryzM.mixed Tryz.func62 (bC 4 (vT (vJ (jO R) 3 4) h (λg w h=>aC (bC 1 (ahD _ g w (kQ R) (λg w h=>aC (bC 1 (dP (vJ (kP R) 3 4) h (λg w h=>aC (bC 1 (apV _ g w (nP R) (λg w h=>aC (gI h bH)) h)))))) h))) bH))
def oZ:FA:=nA MA
def Cx:List ResultVar:=[.tmp 4,.tmp 5]
noncomputable def xI:Code:=aO Tryz.f63
def D63:DT:=bP pg oZ xI Tryz.f63 (gP Cx)
def KV(R:K1) eP w:=
 bF pg (S3 22 9 eP) w λe8 w=>
 R (.tuple #[e8,(a7D 0)]) w
def Cj(kn:K4) bJ lL eP i_7 w:=
 bF pg (bZ .add 3 iB iB i_7 (a7D 1)) w λc7 w=>
 kn bJ lL eP c7 w
def X8 (kn:K4)(k0:K1) bJ lL eP i_7 w:=
 (?X:PT (type_of%(tt (D63 (λc=>(aD 2 (bI (bI (aA 1 (aD 1 (aA 3 c))))))) (lX kn 0 1 6 7) [(0,(AN k0 6))] nG (El [0,1,6,7] [bJ,lL,eP,i_7]) w= ?X) (by unfold D63 Tryz.f63 Cx oZ;exact ev))))
def X9 (kn:K4)(k0:K1) bJ lL eP i_7 w:=
 X8 (Cj kn) k0 bJ lL eP i_7 w
def Ck(k0:K1) bJ lL eP i_7 w:=
 aN (λ(X:(a7C×a7C)->K0) (t:a7C×a7C) (w:a7B)=>X9 (λ_ _ eP i_7 w=>X (eP,i_7) w) k0 bJ lL t.1 t.2 w) (eP,i_7) w
theorem aoN(k0:K1)(h0:E1 Q k0 0 6)(h:Ck k0 (g 0) (g 1) (g 6) (g 7) w):bQ pg oZ (bI (aA 1 (aD 1 (aA 3 xI)))) Q g w:=by
 refine qO (λg:Env=>(g 6,g 7)) _ h (λX g1 w1 ha hL=> ?_);rw[<-bG 0 ha,<-bG 1 ha]at hL;exact(bC 2 (pV [(0,(AN k0 6))] (kr:=no) (lX (Cj (λ_ _ eP i_7 w=>X (eP,i_7) w)) 0 1 6 7) hL (λg w h=>aC (dP (lX (λ_ _ eP i_7 w=>X (eP,i_7) w) 0 1 6 7) h bH)) sL ⟨h0,trivial⟩))
def Ya(kn:K4) bJ lL eP w:=
 kn bJ lL eP (a7D 0) w
def KW(kn:K1) bJ lL eP w:=
 Ya (Ck kn) bJ lL eP w
def KX(R:K1) bJ lL eP w:=
 KW (KV R) bJ lL eP w
theorem aoO(kn:K1)(hn:N1 Q kn 6)(h:KW kn (g 0) (g 1) (g 6) w):bQ pg oZ (aD 1 (aA 3 xI)) Q g w:=
 bC 1 (dP (lX (Ck kn) 0 1 6 7) h (λg w h=>aC (jP 0 (aoN _ g w kn hn h))))
def Un(kn:K3)(R:K1) bJ lL w:=
 (?X:PT (type_of%(tt (D63 (λc=>(aD 3 c)) (kC kn 0 1 6) [] R (El [0,1] [bJ,lL]) w= ?X) (by unfold D63 Tryz.f63 Cx oZ;exact ev))))
def Uo(R:K1) bJ lL w:=
 Un (KX R) R bJ lL w
def auQ a0 a1 w(R:K1):=
 Uo R a0 a1 w
theorem auR{a0 a1 w R}(h:auQ a0 a1 w R):aL pg MA #[a0,a1] w R:=
 gF (ann:=oZ) Tryz.f63 xI [a0,a1] Cx 39 TryzM.mixed Tryz.func63 (bC 3 (vT (kC (KX R) 0 1 6) h (λg w h=>aC (bC 1 (aoO _ g w (KV R) (λg w h=>aC (gI h bH)) h))) bH))
def pA:FA:=⟨MB,λi=>match Nat.beq i 18 with|true=>lf (fz 1 (ft [] (fu [0] (fu [1] (fz 1 [])))))|false=> .leaf ([],[]) []⟩
def qZ:List ResultVar:=[.tmp 2,.tmp 3]
noncomputable def xJ:Code:=aO Tryz.f64
def D64:DT:=bP pg pA xJ Tryz.f64 (gP qZ)
def KY(R:K1) w:=
 R (.tuple #[(.string ⟨#[]⟩),(a7D 11)]) w
def Yb(kn:K5)(k0:K0)(R:K1) v_7 b8 atA c0 nM w:=
 (?X:PT (type_of%(tt (D64 (λc=>(bI (bI (aD 1 (aA 11 c))))) (nY kn 7 8 9 10 11) [(0,(Mq0 k0))] R (El [7,8,9,10,11] [v_7,b8,atA,c0,nM]) w= ?X) (by unfold D64 Tryz.f64 qZ pA;exact ev))))
def Cm(k0:K0)(R:K1) v_7 b8 atA c0 nM w:=
 aN (λ(X:(a7C×a7C×a7C)->K0) (t:a7C×a7C×a7C) (w:a7B)=>Yb (λ_ _ atA c0 nM w=>X (atA,c0,nM) w) k0 R v_7 b8 t.1 t.2.1 t.2.2 w) (atA,c0,nM) w
theorem aoP(k0:K0)(R:K1)(h0:E0 Q k0 0)(hr:HR qZ R Q)(h:Cm k0 R (g 7) (g 8) (g 9) (g 10) (g 11) w):bQ pg pA (bI (aD 1 (aA 11 xJ))) Q g w:=by
 refine qO (λg:Env=>(g 9,g 10,g 11)) _ h (λX g1 w1 ha hL=> ?_);rw[<-bG 7 ha,<-bG 8 ha]at hL;exact(pV [(0,(Mq0 k0))] (nY (λ_ _ atA c0 nM w=>X (atA,c0,nM) w) 7 8 9 10 11) hL bH hr ⟨h0,trivial⟩)
def Cn(R:K1) v_7 b8 atA c0 nM w:=
 Cm (KY R) R v_7 b8 atA c0 nM w
theorem aoQ(kn:K0)(R:K1)(hn:N0 Q kn)(hr:HR qZ R Q)(h:Cm kn R (g 7) (g 8) (g 9) (g 10) (g 11) w):bQ pg pA (aD 1 (aA 11 xJ)) Q g w:=
 jP 0 (aoP _ g w kn R hn hr h)
def Yc(kn:K5)(R:K1) bJ w:=
 (?X:PT (type_of%(tt (D64 (λc=>(aD 11 c)) (nY kn 7 8 9 10 11) [] R (El [0] [bJ]) w= ?X) (by unfold D64 Tryz.f64 qZ pA;exact ev))))
def Yd(R:K1) bJ w:=
 Yc (Cn R) R bJ w
def auW a0 w(R:K1):=
 Yd R a0 w
theorem auX{a0 w R}(h:auW a0 w R):aL pg MB #[a0] w R:=
 gF (ann:=pA) Tryz.f64 xJ [a0] qZ 99 TryzM.mixed Tryz.func64 (bC 11 (vT (nY (Cn R) 7 8 9 10 11) h (λg w h=>aC (bC 1 (aoQ _ g w (KY R) R (λg w h=>aC (gI h bH)) bH h))) bH))
def qS:FA:=nA Ry
def F8:List ResultVar:=[.tmp 2,.tmp 3]
noncomputable def Aq:Code:=aO Tryz.f65
def D65:DT:=bP pg qS Aq Tryz.f65 (gP F8)
def OY(R:K1) dJ w_4 d_5 w:=
 (?X:PT (type_of%(tt (D65 (λc=>(aA 1 (aA 4 c))) no [] R (El [0,4,5] [dJ,w_4,d_5]) w= ?X) (by unfold D65 Tryz.f65 F8 qS;exact ev))))
def acK(kn:K3)(k0:K3) dJ w_4 d_5 w:=
 aL pg Ip #[d_5] w λd1 w=>
 bF pg (bZ .leq 3 iB iB d1 w_4) w λd3 w=>
 JJ d3
  (bF pg (bZ .add 3 iB iB d_5 (a7D 1)) w λd5 w=>
  kn dJ w_4 d5 w)
  (k0 dJ w_4 d_5 w)
def FW(k0:K3) dJ w_4 d_5 w:=
 aN (λ(X:a7C->K0) (t:a7C) (w:a7B)=>acK (λ_ _ d_5 w=>X d_5 w) k0 dJ w_4 t w) d_5 w
theorem auM(k0:K3)(h0:E3 Q k0 0 0 4 5)(h:FW k0 (g 0) (g 4) (g 5) w):bQ pg qS (bI (aD 1 (aA 4 Aq))) Q g w:=by
 refine qO (λg:Env=>g 5) _ h (λX g1 w1 ha hL=> ?_);rw[<-bG 0 ha,<-bG 4 ha]at hL;exact(pV [(0,(kC k0 0 4 5))] (kr:=no) (kC (λ_ _ d_5 w=>X d_5 w) 0 4 5) hL bH sL ⟨h0,trivial⟩)
def OZ(R:K1) dJ w_4 d_5 w:=
 FW (OY R) dJ w_4 d_5 w
theorem auN(kn:K3)(hn:N3 Q kn 0 4 5)(h:FW kn (g 0) (g 4) (g 5) w):bQ pg qS (aD 1 (aA 4 Aq)) Q g w:=
 jP 0 (auM _ g w kn hn h)
def acL(kn:K3)(R:K1) dJ w:=
 (?X:PT (type_of%(tt (D65 (λc=>(aD 4 c)) (kC kn 0 4 5) [] R (El [0] [dJ]) w= ?X) (by unfold D65 Tryz.f65 F8 qS;exact ev))))
def acM(R:K1) dJ w:=
 acL (OZ R) R dJ w
def aBb a0 w(R:K1):=
 acM R a0 w
theorem azS{a0 w R}(h:aBb a0 w R):aL pg Ry #[a0] w R:=
 gF (ann:=qS) Tryz.f65 Aq [a0] F8 44 TryzM.mixed Tryz.func65 (bC 4 (vT (kC (OZ R) 0 4 5) h (λg w h=>aC (bC 1 (auN _ g w (OY R) (λg w h=>aC (gI h bH)) h))) bH))
def dD:FA:=nA Ir
def Ad:List ResultVar:=[.tmp 2,.tmp 3]
noncomputable def eJ:Code:=aO Tryz.f66
def D66:DT:=bP pg dD eJ Tryz.f66 (gP Ad)
def OT(R:K1) bK w:=
 R (.tuple #[bK,(a7D 0)]) w
def OU(kn:K6) dJ qN bK bO bR LS w:=
 bF pg (bZ .add 3 iB iB LS (a7D 1)) w λe0 w=>
 kn dJ qN bK bO bR e0 w
def zU(kn:K7) dJ qN bK bO bR LS qM w:=
 bF pg (bZ .add 3 iB iB qM (a7D 1)) w λe6 w=>
 kn dJ qN bK bO bR LS e6 w
def zV(kn:K7) dJ qN bK bO LS qM Sk w:=
 bF pg (dK 208 [(0,Sk),(1,bO)]) w λj3 w=>
 bF pg (uY 156 bK qM) w λj4 w=>
 bF pg (dL 208 j4 j3) w λ_u w=>
 kn dJ qN bK bO Sk LS qM w
def acE(kn:K8)(k6:K7) dJ qN bK bO bR LS qM Sk w:=
 bF pg (bZ .gtr 3 iB iB bR Sk) w λi3 w=>
 JJ i3
  (bF pg (bZ .quo 3 iB iB bO (a7D 2)) w λi5 w=>
  bF pg (bZ .sub 3 iB iB bR (a7D 1)) w λi7 w=>
  kn dJ qN bK i5 i7 LS qM Sk w)
  (k6 dJ qN bK bO LS qM Sk w)
def FT(k6:K7) dJ qN bK bO bR LS qM Sk w:=
 aN (λ(X:(a7C×a7C)->K0) (t:a7C×a7C) (w:a7B)=>acE (λ_ _ _ bO bR _ _ _ w=>X (bO,bR) w) k6 dJ qN bK t.1 t.2 LS qM Sk w) (bO,bR) w
theorem auI(k6:K7)(h6:E7 Q k6 6 0 4 5 7 9 10 11)(h:FT k6 (g 0) (g 4) (g 5) (g 7) (g 8) (g 9) (g 10) (g 11) w):bQ pg dD (bI (aD 1 (aA 3 (bI (aD 1 (aA 1 (bI (bI (aA 1 (bI (aD 1 (aA 1 (bI (bI (aA 1 (aD 1 (aA 2 (aA 1 (aA 4 eJ))))))))))))))))))) Q g w:=by
 refine qO (λg:Env=>(g 7,g 8)) _ h (λX g1 w1 ha hL=> ?_);rw[<-bG 0 ha,<-bG 4 ha,<-bG 5 ha,<-bG 9 ha,<-bG 10 ha,<-bG 11 ha]at hL;exact(pV [(6,(DZ k6 0 4 5 7 9 10 11))] (kr:=no) (Mq8 (λ_ _ _ bO bR _ _ _ w=>X (bO,bR) w) 0 4 5 7 8 9 10 11) hL bH sL ⟨h6,trivial⟩)
def FU(kn:K7) dJ qN bK bO bR LS qM Sk w:=
 FT (zV kn) dJ qN bK bO bR LS qM Sk w
theorem auJ(kn:K7)(hn:N7 Q kn 0 4 5 7 9 10 11)(h:FT kn (g 0) (g 4) (g 5) (g 7) (g 8) (g 9) (g 10) (g 11) w):bQ pg dD (aD 1 (aA 3 (bI (aD 1 (aA 1 (bI (bI (aA 1 (bI (aD 1 (aA 1 (bI (bI (aA 1 (aD 1 (aA 2 (aA 1 (aA 4 eJ)))))))))))))))))) Q g w:=
 jP 6 (auI _ g w kn hn h)
def acF(kn:K8)(k5:K7) dJ qN bK bO bR LS qM w:=
 (?X:PT (type_of%(tt (D66 (λc=>(aD 3 (bI (aD 1 (aA 1 (bI (bI (aA 1 (bI (aD 1 (aA 1 (bI (bI (aA 1 (aD 1 (aA 2 (aA 1 (aA 4 c)))))))))))))))))) (Mq8 kn 0 4 5 7 8 9 10 11) [(5,(DZ k5 0 4 5 7 8 9 10))] nG (El [0,4,5,7,8,9,10] [dJ,qN,bK,bO,bR,LS,qM]) w= ?X) (by unfold D66 Tryz.f66 Ad dD;exact ev))))
def XW(kn:K7)(k5:K7) dJ qN bK bO bR LS qM w:=
 acF (FU kn) k5 dJ qN bK bO bR LS qM w
def KK(kn:K7) dJ qN bK bO bR LS qM w:=
 XW kn kn dJ qN bK bO bR LS qM w
def KL(kn:K7) dJ qN bK bO bR LS qM w:=
 KK (zU kn) dJ qN bK bO bR LS qM w
theorem aoG(kn:K7)(hn:N7 Q kn 0 4 5 7 8 9 10)(h:KK kn (g 0) (g 4) (g 5) (g 7) (g 8) (g 9) (g 10) w):bQ pg dD (aD 1 (aA 1 (bI (bI (aA 1 (bI (aD 1 (aA 1 (bI (bI (aA 1 (aD 1 (aA 2 (aA 1 (aA 4 eJ))))))))))))))) Q g w:=
 jP 5 (bC 3 (pV [(5,(DZ kn 0 4 5 7 8 9 10))] (kr:=no) (Mq8 (FU kn) 0 4 5 7 8 9 10 11) h (λg w h=>aC (bC 1 (auJ _ g w (zV kn) (λg w h=>aC (dP _ h hn)) h))) sL ⟨hn,trivial⟩))
def XX(kn:K7)(k4:K6) dJ qN bK bO bR LS qM w:=
 bF pg (yM .len #[9] 3 [dJ]) w λe3 w=>
 bF pg (bZ .lss 3 iB iB qM e3) w λe4 w=>
 JJ e4
  (kn dJ qN bK bO bR LS qM w)
  (k4 dJ qN bK bO bR LS w)
def XY(kn:K7)(k4:K6) dJ qN bK bO bR LS qM w:=
 XX (KL kn) k4 dJ qN bK bO bR LS qM w
def Cg(k4:K6) dJ qN bK bO bR LS qM w:=
 aN (λ(X:(a7C×a7C×a7C)->K0) (t:a7C×a7C×a7C) (w:a7B)=>XY (λ_ _ _ bO bR _ qM w=>X (bO,bR,qM) w) k4 dJ qN bK t.1 t.2.1 LS t.2.2 w) (bO,bR,qM) w
theorem aoH(k4:K6)(h4:E6 Q k4 4 0 4 5 7 8 9)(h:Cg k4 (g 0) (g 4) (g 5) (g 7) (g 8) (g 9) (g 10) w):bQ pg dD (bI (aA 1 (bI (aD 1 (aA 1 (bI (bI (aA 1 (aD 1 (aA 2 (aA 1 (aA 4 eJ)))))))))))) Q g w:=by
 refine qO (λg:Env=>(g 7,g 8,g 10)) _ h (λX g1 w1 ha hL=> ?_);rw[<-bG 0 ha,<-bG 4 ha,<-bG 5 ha,<-bG 9 ha]at hL;exact(bC 1 (pV [(4,(Aj k4 0 4 5 7 8 9))] (kr:=no) (DZ (KL (λ_ _ _ bO bR _ qM w=>X (bO,bR,qM) w)) 0 4 5 7 8 9 10) hL (λg w h=>aC (bC 1 (aoG _ g w (zU (λ_ _ _ bO bR _ qM w=>X (bO,bR,qM) w)) (λg w h=>aC (dP (DZ (λ_ _ _ bO bR _ qM w=>X (bO,bR,qM) w) 0 4 5 7 8 9 10) h bH)) h))) sL ⟨h4,trivial⟩))
def XZ(kn:K7) dJ qN bK bO bR LS w:=
 kn dJ qN bK bO bR LS (a7D 0) w
def KM(kn:K6) dJ qN bK bO bR LS w:=
 XZ (Cg kn) dJ qN bK bO bR LS w
def KN(kn:K6) dJ qN bK bO bR LS w:=
 KM (OU kn) dJ qN bK bO bR LS w
theorem aoI(kn:K6)(hn:N6 Q kn 0 4 5 7 8 9)(h:KM kn (g 0) (g 4) (g 5) (g 7) (g 8) (g 9) w):bQ pg dD (aD 1 (aA 1 (bI (bI (aA 1 (aD 1 (aA 2 (aA 1 (aA 4 eJ))))))))) Q g w:=
 jP 3 (bC 1 (dP (DZ (Cg kn) 0 4 5 7 8 9 10) h (λg w h=>aC (jP 4 (aoH _ g w kn hn h)))))
def X0 (kn:K6)(k2:K1) dJ qN bK bO bR LS w:=
 bF pg (bZ .leq 3 iB iB LS qN) w λd8 w=>
 JJ d8
  (kn dJ qN bK bO bR LS w)
  (k2 bK w)
def X1 (kn:K6)(k2:K1) dJ qN bK bO bR LS w:=
 X0 (KN kn) k2 dJ qN bK bO bR LS w
def Ch(k2:K1) dJ qN bK bO bR LS w:=
 aN (λ(X:(a7C×a7C×a7C)->K0) (t:a7C×a7C×a7C) (w:a7B)=>X1 (λ_ _ _ bO bR LS w=>X (bO,bR,LS) w) k2 dJ qN bK t.1 t.2.1 t.2.2 w) (bO,bR,LS) w
theorem aoJ(k2:K1)(h2:E1 Q k2 2 5)(h:Ch k2 (g 0) (g 4) (g 5) (g 7) (g 8) (g 9) w):bQ pg dD (bI (aA 1 (aD 1 (aA 2 (aA 1 (aA 4 eJ)))))) Q g w:=by
 refine qO (λg:Env=>(g 7,g 8,g 9)) _ h (λX g1 w1 ha hL=> ?_);rw[<-bG 0 ha,<-bG 4 ha,<-bG 5 ha]at hL;exact(bC 1 (pV [(2,(AN k2 5))] (kr:=no) (Aj (KN (λ_ _ _ bO bR LS w=>X (bO,bR,LS) w)) 0 4 5 7 8 9) hL (λg w h=>aC (bC 1 (aoI _ g w (OU (λ_ _ _ bO bR LS w=>X (bO,bR,LS) w)) (λg w h=>aC (dP (Aj (λ_ _ _ bO bR LS w=>X (bO,bR,LS) w) 0 4 5 7 8 9) h bH)) h))) sL ⟨h2,trivial⟩))
def X2 (kn:K6) dJ qN bK bO bR w:=
 kn dJ qN bK bO bR (a7D 1) w
def KO(kn:K1) dJ qN bK bO bR w:=
 X2 (Ch kn) dJ qN bK bO bR w
def KP(R:K1) dJ qN bK bO bR w:=
 KO (OT R) dJ qN bK bO bR w
theorem aoK(kn:K1)(hn:N1 Q kn 5)(h:KO kn (g 0) (g 4) (g 5) (g 7) (g 8) w):bQ pg dD (aD 1 (aA 2 (aA 1 (aA 4 eJ)))) Q g w:=
 bC 1 (dP (Aj (Ch kn) 0 4 5 7 8 9) h (λg w h=>aC (jP 2 (aoJ _ g w kn hn h))))
def X3 (kn:K5) dJ qN bK w:=
 kn dJ qN bK (a7D 0) (a7D 0) w
def KQ(R:K1) dJ qN bK w:=
 X3 (KP R) dJ qN bK w
def X4 (kn:K4)(k0:K3) dJ qN bK i_6 w:=
 (?X:PT (type_of%(tt (D66 (λc=>(bI (bI (aA 1 (aD 1 (aA 4 c)))))) (lX kn 0 4 5 6) [(0,(kC k0 0 4 5))] nG (El [0,4,5,6] [dJ,qN,bK,i_6]) w= ?X) (by unfold D66 Tryz.f66 Ad dD;exact ev))))
def Ci(k0:K3) dJ qN bK i_6 w:=
 aN (λ(X:(a7C×a7C)->K0) (t:a7C×a7C) (w:a7B)=>X4 (λ_ _ bK i_6 w=>X (bK,i_6) w) k0 dJ qN t.1 t.2 w) (bK,i_6) w
theorem aoL(k0:K3)(h0:E3 Q k0 0 0 4 5)(h:Ci k0 (g 0) (g 4) (g 5) (g 6) w):bQ pg dD (bI (aA 1 (aD 1 (aA 4 eJ)))) Q g w:=by
 refine qO (λg:Env=>(g 5,g 6)) _ h (λX g1 w1 ha hL=> ?_);rw[<-bG 0 ha,<-bG 4 ha]at hL;exact(pV [(0,(kC k0 0 4 5))] (kr:=no) (lX (λ_ _ bK i_6 w=>X (bK,i_6) w) 0 4 5 6) hL bH sL ⟨h0,trivial⟩)
def X5 (kn:K4) dJ qN bK w:=
 kn dJ qN bK (a7D 0) w
def KR(kn:K3) dJ qN bK w:=
 X5 (Ci kn) dJ qN bK w
def KS(R:K1) dJ qN bK w:=
 KR (KQ R) dJ qN bK w
theorem aoM(kn:K3)(hn:N3 Q kn 0 4 5)(h:KR kn (g 0) (g 4) (g 5) w):bQ pg dD (aD 1 (aA 4 eJ)) Q g w:=
 bC 1 (dP (lX (Ci kn) 0 4 5 6) h (λg w h=>aC (jP 0 (aoL _ g w kn hn h))))
def KT(kn:K3)(R:K1) dJ w:=
 (?X:PT (type_of%(tt (D66 (λc=>(aD 4 c)) (kC kn 0 4 5) [] R (El [0] [dJ]) w= ?X) (by unfold D66 Tryz.f66 Ad dD;exact ev))))
def KU(R:K1) dJ w:=
 KT (KS R) R dJ w
def acD a0 w(R:K1):=
 KU R a0 w
theorem Um{a0 w R}(h:acD a0 w R):aL pg Ir #[a0] w R:=
 gF (ann:=dD) Tryz.f66 eJ [a0] Ad 66 TryzM.mixed Tryz.func66 (bC 4 (vT (kC (KS R) 0 4 5) h (λg w h=>aC (bC 1 (aoM _ g w (KQ R) (λg w h=>aC (bC 2 (dP (nY (KP R) 0 4 5 7 8) h (λg w h=>aC (bC 1 (aoK _ g w (OT R) (λg w h=>aC (gI h bH)) h)))))) h))) bH))
def lH:FA:=nA MD
def vX:List ResultVar:=[.tmp 6,.tmp 7]
noncomputable def xK:Code:=aO Tryz.f67
def D67:DT:=bP pg lH xK Tryz.f67 (gP vX)
def KZ(R:K1) b_8 iV w:=
 (?X:PT (type_of%(tt (D67 (λc=>(aA 1 (aA 4 c))) no [] R (El [8,10] [b_8,iV]) w= ?X) (by unfold D67 Tryz.f67 vX lH;exact ev))))
def Yf(kn:K5)(k0:K2) cQ uO b_8 iV anC w:=
 (?X:PT (type_of%(tt (D67 (λc=>(bI (bI (aA 1 (aD 1 (aA 4 c)))))) (nY kn 0 2 8 10 11) [(0,(vJ k0 8 10))] nG (El [0,2,8,10,11] [cQ,uO,b_8,iV,anC]) w= ?X) (by unfold D67 Tryz.f67 vX lH;exact ev))))
def Co(k0:K2) cQ uO b_8 iV anC w:=
 aN (λ(X:(a7C×a7C)->K0) (t:a7C×a7C) (w:a7B)=>Yf (λ_ _ _ iV anC w=>X (iV,anC) w) k0 cQ uO b_8 t.1 t.2 w) (iV,anC) w
theorem aoS(k0:K2)(h0:E2 Q k0 0 8 10)(h:Co k0 (g 0) (g 2) (g 8) (g 10) (g 11) w):bQ pg lH (bI (aA 1 (aD 1 (aA 4 xK)))) Q g w:=by
 refine qO (λg:Env=>(g 10,g 11)) _ h (λX g1 w1 ha hL=> ?_);rw[<-bG 0 ha,<-bG 2 ha,<-bG 8 ha]at hL;exact(pV [(0,(vJ k0 8 10))] (kr:=no) (nY (λ_ _ _ iV anC w=>X (iV,anC) w) 0 2 8 10 11) hL bH sL ⟨h0,trivial⟩)
def Yg(kn:K5) cQ uO b_8 iV w:=
 kn cQ uO b_8 iV (a7D 0) w
def La(kn:K2) cQ uO b_8 iV w:=
 Yg (Co kn) cQ uO b_8 iV w
def Lb(R:K1) cQ uO b_8 iV w:=
 La (KZ R) cQ uO b_8 iV w
theorem aoT(kn:K2)(hn:N2 Q kn 8 10)(h:La kn (g 0) (g 2) (g 8) (g 10) w):bQ pg lH (aD 1 (aA 4 xK)) Q g w:=
 bC 1 (dP (nY (Co kn) 0 2 8 10 11) h (λg w h=>aC (jP 0 (aoS _ g w kn hn h))))
def Yh(kn:K4)(R:K1) cQ s_1 uO w:=
 (?X:PT (type_of%(tt (D67 (λc=>(aD 4 c)) (lX kn 0 2 8 10) [] R (El [0,1,2] [cQ,s_1,uO]) w= ?X) (by unfold D67 Tryz.f67 vX lH;exact ev))))
def Yi(R:K1) cQ s_1 uO w:=
 Yh (Lb R) R cQ s_1 uO w
def avD a0 a1 a2 w(R:K1):=
 Yi R a0 a1 a2 w
theorem avE{a0 a1 a2 w R}(h:avD a0 a1 a2 w R):aL pg MD #[a0,a1,a2] w R:=
 gF (ann:=lH) Tryz.f67 xK [a0,a1,a2] vX 47 TryzM.mixed Tryz.func67 (bC 4 (vT (lX (Lb R) 0 2 8 10) h (λg w h=>aC (bC 1 (aoT _ g w (KZ R) (λg w h=>aC (gI h bH)) h))) bH))
def pB:FA:=nA ME
def Cy:List ResultVar:=[.tmp 2]
noncomputable def xL:Code:=aO Tryz.f68
def D68:DT:=bP pg pB xL Tryz.f68 (gP Cy)
def Cp(R:K1) cN w:=
 R cN w
def Lc(kn:K4)(k0:K1) bU cN x_4 i_5 w:=
 (?X:PT (type_of%(tt (D68 (λc=>(bI (bI (aA 1 (aD 1 (aA 5 c)))))) (lX kn 0 3 4 5) [(0,(AN k0 3))] nG (El [0,3,4,5] [bU,cN,x_4,i_5]) w= ?X) (by unfold D68 Tryz.f68 Cy pB;exact ev))))
def Cq(k0:K1) bU cN x_4 i_5 w:=
 aN (λ(X:(a7C×a7C×a7C)->K0) (t:a7C×a7C×a7C) (w:a7B)=>Lc (λ_ cN x_4 i_5 w=>X (cN,x_4,i_5) w) k0 bU t.1 t.2.1 t.2.2 w) (cN,x_4,i_5) w
theorem aoU(k0:K1)(h0:E1 Q k0 0 3)(h:Cq k0 (g 0) (g 3) (g 4) (g 5) w):bQ pg pB (bI (aA 1 (aD 1 (aA 5 xL)))) Q g w:=by
 refine qO (λg:Env=>(g 3,g 4,g 5)) _ h (λX g1 w1 ha hL=> ?_);rw[<-bG 0 ha]at hL;exact(pV [(0,(AN k0 3))] (kr:=no) (lX (λ_ cN x_4 i_5 w=>X (cN,x_4,i_5) w) 0 3 4 5) hL bH sL ⟨h0,trivial⟩)
def Yj(kn:K4) bU cN x_4 w:=
 kn bU cN x_4 (a7D 0) w
def Ld(kn:K1) bU cN x_4 w:=
 Yj (Cq kn) bU cN x_4 w
def Le(R:K1) bU cN x_4 w:=
 Ld (Cp R) bU cN x_4 w
theorem aoV(kn:K1)(hn:N1 Q kn 3)(h:Ld kn (g 0) (g 3) (g 4) w):bQ pg pB (aD 1 (aA 5 xL)) Q g w:=
 bC 1 (dP (lX (Cq kn) 0 3 4 5) h (λg w h=>aC (jP 0 (aoU _ g w kn hn h))))
def Yk(kn:K3)(R:K1) bU w:=
 (?X:PT (type_of%(tt (D68 (λc=>(aD 5 c)) (kC kn 0 3 4) [] R (El [0] [bU]) w= ?X) (by unfold D68 Tryz.f68 Cy pB;exact ev))))
def Yl(R:K1) bU w:=
 Yk (Le R) R bU w
def avH a0 w(R:K1):=
 Yl R a0 w
theorem avI{a0 w R}(h:avH a0 w R):aL pg ME #[a0] w R:=
 gF (ann:=pB) Tryz.f68 xL [a0] Cy 27 TryzM.mixed Tryz.func68 (bC 5 (vT (kC (Le R) 0 3 4) h (λg w h=>aC (bC 1 (aoV _ g w (Cp R) (λg w h=>aC (gI h bH)) h))) bH))
def Ef:FA:=nA JR
def H2:List ResultVar:=[.cell 2 59,.tmp 3]
noncomputable def Nj:Code:=aO Tryz.f69
def D69:DT:=bP pg Ef Nj Tryz.f69 (gP H2)
def Us(R:K1) bU w:=
 (?X:PT (type_of%(tt (D69 (λc=>c) no [] R (El [0] [bU]) w= ?X) (by unfold D69 Tryz.f69 H2 Ef;exact ev))))
def akW a0 w(R:K1):=
 Us R a0 w
theorem aoW{a0 w R}(h:akW a0 w R):aL pg JR #[a0] w R:=
 gF (ann:=Ef) Tryz.f69 Nj [a0] H2 16 TryzM.mixed Tryz.func69 (gI h bH)
def RM:FA:=nA Zf
def Wn:List ResultVar:=[.cell 2 59]
noncomputable def ZE:Code:=aO Tryz.f70
def D70:DT:=bP pg RM ZE Tryz.f70 (gP Wn)
def auH(R:K1) aEY w:=
 (?X:PT (type_of%(tt (D70 (λc=>c) no [] R (El [0] [aEY]) w= ?X) (by unfold D70 Tryz.f70 Wn RM;exact ev))))
def aGp a0 w(R:K1):=
 auH R a0 w
theorem aEr{a0 w R}(h:aGp a0 w R):aL pg Zf #[a0] w R:=
 gF (ann:=RM) Tryz.f70 ZE [a0] Wn 7 TryzM.mixed Tryz.func70 (gI h bH)
end Go.Proofs.YthohephggmkeeaaGreatDoor

/- Parts of the proof of StorePlays: merged and given short names by a program of ours. -/
import Derived.Orders
import Derived.Below
import Derived.KernelRfl
import Derived.Eval
import Derived.RangeFuncRecord
import Derived.Laws.Sem
import Derived.Scope
import Derived.Test.YteelnmpbnaohpaaGreatDoorRows
set_option linter.unusedVariables false
set_option linter.unusedSimpArgs false
open Array renaming getElem?_eq_getElem → aJ2, getElem?_setIfInBounds_self_of_lt → aJ4, getElem?_setIfInBounds_ne → aJ6, getD_eq_getD_getElem? → aJN, all_eq_true' → aKK, getElem?_eq_none → aKj, length_toList → aLC, mem_of_getElem? → aLM, getElem?_toList → aLc
open Bool renaming false_eq_true → aJI, and_eq_true → aJM, true_and → aKH, not_true → aKU, not_eq_true' → aKW, or_eq_true → aKq, false_or → aLe, or_eq_false_iff → aLi
open List renaming mem_cons_self → aJ3, length_eq_zero_iff → aJ9, getElem?_eq_getElem → aJA, getElem?_cons_succ → aJF, mem_cons → aJG, getD_eq_getElem?_getD → aJH, mem_cons_of_mem → aJP, map_cons → aJQ, length_cons → aJT, toList_toArray → aJV, mem_append_left → aK5, map_congr_left → aKF, size_toArray → aKG, mem_of_getElem? → aKN, mem_append → aKc, mem_map → aKm, getElem?_eq_none → aKp, mem_range → aKr, all_eq_true → aKt, drop_eq_getElem_cons → aKx, length_erase_of_mem → aLF, length_filter_le → aLO, map_nil → aLQ, mem_filter → aLR, getElem_of_mem → aLo, mem_append_right → aLt
open Nat renaming zero_add → aJC, le_refl → aJK, le_of_ble_eq_true → aK2, le_trans → aKZ, lt_of_lt_of_le → aKa, eq_of_beq_eq_true → aKg, add_assoc → aKu, lt_or_ge → aKw, mod_lt → aLk, blt_eq → aLr, ne_of_lt → aLu
open Option renaming getD_some → aKA, map_some → aKo
open Option.some renaming injEq → aJ8, inj → aKJ
namespace Go.En
open Go
abbrev aLW:=World
abbrev aLX:=Value
abbrev Env:=Nat->aLX
def put(g:Env)(d:Option Tmp)(v:aLX):Env:=
 match d with
 |some d=>λi=>match Nat.beq i d with|true=>v|false=>g i
 |none=>g
def ev(g:Env):Operand->aLX
 | .tmp t=>g t
 | .const v=>v
 | .global b=> .pointer (some ⟨b,0,none⟩)
 | .func f=> .func (.func f) #[] #[]
def Ret(P:Program)(f:FuncId)(args:Array aLX)(w:aLW)(v:aLX)(w':aLW):Prop:=
 Calls P f args w λe w''=>e= .returned v/\w''=w'
def aG(P:Program)(f:FuncId)(args:Array aLX)(w:aLW)(R:aLX->aLW->Prop):Prop:=
 ∃v w',Ret P f args w v w'/\R v w'
theorem aG.mono {P:Program}{f:FuncId}{args:Array aLX}{w:aLW}{R R':aLX->aLW->Prop}(h:aG P f args w R)
 (hr:∀v w',R v w'->R' v w'):aG P f args w R':=
 let⟨v,w',a,b⟩:=h;⟨v,w',a,hr _ _ b⟩
def aHH(P:Program)(l:Nat)(f:FuncId)(tmps:Array aLX)(aJx bd:Code)(w:aLW)(v:aLX)(w':aLW):Prop:=
 RoundIn Fence.wide 0 P l f tmps aJx bd w λe w''=>e= .returned v/\w''=w'
def aaB(P:Program)(l:Nat)(f:FuncId)(tmps:Array aLX)(aJx bd:Code)(w:aLW)(R:aLX->aLW->Prop):Prop:=
 ∃v w',aHH P l f tmps aJx bd w v w'/\R v w'
def abO(P:Program)(r:Result Next)(K:aLX->aLW->Prop):Prop:=
 match r with
 | .ok (.value v) w=>K v w
 | .ok .skip w=>K undef w
 | .ok (.enter f args) w=>aG P f args w K
 | .ok (.round l f tmps aJx bd) w=>aaB P l f tmps aJx bd w K
 |_=>False
theorem aI(P:Program)(v:aLX)(w:aLW)(K:aLX->aLW->Prop):abO P (.ok (.value v) w) K=K v w:=Eq.trans rfl rfl
theorem stepR_skip(P:Program)(w:aLW)(K:aLX->aLW->Prop):abO P (.ok .skip w) K=K undef w:=Eq.trans rfl rfl
theorem abP(P:Program)(l:Nat)(f:FuncId)(tmps:Array aLX)(aJx bd:Code)(w:aLW)(K:aLX->aLW->Prop):
 abO P (.ok (.round l f tmps aJx bd) w) K=aaB P l f tmps aJx bd w K:=Eq.trans rfl rfl
def aA(P:Program)(s:Sem Next)(w:aLW)(K:aLX->aLW->Prop):Prop:=abO P (s.run P w) K
def aO(P:Program)(s:Sem Next)(v:aLX)(w:aLW):Prop:=s.run P w= .ok (.value v) w
def Gd(b:Bool)(s:(aLX->aLW->Prop)->Prop)(w:aLW)(K:aLX->aLW->Prop):Prop:=
 match b with
 |true=>s K
 |false=>K undef w
def asB(v:aLX):Option Bool:=match v with| .bool b=>some b|_=>none
def bG(v:aLX)(want:Bool):Bool:=asB v==some want
def cP(v:aLX)(A B:Prop):Prop:=
 match v with
 | .bool b=>(match b with|true=>A|false=>B)
 |_=>False
def Es(ops:Array Oper)(j:Nat):Option Tmp:=(ops[j]?).bind (·.dst)
def AL(g:Env)(t:Option Tmp)(want:Bool):Bool:=match t with|some t=>bG (g t) want|none=>false
def V(s:Sem aLX):Sem Next:=do pure (.value (<-s))
def U(s:Sem Unit):Sem Next:=do s;pure .skip
def DY(op:BinOp):Bool:=match op with| .eql| .neq=>true|_=>false
def aE(op:BinOp)(t:TypeId)(ox oy:Operand)(x y:aLX):Sem Next:=
 match DY op with
 |true=>V (do eqGuard op t ox oy x y;binOp op t x y)
 |false=>V (binOp op t x y)
def eI(b:Builtin)(ats:Array TypeId)(ty:TypeId)(args:List aLX):Sem Next:=builtin b ats ty #[] args.toArray
def Ac(f:aLX)(args:List aLX):Sem Next:=do let d<-Deferred.ofValue f args.toArray;invoke d.target d.args
def Pf(fn:Fn)(first captured:List aLX):Sem Next:=V (Instr.makeFunc fn first.toArray captured.toArray)
def bV(t:TypeId)(ps:List (Nat×aLX)):Sem Next:=V (Instr.build t ps.toArray)
def bB(t:TypeId)(n:Nat)(ps:List (Nat×aLX)):Sem Next:=V (Instr.buildSlice t n ps.toArray)
def Mi(g:Env)(o:Oper):Sem Next:=
 match o.op with
 | .binOp op t x y _=>aE op t x y (ev g x) (ev g y)
 | .makeFunc fn first captured=>Pf fn (first.toList.map (ev g)) (captured.toList.map (ev g))
 | .build t ps=>bV t (ps.toList.map λp=>(p.1,ev g p.2))
 | .buildSlice t n ps=>bB t n (ps.toList.map λp=>(p.1,ev g p.2))
 | .call c=>(match c.callee with
   | .builtin b=>eI b c.argTypes o.type (c.args.toList.map (ev g))
   | .value f=>Ac (ev g f) (c.args.toList.map (ev g))
   |_=>execOp (ev g) o)
 |_=>execOp (ev g) o
def J4 (P:Program)(g:Env)(o:Oper)(w:aLW)(K:aLX->aLW->Prop):Prop:=
 match o.op with
 | .move x=>K (ev g x) w
 | .assign x=>K (ev g x) w
 | .call c=>(match c.callee with
   | .value (.func f)=>aG P f (c.args.toList.map (ev g)).toArray w K
   |_=>aA P (Mi g o) w K)
 |_=>aA P (Mi g o) w K
def IC(P:Program)(ops:Array Oper)(g:Env)(o:Oper)(w:aLW)(K:aLX->aLW->Prop):Prop:=
 match o.guard with
 |none=>J4 P g o w K
 |some (j,want)=>Gd (AL g (Es ops j) want) (J4 P g o w) w K
def agU(P:Program)(ops:Array Oper):List Oper->Env->aLW->(Env->aLW->Prop)->Prop
 |[],g,w,K=>K g w
 |o::rest,g,w,K=>IC P ops g o w λv w'=>agU P ops rest (put g o.dst v) w' K
structure Rec where
 heavy:Bool
 o:Oper
 g:Env
 w:aLW
 v:aLX
def gOf(ops:Array Oper)(o:Oper)(g:Env):Bool:=match o.guard with|none=>true|some (j,want)=>AL g (Es ops j) want
def Gs(b:Bool)(p:Prop):Prop:=match b with|true=>p|false=>True
def Ve(P:Program)(ops:Array Oper)(q:Rec)(o:Oper)(g:Env)(w':aLW)(v:aLX):Prop:=
 match q.heavy with
 |true=>Gs (gOf ops o g) (aO P (Mi g o) v q.w)
 |false=>Gs (gOf ops q.o q.g) (aO P (Mi q.g q.o) q.v w')
def ahP(i j:Nat):List (Nat×Nat)->Bool
 |[]=>false
 |(a,b)::r=>match Nat.beq a i with
  |true=>(match Nat.beq b j with|true=>true|false=>ahP i j r)
  |false=>ahP i j r
def oE(i:Nat):List Nat->Bool
 |[]=>false
 |a::r=>match Nat.beq a i with|true=>true|false=>oE i r
def atZ:List Rec->Nat->Option Rec
 |[],_=>none
 |q::_,0=>some q
 |_::r,n+1=>atZ r n
def aEW(P:Program)(ops:Array Oper)(o:Oper)(g:Env)(w':aLW)(v:aLX)(hist:List Rec):List Nat->Prop
 |[]=>True
 |k::ks=>(match atZ hist k with
  |some q=>Ve P ops q o g w' v
  |none=>False)/\aEW P ops o g w' v hist ks
abbrev Ann:=List Nat×List (Nat×Nat)
abbrev arT:=List (Bool×List Nat)
def qB(P:Program)(ops:Array Oper):List Oper->arT->List Rec->Env->aLW->(Env->aLW->Prop)->Prop
 |[],_,_,g,w,K=>K g w
 |_::_,[],_,_,_,_=>False
 |o::rest,(hv,ks)::pl,hist,g,w,K=>
  IC P ops g o w λv w'=>
   match hv,ks with
   |true,[]=>qB P ops rest pl (⟨true,o,g,w,v⟩::hist) (put g o.dst v) w' K
   |true,k::ks=>aEW P ops o g w' v hist (k::ks)/\qB P ops rest pl (⟨true,o,g,w,v⟩::hist) (put g o.dst v) w' K
   |false,[]=>w'=w/\qB P ops rest pl (⟨false,o,g,w,v⟩::hist) (put g o.dst v) w K
   |false,k::ks=>w'=w/\aEW P ops o g w v hist (k::ks)/\qB P ops rest pl (⟨false,o,g,w,v⟩::hist) (put g o.dst v) w K
def bM{α:Type}(F:(α->aLW->Prop)->α->aLW->Prop)(g:α)(w:aLW):Prop:=
 ∃I:Nat->α->aLW->Prop,(∃n,I n g w)/\∀n g w,I n g w->F (λg' w'=>∃m,m<n/\I m g' w') g w
def B1 (K:Env->aLW->Prop)(Q:Exit->Env->aLW->Prop):Exit->Env->aLW->Prop:=
 λe g w=>(λ(_:Program->Sem Next->aLW->(aLX->aLW->Prop)->Prop)=>match e with| .normal=>K g w|e=>Q e g w) aA
def KB(id:Nat)(Q:Exit->Env->aLW->Prop):Exit->Env->aLW->Prop:=
 λe g w=>(λ(_:Program->Sem Next->aLW->(aLX->aLW->Prop)->Prop)=>match e with| .exit i=>(match Nat.beq i id with|true=>Q .normal g w|false=>Q (.exit i) g w)|e=>Q e g w) aA
inductive HT where
 |leaf (an:Ann) (pl:arT)
 |perm (π:List Nat) (es:List (Nat×Nat)) (an:Ann) (pl:arT)
 |split(a b:Nat) (x y:HT)
structure FA where
 f:FuncId
 t:Nat->HT
def xJ:List Nat->Nat->Nat
 |[],_=>0
 |a::r,i=>match Nat.beq a i with|true=>0|false=>xJ r i+1
def Hz(π:List Nat)(i:Nat):List (Nat×Nat)->List Edge
 |[]=>[]
 |(a,b)::r=>match Nat.beq b i with|true=>⟨xJ π a,.data⟩::Hz π i r|false=>Hz π i r
def KX(π:List Nat)(es:List (Nat×Nat))(i:Nat)(o:Oper):Oper:=
 {dst:=o.dst,op:=o.op,type:=o.type,pos:=o.pos,after:=(o.after.toList.map (λe=>(⟨xJ π e.on,e.ground⟩:Edge))++Hz π i es).toArray,
  guard:=match o.guard with|none=>none|some (j,b)=>some (xJ π j,b)}
def WZ(π:List Nat)(es:List (Nat×Nat))(l:List Oper):List Nat->List Oper
 |[]=>[]
 |i::r=>match l[i]? with|some o=>KX π es i o::WZ π es l r|none=>WZ π es l r
def nH(π:List Nat)(es:List (Nat×Nat))(ops:Array Oper):Array Oper:=(WZ π es ops.toList π).toArray
def P2 (f:FuncId)(id:Nat)(ops:Array Oper)(a b:Nat)(w:aLW):Bool:=
 Nat.ble ((Region.schedule true ops (w.tape w.drawn (.order f id))).idxOf a) ((Region.schedule true ops (w.tape w.drawn (.order f id))).idxOf b)
def Ord(b:Bool)(A B:Prop):Prop:=match b with|true=>A|false=>B
def asP(P:Program)(f:FuncId)(id:Nat)(ops:Array Oper):HT->Env->aLW->aLW->(Env->aLW->Prop)->Prop
 | .leaf _ pl,g,_,w,K=>qB P ops ops.toList pl [] g w K
 | .perm π es _ pl,g,_,w,K=>qB P (nH π es ops) (nH π es ops).toList pl [] g w K
 | .split a b x y,g,w0,w,K=>Ord (P2 f id ops a b w0) (asP P f id ops x g w0 w K) (asP P f id ops y g w0 w K)
def DS:Nat:=1000003
def asT:aLX->List Deferred
 | .pointer (some a)=>[{target:= .collected a.block,args:= #[]}]
 |_=>[]
def noMark:aLX->Bool
 | .pointer _=>false
 |_=>true
def tmpsOf(N:Nat)(g:Env):Array aLX:=Array.ofFn (n:=N) λi=>g i.val
def RM(P:Program)(f:FuncId):Nat:=match P.funcs[f]? with|some fn=>fn.ntmps|none=>0
def aGI(Q:Exit->Env->aLW->Prop)(g:Env):Option Code->aLW->Prop
 |none,w=>Q .normal g w
 |some .ret,w=>Q .ret g w
 |some (.exit i),w=>Q (.exit i) g w
 |_,_=>False
def aCv(l:Nat)(Q:Exit->Env->aLW->Prop)(g:Env)(w:aLW):Prop:=
 ∃r:Loop,w.heap[l]?=some (.loop r)/\r.state≠.busy/\aGI Q g r.pending (w.putObj l (.loop {r with state:= .exhausted}))
def rfW(f:FuncId)(N:Nat)(ps:Array Tmp)(aJx bd:Code)(g:Env)(w:aLW):aLW:=
 (w.alloc (.deferred (some []))).alloc (.loop {state:= .ready,pending:=none,fn:=f,tmps:=tmpsOf N g,params:=ps,assign:=aJx,body:=bd,defers:=w.heap.size})
def aH9 (P:Program)(r:Result Next)(K:aLX->aLW->Prop):Prop:=
 match r with
 | .ok (.enter f args) w=>aG P f args w K
 |_=>False
def Gr(l:Nat):aLX:= .func (.yield l) #[] #[]
def RF(P:Program)(f:FuncId)(gf:Operand)(ps:Array Tmp)(aJx bd:Code)(Q:Exit->Env->aLW->Prop)(g:Env)(w:aLW):Prop:=
 match noMark (g DS)with
 |true=>aH9 P ((Ac (ev g gf) [Gr (w.heap.size+1)]).run P (rfW f (RM P f) ps aJx bd g w)) λ_ w3=>
  aCv (w.heap.size+1) Q (put g (some DS) (.pointer (some ⟨w.heap.size,0,none⟩))) w3
 |false=>False
def dM(P:Program)(ann:FA):Code->(Exit->Env->aLW->Prop)->Env->aLW->Prop
 | .skip,Q,g,w=>Q .normal g w
 | .region id ops draw,Q,g,w=>match draw with
   |false=>agU P ops ops.toList g w (Q .normal)
   |true=>asP P ann.f id ops (ann.t id) g w {w with drawn:=w.drawn+1} (Q .normal)
 | .seq x y,Q,g,w=>dM P ann x (B1 (λg w=>dM P ann y Q g w) Q) g w
 | .cond c x y,Q,g,w=>cP (ev g c) (dM P ann x Q g w) (dM P ann y Q g w)
 | .block id c,Q,g,w=>dM P ann c (KB id Q) g w
 | .loop c,Q,g,w=>bM (λX g w=>dM P ann c (B1 X Q) g w) g w
 | .scope c,Q,g,w=>dM P ann c Q g w
 | .label _,Q,g,w=>Q .normal g w
 | .exit id,Q,g,w=>Q (.exit id) g w
 | .ret,Q,g,w=>Q .ret g w
 | .rangeFunc gf ps aJx bd,Q,g,w=>RF P ann.f gf ps aJx bd Q g w
 |_,_,_,_=>False
def aAj(N:Nat)(o:Oper):Bool:=match o.dst with|some d=>Nat.blt d N|none=>true
def bef(b:Array Nat)(i j:Nat):Bool:=(b.getD j 0).testBit i
def looks(ops:Array Oper)(o:Oper):List Tmp:=
 (o.op.operands.toList.filterMap λ| .tmp t=>some t|_=>none)++(match o.guard with|some (j,_)=>(Es ops j).toList|none=>[])
def aCL(ops:Array Oper)(x y:Oper):Bool:=
 (match x.dst with|some d=>(looks ops y).contains d||y.dst==some d|none=>false)||
 (match y.dst with|some d=>(looks ops x).contains d|none=>false)
def aaL(o:Oper):Bool:=match o.op with| .select .. =>true|_=>false
def aDe(o:Oper):Bool:=match o.op with| .call {callee:= .value (.func _),.. }=>true|_=>false
def anK(o:Oper):Bool:=match o.op with| .defer .. =>true|_=>false
def anQ:Operand->Bool| .tmp t=>Nat.blt t DS|_=>true
def afA(P:Program)(o:Oper):Bool:=
 match o.op with
 | .call c=>(match c.callee with
   | .value (.func f)=>(match P.funcs[f]? with|some fn=>fn.body.isSome&& !(fn.name== "runtime.NumGoroutine")|none=>false)
   | .builtin b=>(match b with| .print| .println=>false|_=>true)
   |_=>true)
 |_=>true
def Cs(P:Program)(o:Oper):Bool:=afA P o&&(o.op.operands.toList.all anQ&&(!aaL o&& !anK o))
def Nm(o:Oper):Bool:=match o.op with| .move _| .assign _=>true|_=>false
def RO(ops:Array Oper)(b:Array Nat)(an:Ann)(i j:Nat)(x y:Oper):Bool:=
 bef b i j||
 (!aCL ops x y&&
   match oE i an.1,oE j an.1 with
   |true,true=>false
   |false,false=>true
   |true,false=>Nm y||ahP i j an.2
   |false,true=>Nm x||ahP i j an.2)
def arW(ops:Array Oper)(b:Array Nat)(an:Ann):Bool:=
 (List.range ops.size).all λj=>(List.range j).all λi=>
  match ops[i]?,ops[j]? with
  |some x,some y=>RO ops b an i j x y
  |_,_=>false
def anE(ops:Array Oper):Bool:=
 (List.range ops.size).all λi=>match ops[i]? with
  |some o=>o.after.all λe=> !Region.binds .any e||Nat.blt e.on i
  |none=>false
def amX(ops:Array Oper)(b:Array Nat):Bool:=
 (List.range ops.size).all λj=>(List.range ops.size).all λi=>
  !bef b i j||(match ops[j]? with
   |some o=>o.after.any λe=>Region.binds .any e&&(Nat.beq e.on i||bef b i e.on)
   |none=>false)
def agV(ops:Array Oper)(an:Ann):Bool:=
 anE ops&&amX ops (Region.before ops)&&arW ops (Region.before ops) an&&(ops.all λo=> !aaL o)&&
  (List.range ops.size).all λi=>match ops[i]? with|some o=> !aDe o||oE i an.1|none=>false
def ahY(n:Nat)(an:Ann)(pl:arT):Bool:=
 (List.range n).all λi=>match pl[i]? with
  |some (h,ks)=>h==oE i an.1&&an.2.all λp=> !Nat.beq p.2 i||(Nat.blt p.1 i&&ks.contains (i-1-p.1))
  |none=>false
def ayH(π:List Nat)(ops:Array Oper):Bool:=
 Nat.beq π.length ops.size&&((List.range ops.size).all λk=>match π[k]? with|some i=>Nat.beq (xJ π i) k&&Nat.blt i ops.size|none=>false)&&
  ((List.range ops.size).all λi=>match π[xJ π i]? with|some j=>Nat.beq j i|none=>false)&&
  ((List.range ops.size).all λi=>match ops[i]? with
    |some o=>(o.after.all λe=>Nat.blt e.on ops.size)&&(match o.guard with|some (j,_)=>Nat.blt j ops.size|none=>true)
    |none=>false)
def VU(P:Program)(N:Nat)(ops:Array Oper):List (Nat×Nat)->HT->Bool
 |_,.leaf an pl=>agV ops an&&ahY ops.size an pl
 |path,.perm π es an pl=>(es.all λp=>ahP p.1 p.2 path&&Nat.blt p.1 ops.size)&&ayH π ops&&(nH π es ops).all (aAj N)&&(nH π es ops).all (Cs P)&&
  agV (nH π es ops) an&&ahY (nH π es ops).size an pl
 |path,.split a b x y=> !Nat.beq a b&&VU P N ops ((a,b)::path) x&&VU P N ops ((b,a)::path) y
def codeOk(P:Program)(N:Nat)(ann:FA):Code->Bool
 | .skip| .exit _| .ret| .label _=>true
 | .scope c=>codeOk P N ann c
 | .region id ops draw=>ops.all (aAj N)&&ops.all (Cs P)&&(!draw||VU P N ops [] (ann.t id))
 | .seq x y=>codeOk P N ann x&&codeOk P N ann y
 | .cond c x y=>anQ c&&(codeOk P N ann x&&codeOk P N ann y)
 | .block _ c=>codeOk P N ann c
 | .loop c=>codeOk P N ann c
 | .rangeFunc gf _ _ _=>anQ gf
 |_=>false
def qU:Code->Bool
 | .seq x y=>qU x&&qU y
 | .cond _ x y=>qU x&&qU y
 | .block _ c=>qU c
 | .loop c=>qU c
 | .scope c=>qU c
 | .rangeFunc .. =>false
 |_=>true
def aoD:ResultVar->Bool
 | .tmp t=>Nat.blt t DS
 | .cell a _=>Nat.blt a DS
theorem Mk(g:Env)(d i:Nat)(v:aLX):put g (some d) v i=if i=d then v else g i:=by
 unfold put
 by_cases h:i=d
 .subst h;simp
 .have:Nat.beq i d=false:=by
   cases hb:Nat.beq i d
   .rfl
   .exact absurd (aKg hb) h
  simp[this,h]
theorem asD{P:Program}{o:Oper}(h:Cs P o=true):afA P o=true:=by
 unfold Cs at h;simp only[aJM]at h;exact h.1
theorem axK{P:Program}{o:Oper}(h:Cs P o=true):∀x∈o.op.operands,anQ x=true:=by
 unfold Cs at h;simp only[aJM]at h
 intro x hx
 exact aKt.1 h.2.1 x (by simpa using hx)
theorem axL{P:Program}{o:Oper}(h:Cs P o=true):aaL o=false:=by
 unfold Cs at h;simp only[aJM,aKW]at h;exact h.2.2.1
theorem axJ{P:Program}{o:Oper}(h:Cs P o=true):anK o=false:=by
 unfold Cs at h;simp only[aJM,aKW]at h;exact h.2.2.2
def U6 (N:Nat)(ops:Array Oper):Prop:=∀(i:Nat) (o:Oper),ops[i]?=some o->∀t,o.dst=some t->t<N
structure Qt(N:Nat)(g:Env)(a:Act):Prop where
 le:N<=DS
 defers:a.defers=asT (g DS)
 size:a.tmps.size=N
 at_:∀i,i≠DS->a.tmps.getD i undef=g i
theorem Qt.ev {N:Nat}{g:Env}{a:Act}(h:Qt N g a)(x:Operand)(hx:anQ x=true):a.eval x=ev g x:=by
 cases x with
 |tmp t=>
  have:t<DS:=(aLr (x:=t) (y:=DS))▸hx
  have e:=h.at_ t (aLu this)
  simp[Act.eval,En.ev,<-e]
 |_=>simp[Act.eval,En.ev]
theorem Qt.put {N:Nat}{g:Env}{a:Act}(h:Qt N g a)(d:Option Tmp)(v:aLX)(hd:∀t,d=some t->t<N):
 Qt N (put g d v) (a.put d v):=by
 cases d with
 |none=>exact h
 |some t=>
  obtain⟨h0,h1,h2,h3⟩:=h
  have ht:=hd t rfl
  refine⟨h0, ?_,by simp[Act.put,h2],λi hne=> ?_⟩
  .rw [Mk,if_neg (Nat.ne_of_gt (aKa ht h0))];exact h1
  .rw [Mk,<-h3 i hne]
   by_cases hi:i=t
   .subst hi;simp[Act.put,h2,ht]
   .have hi':t≠i:=λe=>hi e.symm
    simp[Act.put,hi,aJ6 hi']
theorem Qt.wanted {N:Nat}{g:Env}{a:Act}(h:Qt N g a)(ops:Array Oper)(hd:U6 N ops)(o:Oper):
 Region.wanted o (yielded ops a.tmps)=match o.guard with|none=>true|some (j,want)=>AL g (Es ops j) want:=by
 unfold Region.wanted
 cases o.guard with
 |none=>rfl
 |some p=>
  obtain⟨j,want⟩:=p
  simp only[yielded,AL,Es]
  cases ho:ops[j]? with
  |none=>simp
  |some o'=>
   cases hdd:o'.dst with
   |none=>simp[hdd]
   |some t=>
    have hlt:=hd j o' ho t hdd
    have hle:=h.le
    have h3:=h.at_ t (aLu (aKa hlt hle))
    simp only[hdd,Option.bind_some,bG,asB,<-h3]
    simp only[aJN]
    cases ht:a.tmps[t]? with
    |none=>simp[undef]
    |some v=>cases v<;>simp
def upX(P:Program)(o:Oper)(a:Act)(next:Act->aLW->Prop):Result Next->Prop
 | .ok (.value v) w'=>next (a.put o.dst v) w'
 | .ok .skip w'=>next (a.put o.dst undef) w'
 | .ok (.enter f args) w'=>∃v w'',Ret P f args w' v w''/\next (a.put o.dst v) w''
 | .ok (.round l f tmps aJx bd) w'=>∃v w'',aHH P l f tmps aJx bd w' v w''/\next (a.put o.dst v) w''
 |_=>False
def azC(P:Program)(o:Oper)(a:Act)(w:aLW)(next:Act->aLW->Prop):Prop:=anK o=false/\upX P o a next ((execOp a.eval o).run P w)
def Ta(P:Program)(ops:Array Oper)(i:Nat)(K:Act->aLW->Prop)(a:Act)(w:aLW):Prop:=
 match ops[i]? with
 |none=>K a w
 |some o=>if Region.wanted o (yielded ops a.tmps)then azC P o a w K else K (a.put o.dst undef) w
def Ew(P:Program)(ops:Array Oper)(Q:Act->aLW->Prop):List Nat->Act->aLW->Prop
 |[],a,w=>Q a w
 |i::rest,a,w=>Ta P ops i (Ew P ops Q rest) a w
def akY(P:Program)(ops:Array Oper)(Q:Act->aLW->Prop):Nat->Array Bool->Act->aLW->Prop
 |0,listed,a,w=>Region.ready .any ops listed=[]/\Q a w
 |fuel+1,listed,a,w=>
  (Region.ready .any ops listed=[]->Q a w)/\∀i∈Region.ready .any ops listed,Ta P ops i (akY P ops Q fuel (listed.setIfInBounds i true)) a w
theorem aoF{P:Program}{o:Oper}{a:Act}{w:aLW}{K K':Act->aLW->Prop}(h:∀a w,K a w->K' a w)(hh:azC P o a w K):azC P o a w K':=by
 refine⟨hh.1, ?_⟩
 have hh:=hh.2
 generalize(execOp a.eval o).run P w=r at*
 cases r with
 |ok x w'=>
  cases x<;>simp only[upX]at hh⊢<;>first|exact h _ _ hh|(obtain⟨v,w'',h1,h2⟩:=hh;exact⟨v,w'',h1,h _ _ h2⟩)|exact hh
 |halt x w'=>exact hh.elim
theorem azT{P:Program}{ops:Array Oper}{i:Nat}{a:Act}{w:aLW}{K K':Act->aLW->Prop}(h:∀a w,K a w->K' a w)(hh:Ta P ops i K a w):Ta P ops i K' a w:=by
 unfold Ta at*
 split
 .exact h _ _ (by simpa[*]using hh)
 .rename_i o ho
  simp only[ho]at hh
  split
  .rename_i hw;simp only[hw,if_true]at hh;exact aoF h hh
  .rename_i hw;simp only[hw]at hh;exact h _ _ hh
def akX(ro:Option Nat):Fence:={Fence.wide with round:=ro}
theorem aCl{P:Program}{ops:Array Oper}{Q:Act->aLW->Prop}(ro:Option Nat):∀(L:List Nat) (a:Act) (w:aLW),Ew P ops Q L a w→
 wpOpsIn (akX ro) 0 P ops (λe a w=>e= .normal/\Q a w) L a w:=by
 intro L
 induction L with
 |nil=>intro a w h;exact⟨rfl,h⟩
 |cons i L ih=>
  intro a w h
  simp only[Ew,Ta]at h
  simp only[wpOpsIn]
  cases ho:ops[i]? with
  |none=>rw[ho]at h;exact ih _ _ h
  |some o=>
   rw[ho]at h
   simp only at h⊢
   by_cases hw:Region.wanted o (yielded ops a.tmps)=true
   .rw [if_pos hw]at h⊢
    obtain⟨hd,h⟩:=h
    refine⟨λ_ _=>trivial, ?_⟩
    rw[Oper.semAt_eq _ _ _ (λc hc=>by simp[anK,hc]at hd)]
    generalize(execOp a.eval o).run P w=r at*
    cases r with
    |halt x w'=>exact h.elim
    |ok x w'=>
     cases x<;>simp only[upX]at h<;>simp only[Oper.uponIn]<;>try(exact h.elim)
     .exact ih _ _ h
     .exact ih _ _ h
     .obtain ⟨v,w'',h1,h2⟩:=h
      refine⟨λhn=>by simp[akX,Fence.wide]at hn, ?_⟩
      have:=callsIn_wide (n:=0).2 h1
      refine CallsIn.mono (F:=akX ro) (n:=0) this ?_
      rintro e w3 ⟨rfl,rfl⟩
      exact ih _ _ h2
     .obtain ⟨v,w'',h1,h2⟩:=h
      refine⟨λhn=>by simp[akX,Fence.wide]at hn, ?_⟩
      refine RoundIn.mono (F:=akX ro) (n:=0) h1 ?_
      rintro e w3 ⟨rfl,rfl⟩
      exact ih _ _ h2
   .rw [if_neg hw]at h⊢
    exact⟨λ_ _=>trivial,ih _ _ h⟩
section
variable{P:Program}{ops:Array Oper}
def aaC(P:Program)(ops:Array Oper)(g:Env)(o:Oper)(w:aLW)(v:aLX)(w':aLW):Prop:=
 ∀K:aLX->aLW->Prop,K v w'->IC P ops g o w K
theorem azY{s:Sem Next}{w:aLW}{K:aLX->aLW->Prop}(h:aA P s w K):
 ∃v w',(∀K':aLX->aLW->Prop,K' v w'->aA P s w K')/\K v w':=by
 unfold aA at*
 generalize s.run P w=r at*
 match r,h with
 | .ok (.value v) w1,h=>exact⟨v,w1,λ_ h'=>h',h⟩
 | .ok .skip w1,h=>exact⟨undef,w1,λ_ h'=>h',h⟩
 | .ok (.enter f args) w1,h=>
   obtain⟨v,w',hr,hk⟩:=h
   exact⟨v,w',λ_ h'=>⟨v,w',hr,h'⟩,hk⟩
 | .ok (.round l f tmps aJx bd) w1,h=>
   obtain⟨v,w',hr,hk⟩:=h
   exact⟨v,w',λ_ h'=>⟨v,w',hr,h'⟩,hk⟩
theorem anP{g:Env}{o:Oper}{w:aLW}{K:aLX->aLW->Prop}(h:J4 P g o w K):
 ∃v w',(∀K':aLX->aLW->Prop,K' v w'->J4 P g o w K')/\K v w':=by
 unfold J4 at*
 split at h
 .exact ⟨_,_,λ_ h'=>h',h⟩
 .exact ⟨_,_,λ_ h'=>h',h⟩
 .split at h
  .obtain ⟨v,w',a,b⟩:=h
   exact⟨v,w',λ_ h'=>⟨v,w',a,h'⟩,b⟩
  .exact azY h
 .exact azY h
theorem aFK(op:BinOp)(t:TypeId)(ox oy:Operand)(x y:aLX):aE op t ox oy x y=V (do eqGuard op t ox oy x y;binOp op t x y):=by
 cases op<;>simp[aE,DY,eqGuard]
theorem aDB{g:Env}{o:Oper}(ho:Cs P o=true):Mi g o=execOp (ev g) o:=by
 have ho:=asD ho
 unfold Mi
 split
 .rename_i op t x y yt hx
  simp only[execOp,hx,aFK,V]
 .rename_i fn first captured hx
  have e1:(List.map (ev g) first.toList).toArray=first.map (ev g):=by obtain⟨l⟩:=first;simp
  have e2:(List.map (ev g) captured.toList).toArray=captured.map (ev g):=by obtain⟨l⟩:=captured;simp
  simp only[execOp,hx,Pf,V,e1,e2]
 .rename_i t ps hx
  have e:(List.map (λp:Nat×Operand=>(p.1,ev g p.2)) ps.toList).toArray=ps.map (λp=>(p.1,ev g p.2)):=by obtain⟨l⟩:=ps;simp
  simp only[execOp,hx,bV,V,e]
 .rename_i t n ps hx
  have e:(List.map (λp:Nat×Operand=>(p.1,ev g p.2)) ps.toList).toArray=ps.map (λp=>(p.1,ev g p.2)):=by obtain⟨l⟩:=ps;simp
  simp only[execOp,hx,bB,V,e]
 .rename_i c hx
  split
  .rename_i b hb
   simp only[execOp,hx,resolve,hb,pure_bind,invoke,eI]
   unfold afA at ho
   simp only[hx,hb]at ho
   have e:(List.map (ev g) c.args.toList).toArray=c.args.map (ev g):=by obtain⟨l⟩:=c.args;simp
   rw[e]
   cases b<;>first|rfl|(cases ho)
  .rename_i f hb
   have e:(List.map (ev g) c.args.toList).toArray=c.args.map (ev g):=by obtain⟨l⟩:=c.args;simp
   simp only[execOp,hx,resolve,hb,Ac,e]
  .rfl
 .rfl
theorem Na{f:FuncId}{fn:Func}(hf:P.funcs[f]?=some fn)(hb:fn.body.isSome=true)(hn:(fn.name== "runtime.NumGoroutine")=false)
 (args:Array aLX) (w:aLW):(callFunc f args).run P w= .ok (.enter f args) w:=by
 unfold callFunc
 have hb':fn.body.isNone=false:=by cases h:fn.body<;>simp_all
 show Sem.run P (Sem.program λp=>_) w=_
 simp only[Sem.run]
 simp only[bind,Sem.bind,hf,hn,hb',aJI,if_false]
 rfl
theorem Nw{g:Env}{o:Oper}{w:aLW}{K:aLX->aLW->Prop}(h:IC P ops g o w K):
 ∃v w',aaC P ops g o w v w'/\K v w':=by
 unfold aaC
 unfold IC at*
 split at h
 .obtain ⟨v,w',h1,h2⟩:=anP h
  exact⟨v,w',h1,h2⟩
 .rename_i j want hg
  unfold Gd at*
  cases hb:AL g (Es ops j) want with
  |true=>
   simp only[hb]at h
   obtain⟨v,w',h1,h2⟩:=anP h
   exact⟨v,w',λK hk=>h1 K hk,h2⟩
  |false=>
   simp only[hb]at h
   exact⟨_,_,λK hk=>hk,h⟩
theorem abR{N i:Nat}{g:Env}{a:Act}{o:Oper}{w w':aLW}{v:aLX}{next:Act->aLW->Prop}
 (hi:ops[i]?=some o) (hc:Cs P o=true) (hd:U6 N ops) (hr:Qt N g a) (hy:aaC P ops g o w v w') (hn:next (a.put o.dst v) w'):Ta P ops i next a w:=by
 have h:=hy (λv2 w2=>v2=v/\w2=w') ⟨rfl,rfl⟩
 unfold Ta
 rw[hi]
 simp only[hr.wanted ops hd]
 have run:J4 P g o w (λv2 w2=>v2=v/\w2=w')->azC P o a w next:=by
  intro h
  refine⟨axJ hc, ?_⟩
  have hevs:execOp a.eval o=execOp (ev g) o:=execOp_congr o (λcs b he=>by have:=axL hc;simp[aaL,he]at this) (λx hx=>hr.ev x (axK hc x hx))
  have stp:aA P (Mi g o) w (λv2 w2=>v2=v/\w2=w')->upX P o a next ((execOp (ev g) o).run P w):=by
   intro h
   rw[aDB hc]at h
   unfold aA at h
   generalize(execOp (ev g) o).run P w=r at*
   match r,h with
   | .ok (.value v) w1,h=>obtain⟨rfl,rfl⟩:=h;exact hn
   | .ok .skip w1,h=>obtain⟨rfl,rfl⟩:=h;exact hn
   | .ok (.enter f args) w1,h=>
     obtain⟨v2,w2,hret,rfl,rfl⟩:=h
     exact⟨_,_,hret,hn⟩
   | .ok (.round l f tmps aJx bd) w1,h=>
     obtain⟨v2,w2,hret,rfl,rfl⟩:=h
     exact⟨_,_,hret,hn⟩
  rw[hevs]
  unfold J4 at h
  split at h
  .rename_i x hx
   obtain⟨rfl,rfl⟩:=h
   simp only[execOp,hx];exact hn
  .rename_i x hx
   obtain⟨rfl,rfl⟩:=h
   simp only[execOp,hx];exact hn
  .rename_i c hx
   split at h
   .rename_i f hcal
    obtain⟨v2,w2,hret,rfl,rfl⟩:=h
    have e:(execOp (ev g) o).run P w= .ok (.enter f (List.map (ev g) c.args.toList).toArray) w:=by
     have hc:=asD hc
     unfold afA at hc
     simp only[hx,hcal]at hc
     cases hfn:P.funcs[f]? with
     |none=>rw[hfn]at hc;cases hc
     |some fn=>
      rw[hfn]at hc
      simp only[aJM,aKW]at hc
      have ea:(List.map (ev g) c.args.toList).toArray=c.args.map (ev g):=by obtain⟨l⟩:=c.args;simp
      rw[ea]
      simp only[execOp,hx,resolve,hcal,ev,Deferred.ofValue,pure_bind,invoke]
      simp only[Array.empty_append,Array.append_empty]
      exact Na hfn hc.1 hc.2 _ w
    rw[e]
    exact⟨_,_,hret,hn⟩
   .exact stp h
  .exact stp h
 unfold IC at h
 cases hg:o.guard with
 |none=>
  rw[hg]at h
  simp only[if_true]
  exact run h
 |some p=>
  obtain⟨j,want⟩:=p
  simp only[hg]at h
  simp only
  by_cases hb:AL g (Es ops j) want=true
  .rw [if_pos hb]
   simp only[hb,Gd]at h
   exact run h
  .rw [if_neg hb]
   have hb':AL g (Es ops j) want=false:=by simpa using hb
   simp only[hb',Gd]at h
   obtain⟨rfl,rfl⟩:=h
   exact hn
def V1 (P:Program)(ops:Array Oper):Prop:=∀(i:Nat) (o:Oper),ops[i]?=some o->Cs P o=true
theorem aBL{N:Nat}(hd:U6 N ops)(hca:V1 P ops){Q:Act->aLW->Prop}{K:Env->aLW->Prop}
 (hQ:∀g a w,Qt N g a->K g w->Q a w):
 ∀(l:List Oper) (k:Nat) (g:Env) (a:Act) (w:aLW),(∀j,l[j]?=ops[k+j]?)->Qt N g a->agU P ops l g w K→
  Ew P ops Q (List.range' k l.length) a w:=by
 intro l
 induction l with
 |nil=>intro k g a w _ hr h;exact hQ _ _ _ hr h
 |cons o l ih=>
  intro k g a w hl hr h
  have h0:ops[k]?=some o:=by have:=hl 0;simpa using this.symm
  obtain⟨v,w',hy,hk⟩:=Nw h
  rw[aJT,List.range'_succ]
  show Ta P ops k (Ew P ops Q _) a w
  refine abR h0 (hca k o h0) hd hr hy ?_
  refine ih (k+1) _ _ _ (λj=> ?_) (hr.put _ _ (hd k o h0)) hk
  have:=hl (j+1)
  simp only[aJF]at this
  rw[this];congr 1;omega
def aaW(an:Ann)(O:Nat->Oper)(G:Nat->Env)(W:Nat->aLW)(V:Nat->aLX)(i:Nat):Rec:=
 ⟨oE i an.1,O i,G i,W i,V i⟩
def aAf(P:Program)(ops:Array Oper)(an:Ann)(O:Nat->Oper)(G:Nat->Env)(W:Nat->aLW)(V:Nat->aLX)(i j:Nat):Prop:=
 Ve P ops (aaW an O G W V i) (O j) (G j) (W (j+1)) (V j)
structure Run(P:Program)(ops:Array Oper)(an:Ann)(g0:Env)(w0:aLW)(n:Nat)(O:Nat->Oper)(G:Nat->Env)(W:Nat->aLW)(V:Nat->aLX):Prop where
 g0:G 0=g0
 w0:W 0=w0
 op:∀i,i<n->ops[i]?=some (O i)
 yld:∀i,i<n->aaC P ops (G i) (O i) (W i) (V i) (W (i+1))
 light:∀i,i<n->oE i an.1=false->W (i+1)=W i
 env:∀i,i<n->G (i+1)=put (G i) (O i).dst (V i)
 chk:∀i j,i<j->j<n->ahP i j an.2=true->aAf P ops an O G W V i j
theorem asG{o:Oper}{g:Env}{w':aLW}{v:aLX}{hist:List Rec}:∀{ks:List Nat},aEW P ops o g w' v hist ks->∀k∈ks,∃q,atZ hist k=some q/\Ve P ops q o g w' v:=by
 intro ks
 induction ks with
 |nil=>intro _ k hk;cases hk
 |cons a ks ih=>
  rintro⟨h1,h2⟩ k hk
  rcases aJG.1 hk with rfl|hk
  .cases hn:atZ hist k with
   |none=>rw[hn]at h1;exact h1.elim
   |some q=>rw[hn]at h1;exact⟨q,rfl,h1⟩
  .exact ih h2 k hk
theorem aBN{n:Nat}{an:Ann}{pl:arT}(h:ahY n an pl=true){i:Nat}(hi:i<n):
 ∃ks,pl[i]?=some (oE i an.1,ks)/\∀j,ahP j i an.2=true->j<i/\(i-1-j)∈ks:=by
 have:=aKt.1 h i (aKr.2 hi)
 cases hp:pl[i]? with
 |none=>rw[hp]at this;cases this
 |some p=>
  obtain⟨hv,ks⟩:=p
  rw[hp]at this
  simp only[aJM]at this
  obtain⟨h1,h2⟩:=this
  have h1:hv=oE i an.1:=by simpa using h1
  refine⟨ks,by rw[h1],λj hj=> ?_⟩
  have mm:∀(l:List (Nat×Nat)),ahP j i l=true->(j,i)∈l:=by
   intro l
   induction l with
   |nil=>intro h;cases h
   |cons q r ih=>
    obtain⟨a,b⟩:=q
    intro h
    unfold ahP at h
    cases ha:Nat.beq a j with
    |true=>
     simp only[ha]at h
     cases hb:Nat.beq b i with
     |true=>
      obtain rfl:=aKg ha
      obtain rfl:=aKg hb
      exact aJ3
     |false=>simp only[hb]at h;exact aJP _ (ih h)
    |false=>simp only[ha]at h;exact aJP _ (ih h)
  have:=aKt.1 h2 (j,i) (mm _ hj)
  simp only[Nat.beq_refl,aKU,aLe,aJM]at this
  refine⟨?_,by simpa using this.2⟩
  have hlt:=this.1
  exact(aLr (x:=j) (y:=i))▸hlt
theorem avM{an:Ann}{pl:arT}{g0:Env}{w0:aLW}{K:Env->aLW->Prop}(hpl:ahY ops.size an pl=true):
 ∀(l:List Oper) (m:Nat) (hist:List Rec) (O:Nat->Oper) (G:Nat->Env) (W:Nat->aLW) (V:Nat->aLX),
  (∀j,l[j]?=ops[m+j]?)->m+l.length=ops.size->Run P ops an g0 w0 m O G W V->(∀i,i<m->atZ hist (m-1-i)=some (aaW an O G W V i))→
  qB P ops l (pl.drop m) hist (G m) (W m) K→
  ∃(O:Nat->Oper) (G:Nat->Env) (W:Nat->aLW) (V:Nat->aLX),Run P ops an g0 w0 (m+l.length) O G W V/\K (G (m+l.length)) (W (m+l.length)):=by
 intro l
 induction l with
 |nil=>intro m hist O G W V _ _ hr _ h;exact⟨O,G,W,V,hr,by unfold qB at h;exact h⟩
 |cons o l ih=>
  intro m hist O G W V hl hlen hr hh h
  have h0:ops[m]?=some o:=by have:=hl 0;simpa using this.symm
  have hmn:m<ops.size:=by rw[aJT]at hlen;omega
  obtain⟨ks,hk1,hk2⟩:=aBN hpl hmn
  have hdrop:pl.drop m=(oE m an.1,ks)::pl.drop (m+1):=by
   have hlt:m<pl.length:=by
    rcases aKw m pl.length with h|h
    .exact h
    .rw [aKp h]at hk1;cases hk1
   rw[aKx hlt]
   rw[aJA hlt]at hk1
   rw[aKJ hk1]
  rw[hdrop]at h
  obtain⟨v,w',hy,hk⟩:=Nw h
  have key:(oE m an.1=false->w'=W m)/\(∀k∈ks,∃q,atZ hist k=some q/\Ve P ops q o (G m) w' v)/\
      (qB P ops l (pl.drop (m+1)) (⟨oE m an.1,o,G m,W m,v⟩::hist) (put (G m) o.dst v) w' K):=by
   have nil:∀w',∀k∈([]:List Nat),∃q,atZ hist k=some q/\Ve P ops q o (G m) w' v:=λ_ k hk=>(by cases hk)
   cases hm:oE m an.1 with
   |true=>
    rw[hm]at hk
    cases ks with
    |nil=>exact⟨λe=>(by cases e),nil _,hk⟩
    |cons k ks=>exact⟨λe=>(by cases e),asG hk.1,hk.2⟩
   |false=>
    rw[hm]at hk
    cases ks with
    |nil=>obtain⟨rfl,hk⟩:=hk;exact⟨λ_=>rfl,nil _,hk⟩
    |cons k ks=>obtain⟨rfl,hc,hk⟩:=hk;exact⟨λ_=>rfl,asG hc,hk⟩
  obtain⟨kl,c1,c2⟩:=key
  let O':Nat->Oper:=λi=>if i=m then o else O i
  let V':Nat->aLX:=λi=>if i=m then v else V i
  let G':Nat->Env:=λi=>if i=m+1 then put (G m) o.dst v else G i
  let W':Nat->aLW:=λi=>if i=m+1 then w' else W i
  have eO:∀i,i<m->O' i=O i:=λi hi=>if_neg (by omega)
  have eV:∀i,i<m->V' i=V i:=λi hi=>if_neg (by omega)
  have eG:∀i,i<=m->G' i=G i:=λi hi=>if_neg (by omega)
  have eW:∀i,i<=m->W' i=W i:=λi hi=>if_neg (by omega)
  have oO:O' m=o:=if_pos rfl
  have oV:V' m=v:=if_pos rfl
  have oG:G' (m+1)=put (G m) o.dst v:=if_pos rfl
  have oW:W' (m+1)=w':=if_pos rfl
  have eR:∀i,i<m->aaW an O' G' W' V' i=aaW an O G W V i:=λi hi=>by
   simp only[aaW,eO i hi,eV i hi,eG i (by omega),eW i (by omega)]
  have hr':Run P ops an g0 w0 (m+1) O' G' W' V':=by
   refine⟨by rw[eG 0 (by omega)];exact hr.g0,by rw[eW 0 (by omega)];exact hr.w0,λi hi=> ?_,λi hi=> ?_,λi hi hm=> ?_,λi hi=> ?_,λi j hij hj hm=> ?_⟩
   .by_cases hi':i=m
    .subst hi';rw[oO];exact h0
    .rw [eO i (by omega)];exact hr.op i (by omega)
   .by_cases hi':i=m
    .subst hi';rw[oO,oV,oW,eG i (by omega),eW i (by omega)];exact hy
    .rw [eO i (by omega),eV i (by omega),eG i (by omega),eW i (by omega),eW (i+1) (by omega)];exact hr.yld i (by omega)
   .by_cases hi':i=m
    .subst hi';rw[oW,eW i (by omega)];exact kl hm
    .rw [eW i (by omega),eW (i+1) (by omega)];exact hr.light i (by omega) hm
   .by_cases hi':i=m
    .subst hi';rw[oO,oV,oG,eG i (by omega)]
    .rw [eO i (by omega),eV i (by omega),eG i (by omega),eG (i+1) (by omega)];exact hr.env i (by omega)
   .unfold aAf
    by_cases hj':j=m
    .subst hj'
     rw[eR i (by omega),oO,oV,oW,eG j (by omega)]
     obtain⟨q,hq,hc⟩:=c1 _ (hk2 i hm).2
     rw[hh i hij]at hq
     obtain rfl:=aKJ hq
     exact hc
    .rw [eR i (by omega),eO j (by omega),eV j (by omega),eG j (by omega),eW (j+1) (by omega)]
     exact hr.chk i j hij (by omega) hm
  have:=ih (m+1) (⟨oE m an.1,o,G m,W m,v⟩::hist) O' G' W' V' (λj=>by
      have:=hl (j+1)
      simp only[aJF]at this
      rw[this];congr 1;omega) (by rw[aJT]at hlen;omega) hr' (λi hi=>by
      by_cases hi':i=m
      .subst hi'
       rw[show i+1-1-i=0 from by omega]
       simp only[atZ,aaW,oO,oV,eG i (by omega),eW i (by omega)]
      .rw [eR i (by omega),show m+1-1-i=(m-1-i)+1 from by omega]
       exact hh i (by omega)) (by rw[oG,oW];exact c2)
  rw[aJT,show m+(l.length+1)=m+1+l.length from by omega]
  exact this
end
section
variable{P:Program}{ops:Array Oper}{an:Ann}{g0:Env}{w0:aLW}{O:Nat->Oper}{G:Nat->Env}{W:Nat->aLW}{V:Nat->aLX}
def MZ(n:Nat)(O:Nat->Oper)(V:Nat->aLX)(g0:Env)(S:Nat->Prop)(g:Env):Prop:=
 ∀s,(∃j,j<n/\S j/\(O j).dst=some s/\(∀k,k<n->S k->(O k).dst=some s->k<=j)/\g s=V j)∨
  ((∀j,j<n->S j->(O j).dst≠some s)/\g s=g0 s)
theorem MZ.agree {n:Nat}{S T:Nat->Prop}{g g':Env}(h:MZ n O V g0 S g)(h':MZ n O V g0 T g')(s:Nat)
 (hs:∀j,j<n->(O j).dst=some s->(S j↔T j)):g s=g' s:=by
 rcases h s with⟨j,h1,h2,h3,h4,h5⟩|⟨h1,h2⟩<;>rcases h' s with⟨k,k1,k2,k3,k4,k5⟩|⟨k1,k2⟩
 .have a:=h4 k k1 ((hs k k1 k3).2 k2) k3
  have b:=k4 j h1 ((hs j h1 h3).1 h2) h3
  have:j=k:=by omega
  subst this;rw[h5,k5]
 .exact absurd h3 (k1 j h1 ((hs j h1 h3).1 h2))
 .exact absurd k3 (h1 k k1 ((hs k k1 k3).2 k2))
 .rw [h2,k2]
theorem MZ.step {n:Nat}{S:Nat->Prop}{g:Env}(h:MZ n O V g0 S g)(i:Nat)(hi:i<n)
 (hw:∀s,(O i).dst=some s->∀j,j<n->j≠i->(O j).dst=some s->S j->j<i):
 MZ n O V g0 (λj=>S j∨j=i) (put g (O i).dst (V i)):=by
 intro s
 cases hd:(O i).dst with
 |none=>
  rcases h s with⟨j,h1,h2,h3,h4,h5⟩|⟨h1,h2⟩
  .refine .inl ⟨j,h1,.inl h2,h3,λk k1 k2 k3=> ?_,h5⟩
   rcases k2 with k2|rfl
   .exact h4 k k1 k2 k3
   .rw [hd]at k3;cases k3
  .refine .inr ⟨λj h3 h4 h5=> ?_,h2⟩
   rcases h4 with h4|rfl
   .exact h1 j h3 h4 h5
   .rw [hd]at h5;cases h5
 |some t=>
  rw[Mk]
  by_cases hst:s=t
  .subst hst
   rw[if_pos rfl]
   refine .inl ⟨i,hi,.inr rfl,hd,λk k1 k2 k3=> ?_,rfl⟩
   rcases k2 with k2|rfl
   .by_cases hk:k=i
    .omega
    .have:=hw s hd k k1 hk k3 k2;omega
   .omega
  .rw [if_neg hst]
   rcases h s with⟨j,h1,h2,h3,h4,h5⟩|⟨h1,h2⟩
   .refine .inl ⟨j,h1,.inl h2,h3,λk k1 k2 k3=> ?_,h5⟩
    rcases k2 with k2|rfl
    .exact h4 k k1 k2 k3
    .rw [hd]at k3;exact absurd (aKJ k3).symm hst
   .refine .inr ⟨λj h3 h4 h5=> ?_,h2⟩
    rcases h4 with h4|rfl
    .exact h1 j h3 h4 h5
    .rw [hd]at h5;exact absurd (aKJ h5).symm hst
theorem Run.envFor {n:Nat}(r:Run P ops an g0 w0 n O G W V):∀i,i<=n->MZ n O V g0 (λj=>j<i) (G i):=by
 intro i
 induction i with
 |zero=>intro _ s;exact .inr ⟨λj _ h=>absurd h (by omega),by rw[r.g0]⟩
 |succ i ih=>
  intro hi
  have h:=ih (by omega)
  have:=h.step (V:=V) i (by omega) (λs _ j _ _ _ hj=>hj)
  rw[<-r.env i (by omega)]at this
  intro s
  rcases this s with⟨j,h1,h2,h3,h4,h5⟩|⟨h1,h2⟩
  .exact .inl ⟨j,h1,by omega,h3,λk k1 k2 k3=>h4 k k1 (by omega) k3,h5⟩
  .exact .inr ⟨λj a b=>h1 j a (by omega),h2⟩
theorem Run.still {n:Nat}(r:Run P ops an g0 w0 n O G W V)(i:Nat):∀d,i+d<=n->(∀h,i<=h->h<i+d->oE h an.1=false)->W (i+d)=W i:=by
 intro d
 induction d with
 |zero=>intro _ _;rfl
 |succ d ih=>
  intro h1 h2
  rw[<-aKu,r.light (i+d) (by omega) (h2 _ (by omega) (by omega))]
  exact ih (by omega) (λh a b=>h2 h a (by omega))
theorem Run.still' {n:Nat}(r:Run P ops an g0 w0 n O G W V){i k:Nat}(hik:i<=k)(hk:k<=n)(hh:∀h,i<=h->h<k->oE h an.1=false):W k=W i:=by
 have:=r.still i (k-i) (by omega) (λh a b=>hh h a (by omega))
 rwa [show i+(k-i)=k from by omega]at this
theorem atN{i k:Nat}:(∃h,i<=h/\h<k/\oE h an.1=true)->∃h,i<=h/\h<k/\oE h an.1=true/\∀h',i<=h'->h'<h->oE h' an.1=false:=by
 rintro⟨h,h1,h2,h3⟩
 induction h using Nat.strongRecOn with
 |_ h ih=>
  by_cases hx:∃h',i<=h'/\h'<h/\oE h' an.1=true
  .obtain ⟨h',a,b,c⟩:=hx
   exact ih h' b a (by omega) c
  .refine ⟨h,h1,h2,h3,λh' a b=> ?_⟩
   cases hm:oE h' an.1
   .rfl
   .exact absurd ⟨h',a,b,hm⟩ hx
theorem agY{i k:Nat}:(∃h,i<=h/\h<k/\oE h an.1=true)->∃h,i<=h/\h<k/\oE h an.1=true/\∀h',h<h'->h'<k->oE h' an.1=false:=by
 rintro⟨h,h1,h2,h3⟩
 induction hd:k-h using Nat.strongRecOn generalizing h with
 |_ d ih=>
  by_cases hx:∃h',h<h'/\h'<k/\oE h' an.1=true
  .obtain ⟨h',a,b,c⟩:=hx
   exact ih (k-h') (by omega) h' (by omega) b c rfl
  .refine ⟨h,h1,h2,h3,λh' a b=> ?_⟩
   cases hm:oE h' an.1
   .rfl
   .exact absurd ⟨h',a,b,hm⟩ hx
structure afX(ops:Array Oper)(an:Ann)(O:Nat->Oper)(b:Array Nat):Prop where
 back:∀i,i<ops.size->∀e∈(O i).after,Region.binds .any e=true->e.on<i
 closed:∀i j,i<ops.size->j<ops.size->bef b i j=true->∃e∈(O j).after,Region.binds .any e=true/\(e.on=i∨bef b i e.on=true)
 pair:∀i j,i<j->j<ops.size->RO ops b an i j (O i) (O j)=true
 sel:∀i,i<ops.size->aaL (O i)=false
 fn:∀i,i<ops.size->aDe (O i)=true->oE i an.1=true
theorem aB5 (h:agV ops an=true)(ho:∀i,i<ops.size->ops[i]?=some (O i)):afX ops an O (Region.before ops):=by
 unfold agV at h
 simp only[aJM]at h
 obtain⟨⟨⟨⟨h1,h2⟩,h3⟩,h5⟩,h6⟩:=h
 refine⟨λi hi e he hb=> ?_,λi j hi hj hb=> ?_,λi j hij hj=> ?_,λi hi=> ?_,λi hi hf=> ?_⟩
 .unfold anE at h1
  have:=aKt.1 h1 i (aKr.2 hi)
  rw[ho i hi]at this
  have:=aKK.1 this e he
  simp only[hb,aKU,aLe]at this
  exact(aLr (x:=e.on) (y:=i))▸this
 .unfold amX at h2
  have:=aKt.1 (aKt.1 h2 j (aKr.2 hj)) i (aKr.2 hi)
  rw[ho j hj]at this
  simp only[hb,aKU,aLe]at this
  obtain⟨e,he,h⟩:=Array.any_eq_true'.1 this
  simp only[aJM,aKq]at h
  refine⟨e,he,h.1,h.2.imp (λh=>aKg h) id⟩
 .unfold arW at h3
  have:=aKt.1 (aKt.1 h3 j (aKr.2 hj)) i (aKr.2 hij)
  rw[ho i (by omega),ho j hj]at this
  exact this
 .have:=aKK.1 h5 (O i) (aLM (ho i hi))
  simpa using this
 .have:=aKt.1 h6 i (aKr.2 hi)
  rw[ho i hi]at this
  simpa[hf]using this
theorem aDu{i j:Nat}:∀{l:List (Nat×Nat)},ahP i j l=true->(i,j)∈l:=by
 intro l
 induction l with
 |nil=>intro h;cases h
 |cons p r ih=>
  obtain⟨a,b⟩:=p
  intro h
  unfold ahP at h
  cases ha:Nat.beq a i with
  |true=>
   simp only[ha]at h
   cases hb:Nat.beq b j with
   |true=>
    obtain rfl:=aKg ha
    obtain rfl:=aKg hb
    exact aJ3
   |false=>simp only[hb]at h;exact aJP _ (ih h)
  |false=>simp only[ha]at h;exact aJP _ (ih h)
theorem afX.order {b:Array Nat}(st:afX ops an O b){S:Nat->Prop}{i:Nat}(hi:i<ops.size)
 (hdown:∀j k,j<ops.size->k<ops.size->S k->bef b j k=true->S j) (hbi:∀j,j<ops.size->bef b j i=true->S j) (hni:¬S i)
 {s:Nat} (hs:s∈looks ops (O i)∨(O i).dst=some s) {j:Nat} (hj:j<ops.size) (hji:j≠i) (hd:(O j).dst=some s):S j↔j<i:=by
 rcases aKw j i with h|h
 .refine ⟨λ_=>h,λ_=> ?_⟩
  have p:=st.pair j i h hi
  unfold RO at p
  simp only[aKq,aJM,aKW]at p
  rcases p with p|p
  .exact hbi j hj p
  .exfalso
   have p1:=p.1
   unfold aCL at p1
   simp only[hd,aLi]at p1
   rcases hs with hs|hs
   .have:=p1.1.1;simp[hs]at this
   .have:=p1.1.2;simp[hs]at this
 .have h':i<j:=by omega
  refine⟨λhS=> ?_,λhh=>by omega⟩
  exfalso
  have p:=st.pair i j h' hj
  unfold RO at p
  simp only[aKq,aJM,aKW]at p
  rcases p with p|p
  .exact hni (hdown i j hi hj hS p)
  .have p1:=p.1
   unfold aCL at p1
   simp only[hd,aLi]at p1
   rcases hs with hs|hs
   .have:=p1.2;simp[hs]at this
   .have:=p1.1;rw[hs]at this;simp at this
theorem L5 {g g':Env}{o:Oper}(h:∀s∈looks ops o,g s=g' s):∀x∈o.op.operands,ev g x=ev g' x:=by
 intro x hx
 cases x with
 |tmp t=>exact h t (aK5 _ (List.mem_filterMap.2 ⟨.tmp t,by simpa using hx,rfl⟩))
 |_=>rfl
theorem auB{g g':Env}{o:Oper}(hs:aaL o=false)(h:∀s∈looks ops o,g s=g' s):Mi g o=Mi g' o:=by
 have e:=execOp_congr o (λcs b he=>by simp[aaL,he]at hs) (L5 h)
 have k:=L5 h
 unfold Mi
 split
 .rename_i op t x y yt hx
  rw[k x (by simp[hx,Op.operands]),k y (by simp[hx,Op.operands])]
 .rename_i fn first captured hx
  have e1:List.map (ev g) first.toList=List.map (ev g') first.toList:=aKF λp hp=>k p (by simp[hx,Op.operands];exact .inl (by simpa using hp))
  have e2:List.map (ev g) captured.toList=List.map (ev g') captured.toList:=aKF λp hp=>k p (by simp[hx,Op.operands];exact .inr (by simpa using hp))
  rw[e1,e2]
 .rename_i t ps hx
  congr 1
  refine aKF λp hp=> ?_
  rw[k p.2 (by simp[hx,Op.operands];exact⟨p.1,by simpa using hp⟩)]
 .rename_i t n ps hx
  congr 1
  refine aKF λp hp=> ?_
  rw[k p.2 (by simp[hx,Op.operands];exact⟨p.1,by simpa using hp⟩)]
 .rename_i c hx
  split
  .rename_i b hb
   congr 1
   refine aKF λp hp=> ?_
   exact k p (by simp[hx,Op.operands,Call.operands,hb];simpa using hp)
  .rename_i f hb
   have:List.map (ev g) c.args.toList=List.map (ev g') c.args.toList:=aKF λp hp=>k p (by simp[hx,Op.operands,Call.operands,hb];exact .inr (by simpa using hp))
   rw[this,k f (by simp[hx,Op.operands,Call.operands,hb])]
  .exact e
 .exact e
theorem alO{g g':Env}{o:Oper}{j:Nat}{want:Bool}(hg:o.guard=some (j,want))(h:∀s∈looks ops o,g s=g' s):
 AL g (Es ops j) want=AL g' (Es ops j) want:=by
 cases hs:Es ops j with
 |none=>rfl
 |some t=>
  have:=h t (aLt _ (by simp[hg,hs]))
  simp[AL,this]
theorem WW{g g':Env}{o:Oper}{w:aLW}{K:aLX->aLW->Prop}(hs:aaL o=false)(h:∀s∈looks ops o,g s=g' s)
 (hk:IC P ops g o w K):IC P ops g' o w K:=by
 have e:=auB (ops:=ops) hs h
 have run:J4 P g o w=J4 P g' o w:=by
  funext K
  unfold J4
  split
  .rename_i x hx
   have:=L5 (ops:=ops) h x (by simp[hx,Op.operands])
   rw[this]
  .rename_i x hx
   have:=L5 (ops:=ops) h x (by simp[hx,Op.operands])
   rw[this]
  .rename_i c hx
   have k:=L5 h
   have:List.map (ev g) c.args.toList=List.map (ev g') c.args.toList:=aKF λp hp=>k p (by simp[hx,Op.operands,Call.operands];exact .inr (by simpa using hp))
   rw[this,e]
  .rw [e]
 unfold IC at*
 cases hg:o.guard with
 |none=>rw[hg]at hk;simp only at hk⊢;rwa [<-run]
 |some p=>
  obtain⟨j,want⟩:=p
  simp only[hg]at hk⊢
  rw[<-run,<-alO hg h]
  exact hk
theorem atS{n:Nat}(hn:n=ops.size){b:Array Nat}(r:Run P ops an g0 w0 n O G W V)(st:afX ops an O b){S:Nat->Prop}{i k:Nat}(hi:i<n)(hk:k<=n)
 (hdown:∀j k,j<ops.size->k<ops.size->S k->bef b j k=true->S j) (hbi:∀j,j<ops.size->bef b j i=true->S j) (hni:¬S i)
 (hS:∀h,h<n->oE h an.1=true->(S h↔h<k)) (hl:oE i an.1=false):
 aaC P ops (G i) (O i) (W k) (V i) (W k):=by
 subst hn
 have same:Gs (gOf ops (O i) (G i)) (aO P (Mi (G i) (O i)) (V i) (W k))->Nm (O i)=false->aaC P ops (G i) (O i) (W k) (V i) (W k):=by
  intro hs hm K hK
  have run:aO P (Mi (G i) (O i)) (V i) (W k)->J4 P (G i) (O i) (W k) K:=by
   intro hs
   unfold aO at hs
   have stp:aA P (Mi (G i) (O i)) (W k) K:=by unfold aA;rw[hs];exact hK
   unfold J4
   split
   .rename_i x hx;simp[Nm,hx]at hm
   .rename_i x hx;simp[Nm,hx]at hm
   .rename_i c hx
    have hf:aDe (O i)=false:=by
     cases hh:aDe (O i)
     .rfl
     .rw [st.fn i hi hh]at hl;cases hl
    obtain⟨cal,cargs,cats⟩:=c
    cases cal with
    |value f=>
     cases f with
     |func f=>simp[aDe,hx]at hf
     |_=>exact stp
    |_=>exact stp
   .exact stp
  have hy:=r.yld i hi (λv _=>v=V i) rfl
  unfold IC at hy⊢
  unfold gOf at hs
  cases hg:(O i).guard with
  |none=>rw[hg]at hs;exact run hs
  |some p=>
   obtain⟨j,want⟩:=p
   rw[hg]at hs
   simp only[hg]at hs hy⊢
   cases hb:AL (G i) (Es ops j) want with
   |true=>rw[hb]at hs;exact run hs
   |false=>
    rw[hb]at hy
    have:undef=V i:=hy
    show K undef (W k)
    rw[this];exact hK
 have moved:Nm (O i)=true->aaC P ops (G i) (O i) (W k) (V i) (W k):=by
  intro hm K hK
  have hy:=r.yld i hi (λv _=>v=V i) rfl
  unfold IC at hy⊢
  have mv:∀(K':aLX->aLW->Prop) w,J4 P (G i) (O i) w K'↔∃x,((O i).op= .move x∨(O i).op= .assign x)/\K' (ev (G i) x) w:=by
   intro K' w
   unfold J4
   unfold Nm at hm
   split
   .rename_i x hx;constructor
    .intro h;exact⟨x,.inl hx,h⟩
    .rintro ⟨y,h|h,h'⟩
     .rw [hx]at h;cases h;exact h'
     .rw [hx]at h;cases h
   .rename_i x hx;constructor
    .intro h;exact⟨x,.inr hx,h⟩
    .rintro ⟨y,h|h,h'⟩
     .rw [hx]at h;cases h
     .rw [hx]at h;cases h;exact h'
   .rename_i c hx;simp[hx]at hm
   .rename_i h1 h2 _;split at hm
    .rename_i x hx;exact absurd hx (h1 x)
    .rename_i x hx;exact absurd hx (h2 x)
    .cases hm
  cases hg:(O i).guard with
  |none=>
   rw[hg]at hy
   simp only at hy⊢
   rw[mv]at hy⊢
   obtain⟨x,hx,h⟩:=hy
   exact⟨x,hx,h▸hK⟩
  |some p=>
   obtain⟨j,want⟩:=p
   simp only[hg]at hy⊢
   unfold Gd at*
   cases hb:AL (G i) (Es ops j) want with
   |true=>
    simp only[hb]at hy⊢
    rw[mv]at hy⊢
    obtain⟨x,hx,h⟩:=hy
    exact⟨x,hx,h▸hK⟩
   |false=>
    simp only[hb]at hy⊢
    rwa [hy]
 rcases Nat.le_total k i with hki|hki
 .by_cases hx:∃h,k<=h/\h<i/\oE h an.1=true
  .obtain ⟨h,h1,h2,h3,h4⟩:=atN hx
   have e:W h=W k:=r.still' h1 (by omega) h4
   have p:=st.pair h i h2 hi
   unfold RO at p
   simp only[aKq,aJM,aKW]at p
   rcases p with p|p
   .have:=hbi h (by omega) p
    have:=(hS h (by omega) h3).1 this
    omega
   .have p2:=p.2
    rw[h3,hl]at p2
    simp only[aKq]at p2
    cases hmv:Nm (O i)with
    |true=>exact moved hmv
    |false=>
     rcases p2 with p2|p2
     .rw [hmv]at p2;cases p2
     .refine same ?_ hmv
      have c:=r.chk h i h2 hi p2
      unfold aAf Ve aaW at c
      simp only[h3]at c
      rw[<-e];exact c
  .have e:W i=W k:=r.still' hki (by omega) (λh a b=>by
    cases hm:oE h an.1
    .rfl
    .exact absurd ⟨h,a,b,hm⟩ hx)
   have hy:=r.yld i hi
   rw[r.light i hi hl,e]at hy
   exact hy
 .by_cases hx:∃h,i<=h/\h<k/\oE h an.1=true
  .obtain ⟨h,h1,h2,h3,h4⟩:=agY hx
   have hne:h≠i:=λe=>by rw[e,hl]at h3;cases h3
   have e:W k=W (h+1):=r.still' (by omega) hk (λh' a b=>h4 h' (by omega) b)
   have p:=st.pair i h (by omega) (by omega)
   unfold RO at p
   simp only[aKq,aJM,aKW]at p
   rcases p with p|p
   .exact absurd (hdown i h (by omega) (by omega) ((hS h (by omega) h3).2 h2) p) hni
   .have p2:=p.2
    rw[h3,hl]at p2
    simp only[aKq]at p2
    cases hmv:Nm (O i)with
    |true=>exact moved hmv
    |false=>
     rcases p2 with p2|p2
     .rw [hmv]at p2;cases p2
     .refine same ?_ hmv
      have c:=r.chk i h (by omega) (by omega) p2
      unfold aAf Ve aaW at c
      simp only[hl]at c
      rw[e];exact c
  .have e:W k=W i:=r.still' hki hk (λh a b=>by
    cases hm:oE h an.1
    .rfl
    .exact absurd ⟨h,a,b,hm⟩ hx)
   have hy:=r.yld i hi
   rw[r.light i hi hl,<-e]at hy
   exact hy
def jQ(listed:Array Bool)(i:Nat):Prop:=listed.getD i false=true
theorem aCW{N n:Nat}(hn:n=ops.size)(hd:U6 N ops)(hca:V1 P ops){b:Array Nat}(r:Run P ops an g0 w0 n O G W V)(st:afX ops an O b)
 {Q:Act->aLW->Prop} (hQ:∀a,Qt N (G n) a->Q a (W n)):
 ∀(fuel:Nat) (listed:Array Bool) (g:Env) (a:Act) (k:Nat),listed.size=n->Qt N g a->k<=n→
  (∀j,j<n->jQ listed j->∀e∈(O j).after,Region.binds .any e=true->jQ listed e.on)→
  MZ n O V g0 (jQ listed) g->(∀h,h<n->oE h an.1=true->(jQ listed h↔h<k))→
  ((List.range n).filter λi=> !listed.getD i false).length<=fuel→
  akY P ops Q fuel listed a (W k):=by
 subst hn
 have ready_iff:∀(listed:Array Bool),listed.size=ops.size->∀i,i∈Region.ready .any ops listed↔(i<ops.size/\¬jQ listed i/\∀e∈(O i).after,Region.binds .any e=true->jQ listed e.on):=by
  intro listed hsz i
  unfold Region.ready jQ
  rw[aLR,aKr]
  constructor
  .rintro ⟨h1,h2⟩
   rw[r.op i h1]at h2
   simp only[aJM,aKo,aKA]at h2
   refine⟨h1, ?_,λe he hb=> ?_⟩
   .have:=h2.1
    rw[aJN]at this⊢
    rw[aJ2 (by omega)]at this⊢
    simpa using this
   .have:=aKK.1 h2.2 e he
    simpa[hb]using this
  .rintro ⟨h1,h2,h3⟩
   refine⟨h1, ?_⟩
   rw[r.op i h1]
   simp only[aJM,aKo,aKA]
   refine⟨?_,aKK.2 λe he=> ?_⟩
   .rw [aJN]at h2⊢
    rw[aJ2 (by omega)]at h2⊢
    simpa using h2
   .by_cases hb:Region.binds .any e=true
    .simp [hb,h3 e he hb]
    .simp [hb]
 have none_ready:∀(listed:Array Bool),listed.size=ops.size->Region.ready .any ops listed=[]->∀i,i<ops.size->jQ listed i:=by
  intro listed hsz hr i
  induction i using Nat.strongRecOn with
  |_ i ih=>
   intro hi
   refine Classical.byContradiction λhl=> ?_
   have:i∈Region.ready .any ops listed:=(ready_iff listed hsz i).2 ⟨hi,hl,λe he hb=>by
    have:=st.back i hi e he hb
    exact ih e.on this (by omega)⟩
   rw[hr]at this;cases this
 have all_done:∀(listed:Array Bool) (g:Env) (a:Act) (k:Nat),Qt N g a->k<=ops.size->MZ ops.size O V g0 (jQ listed) g→
     (∀h,h<ops.size->oE h an.1=true->(jQ listed h↔h<k))->(∀i,i<ops.size->jQ listed i)->Q a (W k):=by
  intro listed g a k hr hk he hh hall
  have e:W ops.size=W k:=r.still' hk (aJK _) (λh h1 h2=>by
   cases hm:oE h an.1
   .rfl
   .have:=(hh h h2 hm).1 (hall h h2);omega)
  have eg:g=G ops.size:=funext λs=>he.agree (r.envFor ops.size (aJK _)) s (λj hj _=>⟨λ_=>hj,λ_=>hall j hj⟩)
  rw[<-e];exact hQ a (eg▸hr)
 intro fuel
 induction fuel with
 |zero=>
  intro listed g a k hsz hr hk hdep henv hh hc
  have hall:∀i,i<ops.size->jQ listed i:=by
   intro i hi
   have hnil:((List.range ops.size).filter λi=> !listed.getD i false)=[]:=aJ9.1 (by omega)
   have:=List.filter_eq_nil_iff.1 hnil i (aKr.2 hi)
   unfold jQ;simpa using this
  refine⟨?_,all_done listed g a k hr hk henv hh hall⟩
  rw[List.eq_nil_iff_forall_not_mem]
  intro i hi
  have:=(ready_iff listed hsz i).1 hi
  exact this.2.1 (hall i this.1)
 |succ fuel ih=>
  intro listed g a k hsz hr hk hdep henv hh hc
  refine⟨λhn=>all_done listed g a k hr hk henv hh (none_ready listed hsz hn),λi hi=> ?_⟩
  obtain⟨h1,h2,h3⟩:=(ready_iff listed hsz i).1 hi
  have hdown:∀k j,j<ops.size->k<ops.size->jQ listed k->bef b j k=true->jQ listed j:=by
   intro k
   induction k using Nat.strongRecOn with
   |_ k ihk=>
    intro j hj hk hl hb
    obtain⟨e,he,hbi,h⟩:=st.closed j k hj hk hb
    have hle:=hdep k hk hl e he hbi
    rcases h with h|h
    .exact h▸hle
    .have hlt:=st.back k hk e he hbi
     exact ihk e.on hlt j hj (by omega) hle h
  have hbi:∀j,j<ops.size->bef b j i=true->jQ listed j:=by
   intro j hj hb
   obtain⟨e,he,hbi,h⟩:=st.closed j i hj h1 hb
   have hle:=h3 e he hbi
   rcases h with h|h
   .exact h▸hle
   .have hlt:=st.back i h1 e he hbi
    exact hdown e.on j hj (by omega) hle h
  have hdown':∀j k,j<ops.size->k<ops.size->jQ listed k->bef b j k=true->jQ listed j:=λj k=>hdown k j
  have hlooks:∀s∈looks ops (O i),(G i) s=g s:=λs hs=>
   (r.envFor i (by omega)).agree henv s (λj hj hd=>by
     by_cases hji:j=i
     .subst hji
      exact⟨λh=>absurd h (by omega),λh=>absurd h h2⟩
     .exact (st.order h1 hdown' hbi h2 (.inl hs) hj hji hd).symm)
  have hl':∀j,jQ (listed.setIfInBounds i true) j↔(jQ listed j∨j=i):=by
   intro j
   unfold jQ
   rw[aJN,aJN]
   by_cases hji:j=i
   .subst hji
    rw[aJ4 (by omega)]
    simp
   .rw [aJ6 (λe=>hji e.symm)]
    simp[hji]
  have next:∀k',k'<=ops.size->(∀h,h<ops.size->oE h an.1=true->((jQ listed h∨h=i)↔h<k'))->aaC P ops g (O i) (W k) (V i) (W k')→
      Ta P ops i (akY P ops Q fuel (listed.setIfInBounds i true)) a (W k):=by
   intro k' hk' hh' hy
   refine abR (r.op i h1) (hca i _ (r.op i h1)) hd hr hy ?_
   refine ih _ (put g (O i).dst (V i)) _ k' (by simp[hsz]) (hr.put _ _ (hd i _ (r.op i h1))) hk' ?_ ?_ ?_ ?_
   .intro j hj hlj e he hb
    rw[hl']at hlj⊢
    rcases hlj with hlj|rfl
    .exact .inl (hdep j hj hlj e he hb)
    .exact .inl (h3 e he hb)
   .have:=henv.step i h1 (λs hs j hj hji hd hlj=>(st.order h1 hdown' hbi h2 (.inr hs) hj hji hd).1 hlj)
    intro s
    rcases this s with⟨j,j1,j2,j3,j4,j5⟩|⟨j1,j2⟩
    .exact .inl ⟨j,j1,(hl' j).2 j2,j3,λk k1 k2 k3=>j4 k k1 ((hl' k).1 k2) k3,j5⟩
    .exact .inr ⟨λj a b=>j1 j a ((hl' j).1 b),j2⟩
   .intro h a b;rw[hl'];exact hh' h a b
   .have hin:i∈(List.range ops.size).filter λi=> !listed.getD i false:=
     aLR.2 ⟨aKr.2 h1,by unfold jQ at h2;simpa using h2⟩
    have e1:((List.range ops.size).filter λj=> !(listed.setIfInBounds i true).getD j false)=((List.range ops.size).filter λj=> !listed.getD j false).filter λj=>j !=i:=by
     rw[List.filter_filter]
     refine List.filter_congr λj _=> ?_
     have:=hl' j
     unfold jQ at this
     by_cases hji:j=i
     .have hh:(listed.setIfInBounds i true).getD j false=true:=this.2 (.inr hji)
      rw[hh,hji];simp
     .have hne:(j !=i)=true:=by simpa using hji
      rw[hne,aKH]
      cases ha:listed.getD j false with
      |true=>rw[this.2 (.inl ha)]
      |false=>
       cases hb:(listed.setIfInBounds i true).getD j false with
       |false=>rfl
       |true=>rcases this.1 hb with h|h
              .rw [ha]at h;cases h
              .exact absurd h hji
    have hnd:((List.range ops.size).filter λj=> !listed.getD j false).Nodup:=List.nodup_range.filter _
    rw[e1,<-List.Nodup.erase_eq_filter hnd,aLF hin]
    omega
  cases hm:oE i an.1 with
  |true=>
   have hS:∀h,h<ops.size->oE h an.1=true->(jQ listed h↔h<i):=by
    intro h hh1 hhm
    rcases Nat.lt_trichotomy h i with hlt|heq|hgt
    .refine ⟨λ_=>hlt,λ_=> ?_⟩
     have p:=st.pair h i hlt h1
     unfold RO at p
     rw[hhm,hm]at p
     simp only[aKq,aJM,aJI,and_false,or_false]at p
     exact hbi h hh1 p
    .subst heq;exact⟨λhh=>absurd hh h2,λhh=>absurd hh (by omega)⟩
    .refine ⟨λhl=> ?_,λhh=>absurd hh (by omega)⟩
     have p:=st.pair i h hgt hh1
     unfold RO at p
     rw[hhm,hm]at p
     simp only[aKq,aJM,aJI,and_false,or_false]at p
     exact absurd (hdown h i h1 hh1 hl p) h2
   have eW:W k=W i:=by
    rcases Nat.le_total k i with hki|hki
    .exact (r.still' hki (by omega) (λh a b=>by
      cases hx:oE h an.1
      .rfl
      .have:=(hh h (by omega) hx).1 ((hS h (by omega) hx).2 b);omega)).symm
    .exact r.still' hki hk (λh a b=>by
      cases hx:oE h an.1
      .rfl
      .have:=(hS h (by omega) hx).1 ((hh h (by omega) hx).2 b);omega)
   refine next (i+1) (by omega) (λh a b=> ?_) ?_
   .rw [hS h a b];omega
   .rw [eW]
    intro K hK
    exact WW (ops:=ops) (st.sel i h1) hlooks (r.yld i h1 K hK)
  |false=>
   refine next k hk (λh a b=> ?_) ?_
   .rw [<-hh h a b]
    constructor
    .rintro (h'|rfl)
     .exact h'
     .rw [hm]at b;cases b
    .exact .inl
   .intro K hK
    exact WW (ops:=ops) (st.sel i h1) hlooks (atS rfl r st h1 hk hdown' hbi h2 hh hm K hK)
end
abbrev afZ(P:Program):Machine->Prop:=Machine.fenced P Fence.wide
def wpF(P:Program)(f:FuncId)(ro:Option Nat)(c:Code)(Q:Exit->Act->aLW->Prop)(a:Act)(w:aLW):Prop:=
 ∀(b:Frame) (k:List Item) (cs:List Frame),b.fn=f->b.roundOf=ro->∃e a' w',Q e a' w'/\ArrivesIn (afZ P) P (lone (b.atR a (.code c::k)) cs w) b k cs e a' w'
section
variable{P:Program}{f:FuncId}{ro:Option Nat}{Q:Exit->Act->aLW->Prop}{a:Act}{w:aLW}
theorem IB{m m1:Machine}(h:step P m= .next m1):StepsIn (afZ P) P m m1:= .one (fenced_wide P m) h
theorem OR{m m1 m2:Machine}(h:step P m= .next m1)(h':StepsIn (afZ P) P m1 m2):StepsIn (afZ P) P m m2:= .head (fenced_wide P m) h h'
theorem aEF(h:Q .normal a w):wpF P f ro .skip Q a w:=λ_ _ _ _ _=>⟨.normal,a,w,h,IB Go.stepR_skip⟩
theorem aCi{l:Nat}(h:Q .normal a w):wpF P f ro (.label l) Q a w:=λ_ _ _ _ _=>⟨.normal,a,w,h,IB stepR_label⟩
theorem awU{id:Nat}(h:Q (.exit id) a w):wpF P f ro (.exit id) Q a w:=
 λ_ k _ _ _=>⟨.exit id,a,w,h,λ_ hk=>IB (stepR_exit hk),λ_ hk=>⟨k,hk,.refl _⟩⟩
theorem aA6 (h:Q .ret a w):wpF P f ro .ret Q a w:=
 λ_ k _ _ _=>⟨.ret,a,w,h,λhn=>⟨_,IB (stepR_ret hn)⟩,λ_=>⟨k,.refl _⟩⟩
theorem aFX{x y:Code}(h:wpF P f ro x (Exit.then (wpF P f ro y Q) Q) a w):wpF P f ro (.seq x y) Q a w:=by
 intro b k cs hb hro
 obtain⟨e,a1,w1,hq,har⟩:=h b (.code y::k) cs hb hro
 cases e with
 |normal=>
  obtain⟨e2,a2,w2,hq2,har2⟩:=hq b k cs hb hro
  exact⟨e2,a2,w2,hq2,.of_steps (OR stepR_seq har) har2⟩
 |_=>exact⟨_,a1,w1,hq,.of_steps (IB stepR_seq) (.pass (x:= .code y) rfl (λ_ _=> .inl (by simp)) har)⟩
theorem aED{c:Operand}{x y:Code}{t:Bool}(hc:a.eval c= .bool t)(h:wpF P f ro (if t then x else y) Q a w):wpF P f ro (.cond c x y) Q a w:=
 λb k cs hb hro=>let⟨e,a1,w1,q,r⟩:=h b k cs hb hro;⟨e,a1,w1,q,.of_steps (IB (stepR_cond hc)) r⟩
theorem aCh{id:Nat}{c:Code}(h:wpF P f ro c (Exit.inBlock id Q) a w):wpF P f ro (.block id c) Q a w:=by
 intro b k cs hb hro
 obtain⟨e,a1,w1,hq,har⟩:=h b (.inBlock id::k) cs hb hro
 cases e with
 |normal=>exact⟨.normal,a1,w1,hq,OR stepR_block (StepsIn.trans har (IB stepR_inBlock))⟩
 |exit i=>
  by_cases hid:i=id
  .simp only[Exit.inBlock,hid,if_true]at hq
   exact⟨.normal,a1,w1,hq,OR stepR_block (har.1 k (by simp[exitTo,hid]))⟩
  .simp only[Exit.inBlock,hid,if_false]at hq
   have this:(id==i)=false:=by simp;exactλh=>hid h.symm
   have hx:exitTo i (.inBlock id::k)=exitTo i k:=by simp[exitTo,this]
   exact⟨.exit i,a1,w1,hq,λk' hk=>OR stepR_block (har.1 k' (by rw[hx];exact hk)),
    λhr' hk=>let⟨k1,h1,h2⟩:=har.2 hr' (by rw[hx];exact hk);⟨k1,h1,OR stepR_block h2⟩⟩
 |goto l=>
  have hx:gotoIn l (.inBlock id::k)=gotoIn l k:=by simp[gotoIn]
  exact⟨_,a1,w1,hq,λk' hk=>OR stepR_block (har.1 k' (by rw[hx];exact hk)),
   λhr' hk=>let⟨k1,h1,h2⟩:=har.2 hr' (by rw[hx];exact hk);⟨k1,h1,OR stepR_block h2⟩⟩
 |ret=>exact⟨_,a1,w1,hq,.of_steps (IB stepR_block) har⟩
 |panic ch=>exact⟨_,a1,w1,hq,.of_steps (IB stepR_block) har⟩
 |outgrown=>exact⟨_,a1,w1,hq,.of_steps (IB stepR_block) har⟩
theorem BZ{b:Frame}{k:List Item}{cs:List Frame}{c:Code}:
 step P (lone (b.atR a (.code (.scope c)::k)) cs w)= .next (lone (b.atR a (.code c:: .inScope c::k)) cs w):=
 step_lone_go (by simp[stepG,stepG.exec,Frame.atR])
theorem amR{b:Frame}{k:List Item}{cs:List Frame}{c:Code}:
 step P (lone (b.atR a (.inScope c::k)) cs w)= .next (lone (b.atR a k) cs w):=
 step_lone_go (by simp[stepG,stepG.exec,Frame.atR])
theorem aCk{c:Code}(h:wpF P f ro c (Exit.noGoto Q) a w):wpF P f ro (.scope c) Q a w:=by
 intro b k cs hb hro
 obtain⟨e,a1,w1,hq,har⟩:=h b (.inScope c::k) cs hb hro
 cases e with
 |normal=>exact⟨.normal,a1,w1,hq,OR BZ (StepsIn.trans har (IB amR))⟩
 |exit id=>
  have hx:exitTo id (.inScope c::k)=exitTo id k:=by simp[exitTo]
  exact⟨.exit id,a1,w1,hq,λk' hk=>OR BZ (har.1 k' (by rw[hx];exact hk)),
   λhr' hk=>let⟨k1,h1,h2⟩:=har.2 hr' (by rw[hx];exact hk);⟨k1,h1,OR BZ h2⟩⟩
 |goto l=>exact hq.elim
 |ret=>exact⟨_,a1,w1,hq,.of_steps (IB BZ) har⟩
 |panic ch=>exact⟨_,a1,w1,hq,.of_steps (IB BZ) har⟩
 |outgrown=>exact⟨_,a1,w1,hq,.of_steps (IB BZ) har⟩
theorem aEE{c:Code}(I:Act->aLW->Prop)(μ:Act->aLW->Nat)(h0:I a w)
 (round:∀a w,I a w->wpF P f ro c (Exit.then (λa' w'=>I a' w'/\μ a' w'<μ a w) Q) a w):wpF P f ro (.loop c) Q a w:=by
 intro b k cs hb hro
 have key:∀n a w,μ a w=n->I a w→
     ∃e a' w',Q e a' w'/\ArrivesIn (afZ P) P (lone (b.atR a (.code c:: .inLoop c::k)) cs w) b k cs e a' w':=by
  intro n
  induction n using Nat.strongRecOn with
  |_ n ih=>
   intro a w hn hI
   obtain⟨e,a1,w1,hq,har⟩:=round a w hI b (.inLoop c::k) cs hb hro
   cases e with
   |normal=>
    obtain⟨hI1,hlt⟩:=hq
    obtain⟨e2,a2,w2,hq2,har2⟩:=ih (μ a1 w1) (hn▸hlt) a1 w1 rfl hI1
    exact⟨e2,a2,w2,hq2,.of_steps (StepsIn.trans har (IB stepR_inLoop)) har2⟩
   |_=>exact⟨_,a1,w1,hq,.pass (x:= .inLoop c) rfl (λ_ _=> .inl (by simp)) har⟩
 obtain⟨e,a',w',hq,har⟩:=key _ a w rfl h0
 exact⟨e,a',w',hq,.of_steps (IB stepR_loop) har⟩
theorem aA5 {ops:Array Oper}{L:List Nat}(h:Ew P ops (Q .normal) L a w)(b:Frame)(k:List Item)(cs:List Frame)(hro:b.roundOf=ro):
 ∃e a' w',Q e a' w'/\ArrivesIn (afZ P) P (lone (b.atR a (.inRegion ops L::k)) cs w) b k cs e a' w':=by
 obtain⟨e,a',w',⟨rfl,hq⟩,hs⟩:=wp_opsIn (F:=akX ro) (n:=0) L a w (aCl ro L a w h) b k cs hro trivial (λ_ h=>by simp[akX,Fence.wide]at h)
 exact⟨.normal,a',w',hq,hs⟩
theorem azS{id:Nat}{ops:Array Oper}(h:Ew P ops (Q .normal) (List.range ops.size) a w):wpF P f ro (.region id ops false) Q a w:=by
 intro b k cs hb hro
 obtain⟨e,a1,w1,q,r⟩:=aA5 h b k cs hro
 exact⟨e,a1,w1,q,.of_steps (IB stepR_region) r⟩
theorem aeX(hm:P.follows .mixedOrders=true){id:Nat}{ops:Array Oper}
 (h:Ew P ops (Q .normal) (Region.schedule true ops (w.tape w.drawn (.order f id))) a {w with drawn:=w.drawn+1}):wpF P f ro (.region id ops true) Q a w:=by
 intro b k cs hb hro
 obtain⟨e,a1,w1,q,r⟩:=aA5 h b k cs hro
 refine⟨e,a1,w1,q,.of_steps (IB ?_) r⟩
 have:= @stepR_region_draw P b a k cs w ops id
 rw[hm,hb]at this
 exact this
def GJ(v:aLX)(w:aLW)(K:aLW->Prop):Prop:=
 match v with
 | .pointer (some a)=>w.heap[a.block]?=some (.deferred (some []))/\K (w.putObj a.block (.deferred none))
 |_=>K w
def aBe(P:Program)(fn:Func)(R:aLX->aLW->Prop):Exit->Act->aLW->Prop
 | .normal,a,w| .ret,a,w=>∃m,a.defers=asT m/\GJ m w λw'=>∃v,(results fn a.tmps).run P w'= .ok v w'/\R v w'
 |_,_,_=>False
theorem atO{fn:Func}{R:aLX->aLW->Prop}{fr:Frame}{cs:List Frame}(hm:fr.mode= .returning)(hf:P.funcs[fr.fn]?=some fn)(hk:fr.kind= .normal){m:aLX}(hd:fr.defers=asT m)
 (h:GJ m w λw'=>∃v,(results fn fr.tmps).run P w'= .ok v w'/\R v w'):
 ∃v w' fr',R v w'/\Steps P (lone fr cs w) (lone fr' cs w')/\fr'.fn=fr.fn/\fr'.leaving P w' (.returned v):=by
 have nil:fr.defers=[]->(∃v,(results fn fr.tmps).run P w= .ok v w/\R v w)→
     ∃v w' fr',R v w'/\Steps P (lone fr cs w) (lone fr' cs w')/\fr'.fn=fr.fn/\fr'.leaving P w' (.returned v):=by
  rintro hd ⟨v,hv,hR⟩
  exact⟨v,w,fr,hR,.refl _ _,rfl,hm,hd,hk,fn,hf,hv⟩
 cases m with
 |pointer p=>
  cases p with
  |none=>exact nil hd h
  |some a=>
   obtain⟨h1,v,hv,hR⟩:=h
   have hs:=step_collected (P:=P) (fr:=fr) (cs:=cs) (w:=w) (d:={target:= .collected a.block,args:= #[]}) (r:=a.block) (ds:=[]) (calls:=[])
    (by rw[hm];simp) hd rfl (run_takeDeferred h1)
   exact⟨v,_,{fr with defers:=[]},hR,.head hs (.refl _ _),rfl,hm,rfl,hk,fn,hf,hv⟩
 |_=>exact nil hd h
theorem apH{fn:Func}{c:Code}{args:Array aLX}{w:aLW}{R:aLX->aLW->Prop}
 (hf:P.funcs[f]?=some fn) (hb:fn.body=some c)
 (h:wpF P f none c (aBe P fn R) {tmps:=args++Array.replicate (fn.ntmps-args.size) undef,defers:=[]} w):Calls P f args w λe w'=>∃v,e= .returned v/\R v w':=by
 intro cs
 let b:Frame:={(default:Frame)with fn:=f,kind:= .normal,roundOf:=none}
 have henter:Frame.enter P f args .normal=b.atR {tmps:=args++Array.replicate (fn.ntmps-args.size) undef,defers:=[]} [.code c]:=by
  simp[Frame.enter,Frame.atR,hf,hb,b]
 obtain⟨e,a',w',hq,har⟩:=h b [] cs rfl rfl
 rw[<-henter]at har
 cases e with
 |normal=>
  obtain⟨m,hd,hq⟩:=hq
  obtain⟨v,w2,fr,hR,hs,hfn,hl⟩:=atO (P:=P) (cs:=cs) (fr:={b.atR a' []with mode:= .returning}) rfl hf rfl hd hq
  exact⟨.returned v,w2,fr,⟨v,rfl,hR⟩,(StepsIn.steps har).trans (.head (stepR_end rfl) hs),hfn,hl⟩
 |ret=>
  obtain⟨m,hd,hq⟩:=hq
  obtain⟨todo,hs0⟩:=har.1 rfl
  obtain⟨v,w2,fr,hR,hs,hfn,hl⟩:=atO (P:=P) (cs:=cs) (fr:={b.atR a' todo with mode:= .returning}) rfl hf rfl hd hq
  exact⟨.returned v,w2,fr,⟨v,rfl,hR⟩,(StepsIn.steps hs0).trans hs,hfn,hl⟩
 |panic chain=>exact hq.elim
 |exit id=>exact hq.elim
 |goto l=>exact hq.elim
 |outgrown=>exact hq.elim
def aGj(P:Program)(f:FuncId)(Q:Exit->Act->aLW->Prop)(a:Act)(w:aLW):Option Code->Prop
 |none=>Q .normal a w
 |some c=>wpF P f none c Q a w
theorem aCj{gf:Operand}{ps:Array Tmp}{aJx bd:Code}{d:Deferred}{g:FuncId}{args:Array aLX}{w1:aLW}{l:Nat}{mark:List Deferred}{w2 w3:aLW}{v:aLX}
 (he:(Instr.enterLoop f a.tmps ps aJx bd none).run P w= .ok (l,mark) w1)
 (hres:(resolve a.eval (rangeCall gf l) 0).run P w1= .ok d w1) (hinv:(invoke d.target d.args).run P w1= .ok (.enter g args) w2)
 (hcall:Ret P g args w2 v w3)
 {jump:Option Code} {w4:aLW} (hend:(Instr.endLoop l).run P w3= .ok jump w4)
 (hj:aGj P f Q {a with defers:=mark++a.defers} w4 jump):
 wpF P f none (.rangeFunc gf ps aJx bd) Q a w:=by
 intro b k cs hb hro
 rw[<-hb,<-hro]at he
 have henter:=stepR_rangeFunc (P:=P) (b:=b) (a:=a) (k:=k) (cs:=cs) (w:=w) he hres hinv
 obtain⟨e,w3',fr,⟨rfl,rfl⟩,hsteps,hfn,hleave⟩:=hcall (b.atR {a with defers:=mark++a.defers} (.inRangeFunc l::k)::cs)
 have sback:StepsIn (afZ P) P (lone (b.atR a (.code (.rangeFunc gf ps aJx bd)::k)) cs w) (lone (b.atR {a with defers:=mark++a.defers} ((jump.map Item.code).toList++k)) cs w4):=by
  refine OR henter (StepsIn.trans (stepsIn_wide.2 hsteps) (OR (m1:=lone (b.atR {a with defers:=mark++a.defers} (.endRangeFunc l::k)) cs w3') ?_ (IB (stepR_endRangeFunc hend))))
  rw[<-finish_atR_inRangeFunc l v];exact step_leave_returned hleave
 cases jump with
 |none=>exact⟨.normal,_,w4,hj,sback⟩
 |some c=>
  obtain⟨e',a'',w5,hq,harr⟩:=hj b k cs hb hro
  exact⟨e',a'',w5,hq,.of_steps sback harr⟩
def ayV(P:Program)(l:Nat)(R:aLX->aLW->Prop):Exit->Act->aLW->Prop
 | .normal,_,w=>∃v w',(Instr.endRound l none).run P w= .ok v w'/\R v w'
 | .ret,_,w=>∃v w',(Instr.endRound l (some .ret)).run P w= .ok v w'/\R v w'
 | .exit id,_,w=>∃v w',(Instr.endRound l (some (.exit id))).run P w= .ok v w'/\R v w'
 |_,_,_=>False
theorem aqP{l:Nat}{tmps:Array aLX}{aJx bd:Code}{R:aLX->aLW->Prop}
 (h:wpF P f (some l) aJx (Exit.then (λa1 w1=>∃w2,(Instr.beginRound l).run P w1= .ok () w2/\wpF P f (some l) bd (ayV P l R) a1 w2) (λ_ _ _=>False))
   {tmps:=tmps,defers:=[]} w):
 RoundIn Fence.wide 0 P l f tmps aJx bd w λe w'=>∃v,e= .returned v/\R v w':=by
 refine⟨trivial,λc cs _=> ?_⟩
 let b:Frame:={(default:Frame)with fn:=f,kind:= .normal,roundOf:=some l}
 have hb0:Frame.round l f tmps aJx bd .normal=b.atR {tmps:=tmps,defers:=[]} [.code aJx,.beginRound,.code bd]:=by
  simp[Frame.round,Frame.atR,b]
 obtain⟨e,a1,w1,hq,harr⟩:=h b [.beginRound,.code bd] (c::cs) rfl rfl
 rw[<-hb0]at harr
 cases e with
 |normal=>
  obtain⟨w2,hbr,hbody⟩:=hq
  have s1:=IB (stepR_beginRound (P:=P) (b:=b) (a:=a1) (k:=[.code bd]) (cs:=c::cs) rfl hbr)
  obtain⟨e2,a2,w3,hq2,harr2⟩:=hbody b [] (c::cs) rfl rfl
  cases e2 with
  |normal=>
   obtain⟨v,w4,hend,hR⟩:=hq2
   exact⟨.returned v,w4,⟨v,rfl,hR⟩,(StepsIn.trans harr s1).trans (StepsIn.trans harr2 (IB (stepR_round_end rfl rfl hend)))⟩
  |ret=>
   obtain⟨v,w4,hend,hR⟩:=hq2
   obtain⟨k1,hs⟩:=harr2.2 rfl
   exact⟨.returned v,w4,⟨v,rfl,hR⟩,(StepsIn.trans harr s1).trans (StepsIn.trans hs (IB (stepR_round_ret rfl rfl hend)))⟩
  |exit id=>
   obtain⟨v,w4,hend,hR⟩:=hq2
   obtain⟨k1,hk,hs⟩:=harr2.2 rfl rfl
   exact⟨.returned v,w4,⟨v,rfl,hR⟩,(StepsIn.trans harr s1).trans (StepsIn.trans hs (IB (stepR_round_exit rfl rfl hk hend)))⟩
  |goto t=>exact hq2.elim
  |panic chain=>exact hq2.elim
  |outgrown=>exact hq2.elim
 |exit id=>exact hq.elim
 |goto t=>exact hq.elim
 |ret=>exact hq.elim
 |panic chain=>exact hq.elim
 |outgrown=>exact hq.elim
end
def aoX(ops:Array Oper):Nat->Array Bool->List Nat->Prop
 |0,_,L=>L=[]
 |_+1,listed,[]=>Region.ready .any ops listed=[]
 |n+1,listed,i::L=>i∈Region.ready .any ops listed/\aoX ops n (listed.setIfInBounds i true) L
section
variable{P:Program}{ops:Array Oper}{Q:Act->aLW->Prop}
theorem aFl:∀(fuel t:Nat) (listed:Array Bool),aoX ops fuel listed (Region.linearise.go .any ops fuel t listed []):=by
 intro fuel
 induction fuel with
 |zero=>intro t listed;simp[Region.linearise.go,aoX]
 |succ fuel ih=>
  intro t listed
  simp only[Region.linearise.go]
  change aoX ops (fuel+1) listed (match(Region.ready .any ops listed)[t%(Region.ready .any ops listed).length]? with
   |some i=>Region.linearise.go .any ops fuel (t/(Region.ready .any ops listed).length) (listed.setIfInBounds i true) [i]
   |none=>[].reverse)
  cases hi:(Region.ready .any ops listed)[t%(Region.ready .any ops listed).length]? with
  |none=>
   have:Region.ready .any ops listed=[]:=by
    cases hr:Region.ready .any ops listed with
    |nil=>rfl
    |cons x xs=>
     rw[hr]at hi
     have hlt:t%(x::xs).length<(x::xs).length:=aLk _ (by simp)
     rw[aJA hlt]at hi
     cases hi
   simpa[aoX]using this
  |some i=>
   simp only[]
   rw[linearise_go_acc]
   exact⟨aKN hi,ih _ _⟩
theorem YF:∀(fuel:Nat) (listed:Array Bool) (L:List Nat) (a:Act) (w:aLW),akY P ops Q fuel listed a w->aoX ops fuel listed L->Ew P ops Q L a w:=by
 intro fuel
 induction fuel with
 |zero=>intro listed L a w h hL;obtain rfl:L=[]:=hL;exact h.2
 |succ fuel ih=>
  intro listed L a w h hL
  cases L with
  |nil=>exact h.1 hL
  |cons i L=>
   exact azT (λa w hh=>ih _ _ a w hh hL.2) (h.2 i hL.1)
end
structure Perm(π:List Nat)(ops:Array Oper):Prop where
 len:π.length=ops.size
 to:∀i,i<ops.size->xJ π i<ops.size/\π[xJ π i]?=some i
 back:∀k,k<ops.size->∃i,π[k]?=some i/\xJ π i=k/\i<ops.size
 after:∀(i:Nat) (o:Oper),ops[i]?=some o->∀e∈o.after,e.on<ops.size
 guard:∀(i:Nat) (o:Oper) (j:Nat) (b:Bool),ops[i]?=some o->o.guard=some (j,b)->j<ops.size
theorem aFC{π:List Nat}{ops:Array Oper}(h:ayH π ops=true):Perm π ops:=by
 unfold ayH at h
 simp only[aJM]at h
 obtain⟨⟨⟨h1,h2⟩,h3⟩,h4⟩:=h
 have h1:=aKg h1
 have at4:∀(i:Nat) (o:Oper),ops[i]?=some o->(o.after.all λe=>Nat.blt e.on ops.size)=true/\(match o.guard with|some (j,_)=>Nat.blt j ops.size|none=>true)=true:=by
  intro i o ho
  have hi:i<ops.size:=by
   rcases aKw i ops.size with h|h
   .exact h
   .rw [aKj h]at ho;cases ho
  have:=aKt.1 h4 i (aKr.2 hi)
  rw[ho]at this
  simp only[aJM]at this
  refine⟨this.1, ?_⟩
  have h:=this.2
  revert h
  cases o.guard<;>exact id
 refine⟨h1,λi hi=> ?_,λk hk=> ?_,λi o ho e he=> ?_,λi o j b ho hg=> ?_⟩
 .have:=aKt.1 h3 i (aKr.2 hi)
  cases hp:π[xJ π i]? with
  |none=>rw[hp]at this;cases this
  |some j=>
   rw[hp]at this
   obtain rfl:=aKg this
   refine⟨?_,rfl⟩
   rcases aKw (xJ π j) π.length with h|h
   .omega
   .rw [aKp h]at hp;cases hp
 .have:=aKt.1 h2 k (aKr.2 hk)
  cases hp:π[k]? with
  |none=>rw[hp]at this;cases this
  |some i=>
   rw[hp]at this
   simp only[aJM]at this
   exact⟨i,rfl,aKg this.1,(aLr (x:=i) (y:=ops.size))▸this.2⟩
 .have:=aKK.1 (at4 i o ho).1 e he
  exact(aLr (x:=e.on) (y:=ops.size))▸this
 .have:=(at4 i o ho).2
  rw[hg]at this
  exact(aLr (x:=j) (y:=ops.size))▸this
theorem anT{π:List Nat}{es:List (Nat×Nat)}{l:List Oper}:∀(r:List Nat),(∀i∈r,i<l.length)->(WZ π es l r).length=r.length/\∀k i:Nat,r[k]?=some i->(WZ π es l r)[k]?=(l[i]?).map (KX π es i):=by
 intro r
 induction r with
 |nil=>intro _;exact⟨rfl,λk i h=>by simp at h⟩
 |cons j r ih=>
  intro h
  obtain⟨h1,h2⟩:=ih λi hi=>h i (aJP _ hi)
  have hj:j<l.length:=h j (by simp)
  simp only[WZ,aJA hj]
  refine⟨by simp[h1],λk i hk=> ?_⟩
  cases k with
  |zero=>simp at hk;subst hk;simp[aJA hj]
  |succ k=>simp at hk⊢;exact h2 k i hk
section
variable{P:Program}{ops:Array Oper}{Q:Act->aLW->Prop}{π:List Nat}{es:List (Nat×Nat)}
theorem Perm.mem (p:Perm π ops):∀i∈π,i<ops.toList.length:=by
 intro i hi
 obtain⟨k,hk,e⟩:=aLo hi
 obtain⟨j,h1,_,h2⟩:=p.back k (by rw[<-p.len];exact hk)
 rw[aJA hk]at h1
 cases h1
 rw[<-e];simpa using h2
theorem Perm.size (p:Perm π ops):(nH π es ops).size=ops.size:=by
 unfold nH
 rw[aKG,(anT (es:=es) (π:=π) π p.mem).1,p.len]
theorem Perm.get (p:Perm π ops){i:Nat}(hi:i<ops.size):(nH π es ops)[xJ π i]?=(ops[i]?).map (KX π es i):=by
 unfold nH
 have:=(anT (es:=es) (π:=π) π p.mem).2 (xJ π i) i (p.to i hi).2
 rw[aLc]at this
 simpa using this
theorem ayI{i:Nat}{o:Oper}{a:Act}{w:aLW}{K:Act->aLW->Prop}:azC P (KX π es i o) a w K↔azC P o a w K:=by
 unfold azC
 have h1:execOp a.eval (KX π es i o)=execOp a.eval o:=by
  obtain⟨d,op,ty,ps,af,g⟩:=o
  cases op<;>rfl
 have h2:anK (KX π es i o)=anK o:=rfl
 rw[h1,h2]
 generalize(execOp a.eval o).run P w=r
 cases r with
 |ok n w=>cases n<;>exact Iff.rfl
 |halt x w=>exact Iff.rfl
theorem auI(p:Perm π ops){i:Nat}{o:Oper}(ho:ops[i]?=some o)(tmps:Array aLX):
 Region.wanted (KX π es i o) (yielded (nH π es ops) tmps)=Region.wanted o (yielded ops tmps):=by
 unfold Region.wanted KX
 simp only
 cases hg:o.guard with
 |none=>rfl
 |some q=>
  obtain⟨j,b⟩:=q
  simp only
  have hj:=p.guard i o j b ho hg
  have:(nH π es ops)[xJ π j]?.bind (·.dst)=(ops[j]?).bind (·.dst):=by
   rw[p.get hj]
   cases ops[j]?<;>rfl
  unfold yielded
  rw[this]
theorem azU(p:Perm π ops):∀(L:List Nat),(∀i∈L,i<ops.size)->∀(a:Act) (w:aLW),Ew P (nH π es ops) Q (L.map (xJ π)) a w->Ew P ops Q L a w:=by
 intro L
 induction L with
 |nil=>intro _ a w h;exact h
 |cons i L ih=>
  intro hL a w h
  rw[aJQ]at h
  simp only[Ew]at h⊢
  have hi:=hL i (by simp)
  have ih:=ih λi hi=>hL i (aJP _ hi)
  unfold Ta at h⊢
  rw[p.get hi]at h
  rw[aJ2 hi]at h⊢
  simp only[aKo]at h
  rw[auI p (aJ2 hi)]at h
  simp only
  split
  .rename_i hw
   rw[if_pos hw,ayI]at h
   exact aoF (λa w=>ih a w) h
  .rename_i hw
   rw[if_neg hw]at h
   exact ih _ _ h
theorem Tl{ops:Array Oper}{listed:Array Bool}(hsz:listed.size=ops.size)(i:Nat):
 i∈Region.ready .any ops listed↔(i<ops.size/\listed.getD i false=false/\∀o,ops[i]?=some o->∀e∈o.after,Region.binds .any e=true->listed.getD e.on false=true):=by
 unfold Region.ready
 rw[aLR,aKr]
 constructor
 .rintro ⟨h1,h2⟩
  rw[aJ2 h1]at h2
  simp only[aJM,aKo,aKA]at h2
  refine⟨h1, ?_,λo ho e he hb=> ?_⟩
  .have:=h2.1
   rw[aJN]at this⊢
   rw[aJ2 (by omega)]at this⊢
   simpa using this
  .rw [aJ2 h1]at ho
   cases ho
   have:=aKK.1 h2.2 e he
   simpa[hb]using this
 .rintro ⟨h1,h2,h3⟩
  refine⟨h1, ?_⟩
  rw[aJ2 h1]
  simp only[aJM,aKo,aKA]
  refine⟨?_,aKK.2 λe he=> ?_⟩
  .rw [aJN]at h2⊢
   rw[aJ2 (by omega)]at h2⊢
   simpa using h2
  .by_cases hb:Region.binds .any e=true
   .simp [hb,h3 _ (aJ2 h1) e he hb]
   .simp [hb]
theorem aDL{π:List Nat}{i:Nat}:∀{es:List (Nat×Nat)} {e:Edge},e∈Hz π i es->∃a,(a,i)∈es/\e.on=xJ π a:=by
 intro es
 induction es with
 |nil=>intro e h;simp[Hz]at h
 |cons q r ih=>
  obtain⟨a,b⟩:=q
  intro e h
  simp only[Hz]at h
  cases hb:Nat.beq b i with
  |true=>
   rw[hb]at h
   obtain rfl:=aKg hb
   rcases aJG.1 h with rfl|h
   .exact ⟨a,by simp,rfl⟩
   .obtain ⟨a,h1,h2⟩:=ih h;exact⟨a,aJP _ h1,h2⟩
  |false=>rw[hb]at h;obtain⟨a,h1,h2⟩:=ih h;exact⟨a,aJP _ h1,h2⟩
theorem aBy(p:Perm π ops){L0:List Nat}(hes:∀q∈es,L0.idxOf q.1<=L0.idxOf q.2/\q.1≠q.2/\q.1<ops.size):
 ∀(fuel:Nat) (listed listed':Array Bool) (pre L:List Nat),L0=pre++L->listed.size=ops.size->listed'.size=ops.size→
  (∀j,j<ops.size->listed'.getD (xJ π j) false=listed.getD j false)->(∀j∈pre,listed.getD j false=true)->(∀j,listed.getD j false=true->j∈pre)→
  aoX ops fuel listed L->aoX (nH π es ops) fuel listed' (L.map (xJ π))/\∀i∈L,i<ops.size:=by
 intro fuel
 induction fuel with
 |zero=>intro listed listed' pre L _ _ _ _ _ _ h;obtain rfl:L=[]:=h;exact⟨rfl,by simp⟩
 |succ fuel ih=>
  intro listed listed' pre L hL0 hs hs' hrel hpre hpre' h
  have hsz:(nH π es ops).size=ops.size:=p.size
  cases L with
  |nil=>
   refine⟨?_,by simp⟩
   show Region.ready .any (nH π es ops) listed'=[]
   rw[List.eq_nil_iff_forall_not_mem]
   intro k hk
   obtain⟨h1,h2,h3⟩:=(Tl (by omega) k).1 hk
   obtain⟨i,hi1,hi2,hi3⟩:=p.back k (by omega)
   have:i∈Region.ready .any ops listed:=by
    refine(Tl hs i).2 ⟨hi3, ?_,λo ho e he hb=> ?_⟩
    .rw [<-hrel i hi3,hi2];exact h2
    .have g:=p.get (es:=es) hi3
     rw[hi2,ho]at g
     have hon:=p.after i o ho e he
     have:=h3 _ g ⟨xJ π e.on,e.ground⟩ (by
      simp only[KX,List.mem_toArray,aKc,aKm]
      exact .inl ⟨e,by simpa using he,rfl⟩) (by unfold Region.binds at hb⊢;exact hb)
     rw[<-hrel e.on hon];exact this
   rw[show Region.ready .any ops listed=[]from h]at this
   cases this
  |cons i L=>
   obtain⟨h1,h2⟩:=h
   obtain⟨r1,r2,r3⟩:=(Tl hs i).1 h1
   have hnot:i∉pre:=λhm=>by rw[hpre i hm]at r2;cases r2
   have hidx:L0.idxOf i=pre.length:=by
    rw[hL0,List.idxOf_append,if_neg hnot];simp
   have ready':xJ π i∈Region.ready .any (nH π es ops) listed':=by
    refine(Tl (by omega) _).2 ⟨by rw[hsz];exact(p.to i r1).1,by rw[hrel i r1];exact r2,λo' ho' e' he' hb=> ?_⟩
    rw[p.get r1,aJ2 r1]at ho'
    simp only[aKo,aJ8]at ho'
    subst ho'
    simp only[KX,List.mem_toArray,aKc,aKm]at he'
    rcases he' with⟨e,he,rfl⟩|he'
    .have ho:=aJ2 r1
     have he2:e∈ops[i].after:=by simpa using he
     rw[hrel e.on (p.after i _ ho e he2)]
     exact r3 _ ho e he2 (by unfold Region.binds at hb⊢;exact hb)
    .obtain ⟨a,ha,hon⟩:=aDL he'
     obtain⟨q1,q2,q3⟩:=hes _ ha
     simp only at q1 q2 q3
     rw[hon,hrel a q3]
     refine hpre a ?_
     rw[hidx]at q1
     rw[hL0,List.idxOf_append]at q1
     by_cases hm:a∈pre
     .exact hm
     .rw [if_neg hm]at q1
      exfalso
      have hz:(i::L).idxOf a=0:=by omega
      rw[List.idxOf_cons]at hz
      cases hb:(i==a)with
      |true=>exact q2 (by simpa using(beq_iff_eq.1 hb).symm)
      |false=>rw[hb]at hz;simp at hz
   have hlen':listed'.size=ops.size:=hs'
   obtain⟨k1,k2⟩:=ih (listed.setIfInBounds i true) (listed'.setIfInBounds (xJ π i) true) (pre++[i]) L (by rw[hL0];simp) (by simp[hs]) (by simp[hs'])
    (λj hj=>by
     by_cases hji:j=i
     .subst hji
      rw[aJN,aJN,aJ4 (by rw[hs'];exact(p.to j hj).1),aJ4 (by omega)]
     .have hne:xJ π i≠xJ π j:=λe=>by
       have a1:=(p.to i r1).2
       have a2:=(p.to j hj).2
       rw[e]at a1
       rw[a1]at a2
       exact hji (aKJ a2).symm
      have:=hrel j hj
      rw[aJN,aJN]at this⊢
      rw[aJ6 hne,aJ6 (λe=>hji e.symm)]
      exact this)
    (λj hj=>by
     rw[aJN]
     rcases aKc.1 hj with hj|hj
     .by_cases hji:j=i
      .subst hji;rw[aJ4 (by omega)]<;>rfl
      .rw [aJ6 (λe=>hji e.symm),<-aJN];exact hpre j hj
     .have:j=i:=by simpa using hj
      subst this
      rw[aJ4 (by omega)]<;>rfl)
    (λj hj=>by
     by_cases hji:j=i
     .subst hji;simp
     .rw [aJN,aJ6 (λe=>hji e.symm),<-aJN]at hj
      exact aK5 _ (hpre' j hj))
    h2
   exact⟨⟨ready',k1⟩,λj hj=>(aJG.1 hj).elim (λe=>e▸r1) (k2 j)⟩
end
section
variable{P:Program}{ops:Array Oper}
theorem aaI{N:Nat}{an:Ann}{pl:arT}(hok:agV ops an=true)(hpl:ahY ops.size an pl=true)(hd:U6 N ops)(hca:V1 P ops)
 {K:Env->aLW->Prop} {Q:Act->aLW->Prop} (hQ:∀g a w,Qt N g a->K g w->Q a w) {g:Env} {a:Act} {w:aLW} (hr:Qt N g a)
 (h:qB P ops ops.toList pl [] g w K):akY P ops Q ops.size (Array.replicate ops.size false) a w:=by
 have r0:Run P ops an g w 0 (λ_=>default) (λ_=>g) (λ_=>w) (λ_=>undef):=
  ⟨rfl,rfl,λi hi=>by omega,λi hi=>by omega,λi hi=>by omega,λi hi=>by omega,λi j _ hj=>by omega⟩
 obtain⟨O,G,W,V,r,hk⟩:=avM hpl ops.toList 0 [] _ _ _ _ (λj=>by simp) (by simp) r0 (λi hi=>by omega) h
 simp only[aJC,aLC]at r hk
 have st:=aB5 hok r.op
 have:=aCW (Q:=Q) (n:=ops.size) rfl hd hca r st (λa hra=>hQ _ a _ hra hk) ops.size (Array.replicate ops.size false) g a 0 (by simp) hr (by omega)
  (λj hj hl=>by unfold jQ at hl;simp[aJN,hj]at hl)
  (λs=> .inr ⟨λj hj hl=>by unfold jQ at hl;simp[aJN,hj]at hl,rfl⟩)
  (λh hh _=>⟨λhl=>by unfold jQ at hl;simp[aJN,hh]at hl,λhl=>by omega⟩)
  (aKZ (aLO _ _) (by simp))
 rw[r.w0]at this
 exact this
theorem YL{N:Nat}{ops:Array Oper}(h:ops.all (aAj N)=true):U6 N ops:=by
 intro i o ho t ht
 have:=aKK.1 h o (aLM ho)
 unfold aAj at this
 rw[ht]at this
 exact(aLr (x:=t) (y:=N))▸this
theorem agA{ops:Array Oper}(h:ops.all (Cs P)=true):V1 P ops:=
 λ_ o ho=>aKK.1 h o (aLM ho)
theorem azM{N:Nat}{f:FuncId}{id:Nat}(hd:U6 N ops)(hca:V1 P ops)
 {K:Env->aLW->Prop} {Q:Act->aLW->Prop} (hQ:∀g a w,Qt N g a->K g w->Q a w) {g:Env} {a:Act} {w0 w:aLW} (hr:Qt N g a):
 ∀(T:HT) (path:List (Nat×Nat)),VU P N ops path T=true→
  (∀q∈path,(Region.schedule true ops (w0.tape w0.drawn (.order f id))).idxOf q.1<=(Region.schedule true ops (w0.tape w0.drawn (.order f id))).idxOf q.2/\q.1≠q.2)→
  asP P f id ops T g w0 w K->Ew P ops Q (Region.schedule true ops (w0.tape w0.drawn (.order f id))) a w:=by
 have lin:aoX ops ops.size (Array.replicate ops.size false) (Region.schedule true ops (w0.tape w0.drawn (.order f id))):=by
  unfold Region.schedule
  simp only[Bool.true_or,if_true]
  exact aFl _ _ _
 generalize hL:Region.schedule true ops (w0.tape w0.drawn (.order f id))=L at lin⊢
 intro T
 induction T with
 |leaf an pl=>
  intro path hok _ h
  simp only[VU,aJM]at hok
  exact YF _ _ _ _ _ (aaI hok.1 hok.2 hd hca hQ hr h) lin
 |perm π es an pl=>
  intro path hok hpath h
  simp only[VU,aJM]at hok
  obtain⟨⟨⟨⟨⟨h1,h2⟩,h3⟩,h4⟩,h5⟩,h6⟩:=hok
  have p:=aFC h2
  have hes:∀q∈es,L.idxOf q.1<=L.idxOf q.2/\q.1≠q.2/\q.1<ops.size:=λq hq=>by
   have:=aKt.1 h1 q hq
   simp only[aJM]at this
   have hp:=hpath q (aDu this.1)
   exact⟨hp.1,hp.2,(aLr (x:=q.1) (y:=ops.size))▸this.2⟩
  obtain⟨k1,k2⟩:=aBy (es:=es) p hes ops.size (Array.replicate ops.size false) (Array.replicate ops.size false) [] L rfl (by simp) (by simp)
   (λj hj=>by simp[aJN,hj,(p.to j hj).1]) (by simp)
   (λj hj=>by rw[aJN]at hj;by_cases hh:j<ops.size<;>simp[hh]at hj) lin
  have hw:=aaI h5 h6 (YL h3) (agA h4) hQ hr h
  rw[p.size]at hw
  exact azU (es:=es) p L k2 a w (YF _ _ _ _ _ hw k1)
 |split x y A B ihA ihB=>
  intro path hok hpath h
  simp only[VU,aJM]at hok
  have hne:x≠y:=by
   intro e
   have:=hok.1.1
   rw[e]at this
   simp at this
  simp only[asP]at h
  unfold Ord P2 at h
  rw[hL]at h
  cases hb:Nat.ble (L.idxOf x) (L.idxOf y)with
  |true=>
   rw[hb]at h
   refine ihA _ hok.1.2 (λq hq=> ?_) h
   rcases aJG.1 hq with rfl|hq
   .exact ⟨aK2 hb,hne⟩
   .exact hpath q hq
  |false=>
   rw[hb]at h
   refine ihB _ hok.2 (λq hq=> ?_) h
   rcases aJG.1 hq with rfl|hq
   .refine ⟨?_,hne.symm⟩
    simp only
    rcases aKw (L.idxOf y) (L.idxOf x)with hh|hh
    .omega
    .have:=Nat.ble_eq_true_of_le hh;rw[this]at hb;cases hb
   .exact hpath q hq
end
section
variable{P:Program}{ann:FA}
def lW:List Oper->List Nat
 |[]=>[]
 |o::r=>match o.dst with|some d=>d::lW r|none=>lW r
def TM:Code->List Nat
 | .region _ ops _=>lW ops.toList
 | .seq x y=>TM x++TM y
 | .cond _ x y=>TM x++TM y
 | .block _ c=>TM c
 | .scope c=>TM c
 | .loop c=>TM c
 | .rangeFunc .. =>[DS]
 |_=>[]
def jN(l:List Nat)(g g':Env):Prop:=∀s,s∉l->g' s=g s
theorem jN.refl (l:List Nat)(g:Env):jN l g g:=λ_ _=>rfl
theorem jN.trans {l l1 l2:List Nat}{a b c:Env}(h:jN l1 a b)(k:jN l2 b c)(h1:∀s,s∈l1->s∈l)(h2:∀s,s∈l2->s∈l):jN l a c:=
 λs hs=>(k s λh=>hs (h2 s h)).trans (h s λh=>hs (h1 s h))
theorem jN.mono {l l1:List Nat}{a b:Env}(h:jN l1 a b)(h1:∀s,s∈l1->s∈l):jN l a b:=λs hs=>h s λhh=>hs (h1 s hh)
theorem jN.put {l:List Nat}{a:Env}(d:Option Tmp)(v:aLX)(h:∀t,d=some t->t∈l):jN l a (put a d v):=by
 intro s hs
 cases d with
 |none=>rfl
 |some t=>
  rw[Mk,if_neg (λe=>hs (by rw[e];exact h t rfl))]
theorem axO{ops:Array Oper}{K:Env->aLW->Prop}:∀(l:List Oper) (g:Env) (w:aLW),agU P ops l g w K→
 ∃g' w',K g' w'/\jN (lW l) g g'/\∀K':Env->aLW->Prop,K' g' w'->agU P ops l g w K':=by
 intro l
 induction l with
 |nil=>intro g w h;exact⟨g,w,h,jN.refl _ _,λ_ h=>h⟩
 |cons o l ih=>
  intro g w h
  obtain⟨v,w1,hy,h1⟩:=Nw h
  obtain⟨g',w',hk,ha,hall⟩:=ih _ _ h1
  refine⟨g',w',hk, ?_,λK' hk'=>hy _ (hall K' hk')⟩
  refine jN.trans (jN.put o.dst v (l:=lW (o::l)) λt ht=>by simp[lW,ht]) ha (λ_ h=>h) (λs hs=> ?_)
  unfold lW
  split
  .exact aJP _ hs
  .exact hs
theorem aaF{ops:Array Oper}{K:Env->aLW->Prop}:∀(l:List Oper) (pl:arT) (hist:List Rec) (g:Env) (w:aLW),qB P ops l pl hist g w K→
 ∃g' w',K g' w'/\jN (lW l) g g'/\∀K':Env->aLW->Prop,K' g' w'->qB P ops l pl hist g w K':=by
 intro l
 induction l with
 |nil=>intro pl hist g w h;unfold qB at h;exact⟨g,w,h,jN.refl _ _,λ_ h=>(by unfold qB;exact h)⟩
 |cons o l ih=>
  intro pl hist g w h
  cases pl with
  |nil=>exact h.elim
  |cons p pl=>
   obtain⟨hv,ks⟩:=p
   obtain⟨v,w1,hy,h1⟩:=Nw h
   have tail:∀(w2:aLW) (hist':List Rec),qB P ops l pl hist' (put g o.dst v) w2 K→
       ∃g' w',K g' w'/\jN (lW (o::l)) g g'/\∀K':Env->aLW->Prop,K' g' w'->qB P ops l pl hist' (put g o.dst v) w2 K':=by
    intro w2 hist' c2
    obtain⟨g',w',hk,ha,hall⟩:=ih _ _ _ _ c2
    refine⟨g',w',hk, ?_,hall⟩
    refine jN.trans (jN.put o.dst v (l:=lW (o::l)) λt ht=>by simp[lW,ht]) ha (λ_ h=>h) (λs hs=> ?_)
    unfold lW
    split
    .exact aJP _ hs
    .exact hs
   cases hv with
   |true=>
    cases ks with
    |nil=>
     obtain⟨g',w',hk,ha,hall⟩:=tail w1 _ h1
     exact⟨g',w',hk,ha,λK' hk'=>hy _ (hall K' hk')⟩
    |cons k ks=>
     obtain⟨hc,h1⟩:=h1
     obtain⟨g',w',hk,ha,hall⟩:=tail w1 _ h1
     exact⟨g',w',hk,ha,λK' hk'=>hy _ ⟨hc,hall K' hk'⟩⟩
   |false=>
    cases ks with
    |nil=>
     obtain⟨rfl,h1⟩:=h1
     obtain⟨g',w',hk,ha,hall⟩:=tail w1 _ h1
     exact⟨g',w',hk,ha,λK' hk'=>hy _ ⟨rfl,hall K' hk'⟩⟩
    |cons k ks=>
     obtain⟨rfl,hc,h1⟩:=h1
     obtain⟨g',w',hk,ha,hall⟩:=tail w1 _ h1
     exact⟨g',w',hk,ha,λK' hk'=>hy _ ⟨rfl,hc,hall K' hk'⟩⟩
theorem JZ{l:List Oper}{s:Nat}:s∈lW l↔∃o∈l,o.dst=some s:=by
 induction l with
 |nil=>simp[lW]
 |cons o l ih=>
  unfold lW
  cases hd:o.dst with
  |none=>simp[ih,hd]
  |some d=>simp[ih,hd,eq_comm]
theorem axS{π:List Nat}{es:List (Nat×Nat)}{l:List Oper}{s:Nat}:∀(r:List Nat),s∈lW (WZ π es l r)->s∈lW l:=by
 intro r
 induction r with
 |nil=>intro h;simp[WZ,lW]at h
 |cons i r ih=>
  intro h
  simp only[WZ]at h
  cases ho:l[i]? with
  |none=>rw[ho]at h;exact ih h
  |some o=>
   rw[ho]at h
   obtain⟨o',h1,h2⟩:=JZ.1 h
   rcases aJG.1 h1 with rfl|h1
   .exact JZ.2 ⟨o,aKN ho,h2⟩
   .exact ih (JZ.2 ⟨o',h1,h2⟩)
theorem aCR{f:FuncId}{id:Nat}{ops:Array Oper}{K:Env->aLW->Prop}{g:Env}{w0:aLW}:∀(T:HT) (w:aLW),asP P f id ops T g w0 w K→
 ∃g' w',K g' w'/\jN (lW ops.toList) g g'/\∀K':Env->aLW->Prop,K' g' w'->asP P f id ops T g w0 w K':=by
 intro T
 induction T with
 |leaf an pl=>intro w h;exact aaF _ _ _ _ _ h
 |perm π es an pl=>
  intro w h
  obtain⟨g',w',a,b,c⟩:=aaF _ _ _ _ _ h
  exact⟨g',w',a,b.mono (λs hs=>axS π (by simpa[nH]using hs)),c⟩
 |split x y A B ihA ihB=>
  intro w h
  simp only[asP,Ord]at h⊢
  cases hb:P2 f id ops x y w0 with
  |true=>rw[hb]at h;exact ihA w h
  |false=>rw[hb]at h;exact ihB w h
theorem bM.head {α:Type}{F:(α->aLW->Prop)->α->aLW->Prop}(hmono:∀X Y g w,(∀g w,X g w->Y g w)->F X g w->F Y g w)
 {g:α} {w:aLW} (h:F (λg' w'=>bM F g' w') g w) (hdet:∃g' w',bM F g' w'/\∀X:α->aLW->Prop,X g' w'->F X g w):bM F g w:=by
 obtain⟨g1,w1,⟨I,⟨n1,h1⟩,hI⟩,hF⟩:=hdet
 refine⟨λn g' w'=>I n g' w'∨(n=n1+1/\g'=g/\w'=w),⟨n1+1,.inr ⟨rfl,rfl,rfl⟩⟩, ?_⟩
 rintro n g' w' (h|⟨rfl,rfl,rfl⟩)
 .exact hmono _ _ _ _ (λ_ _ ⟨m,hm,hh⟩=>⟨m,hm,.inl hh⟩) (hI _ _ _ h)
 .exact hF _ ⟨n1,by omega,.inl h1⟩
theorem aGy{f:FuncId}{gf:Operand}{ps:Array Tmp}{aJx bd:Code}{Q:Exit->Env->aLW->Prop}{g:Env}{w:aLW}(h:RF P f gf ps aJx bd Q g w):
 ∃e g' w',Q e g' w'/\jN [DS] g g'/\∀Q':Exit->Env->aLW->Prop,Q' e g' w'->RF P f gf ps aJx bd Q' g w:=by
 unfold RF at h⊢
 cases hn:noMark (g DS)with
 |false=>rw[hn]at h;exact h.elim
 |true=>
  rw[hn]at h
  simp only at h⊢
  generalize(Ac (ev g gf) [Gr (w.heap.size+1)]).run P (rfW f (RM P f) ps aJx bd g w)=r at*
  match r,h with
  | .ok (.enter f2 args) w1,h=>
    obtain⟨v,w3,hret,r,h1,h2,h3⟩:=h
    have ha:jN [DS] g (put g (some DS) (.pointer (some ⟨w.heap.size,0,none⟩))):=jN.put _ _ (λt ht=>by cases ht;simp)
    cases hp:r.pending with
    |none=>
     rw[hp]at h3
     exact⟨.normal,_,_,h3,ha,λQ' h=>⟨v,w3,hret,r,h1,h2,by rw[hp];exact h⟩⟩
    |some c=>
     rw[hp]at h3
     cases c<;>first
      |exact h3.elim
      |exact⟨.ret,_,_,h3,ha,λQ' h=>⟨v,w3,hret,r,h1,h2,by rw[hp];exact h⟩⟩
      |exact⟨.exit _,_,_,h3,ha,λQ' h=>⟨v,w3,hret,r,h1,h2,by rw[hp];exact h⟩⟩
theorem afE:∀(c:Code) (Q:Exit->Env->aLW->Prop) (g:Env) (w:aLW),dM P ann c Q g w→
 ∃e g' w',Q e g' w'/\jN (TM c) g g'/\∀Q':Exit->Env->aLW->Prop,Q' e g' w'->dM P ann c Q' g w:=by
 intro c
 induction c with
 |skip=>intro Q g w h;exact⟨_,_,_,h,jN.refl _ _,λ_ h=>h⟩
 |region id ops draw=>
  intro Q g w h
  cases draw with
  |false=>
   obtain⟨g',w',a,b,c⟩:=axO _ _ _ h
   exact⟨.normal,g',w',a,b,λQ' h=>c _ h⟩
  |true=>
   obtain⟨g',w',a,b,c⟩:=aCR _ _ h
   exact⟨.normal,g',w',a,b,λQ' h=>c _ h⟩
 |seq x y ihx ihy=>
  intro Q g w h
  obtain⟨e,g1,w1,a,b,c⟩:=ihx _ _ _ h
  cases e with
  |normal=>
   obtain⟨e2,g2,w2,a2,b2,c2⟩:=ihy _ _ _ a
   exact⟨e2,g2,w2,a2,b.trans b2 (λs h=>aK5 _ h) (λs h=>aLt _ h),λQ' h=>c _ (c2 _ h)⟩
  |_=>exact⟨_,g1,w1,a,b.mono (λs h=>aK5 _ h),λQ' h=>c _ h⟩
 |cond c x y ihx ihy=>
  intro Q g w h
  simp only[dM]at h⊢
  unfold cP at h⊢
  cases hc:ev g c with
  |bool b=>
   rw[hc]at h
   cases b with
   |true=>
    obtain⟨e,g',w',a,b,c⟩:=ihx _ _ _ h
    exact⟨e,g',w',a,b.mono (λs h=>aK5 _ h),c⟩
   |false=>
    obtain⟨e,g',w',a,b,c⟩:=ihy _ _ _ h
    exact⟨e,g',w',a,b.mono (λs h=>aLt _ h),c⟩
  |_=>rw[hc]at h;exact h.elim
 |block id c ih=>
  intro Q g w h
  obtain⟨e,g',w',a,b,c⟩:=ih _ _ _ h
  cases e with
  |exit i=>
   simp only[KB]at a
   cases hb:Nat.beq i id with
   |true=>
    simp only[hb]at a
    refine⟨.normal,g',w',a,b,λQ' h=>c _ ?_⟩
    simp only[KB,hb];exact h
   |false=>
    simp only[hb]at a
    refine⟨.exit i,g',w',a,b,λQ' h=>c _ ?_⟩
    simp only[KB,hb];exact h
  |_=>exact⟨_,g',w',a,b,λQ' h=>c _ h⟩
 |loop c ih=>
  intro Q g w h
  have hmono:∀(Q:Exit->Env->aLW->Prop) (X Y:Env->aLW->Prop) g w,(∀g w,X g w->Y g w)->dM P ann c (B1 X Q) g w->dM P ann c (B1 Y Q) g w:=by
   intro Q X Y g w hxy h
   obtain⟨e,g',w',a,_,k⟩:=ih _ _ _ h
   refine k _ ?_
   cases e with
   |normal=>exact hxy _ _ a
   |_=>exact a
  obtain⟨I,⟨n,h0⟩,hI⟩:=h
  have key:∀n g w,I n g w->∃e g' w',Q e g' w'/\jN (TM c) g g'/\∀Q':Exit->Env->aLW->Prop,Q' e g' w'->bM (λX g w=>dM P ann c (B1 X Q') g w) g w:=by
   intro n
   induction n using Nat.strongRecOn with
   |_ n ih2=>
    intro g w hg
    obtain⟨e,g1,w1,a,b,k⟩:=ih _ _ _ (hI n g w hg)
    have once:∀(Q':Exit->Env->aLW->Prop),(∀X:Env->aLW->Prop,dM P ann c (B1 X Q') g w)->bM (λX g w=>dM P ann c (B1 X Q') g w) g w:=by
     intro Q' h
     refine⟨λn g' w'=>g'=g/\w'=w,⟨0,rfl,rfl⟩, ?_⟩
     rintro _ g' w' ⟨rfl,rfl⟩
     exact h _
    cases e with
    |normal=>
     obtain⟨m,hm,hIm⟩:=a
     obtain⟨e2,g2,w2,a2,b2,k2⟩:=ih2 m hm g1 w1 hIm
     refine⟨e2,g2,w2,a2,b.trans b2 (λ_ h=>h) (λ_ h=>h),λQ' h=> ?_⟩
     have hl:=k2 Q' h
     exact bM.head (hmono Q') (k _ hl) ⟨g1,w1,hl,λX hx=>k _ hx⟩
    |_=>exact⟨_,g1,w1,a,b,λQ' h=>once Q' λX=>k _ h⟩
  exact key n g w h0
 |exit id=>intro Q g w h;exact⟨_,_,_,h,jN.refl _ _,λ_ h=>h⟩
 |label l=>intro Q g w h;exact⟨_,_,_,h,jN.refl _ _,λ_ h=>h⟩
 |scope c ih=>intro Q g w h;exact ih Q g w h
 |ret=>intro Q g w h;exact⟨_,_,_,h,jN.refl _ _,λ_ h=>h⟩
 |rangeFunc gf ps aJx bd=>intro Q g w h;exact aGy h
 |_=>intro Q g w h;exact h.elim
theorem Fi{c:Code}{Q Q':Exit->Env->aLW->Prop}{g:Env}{w:aLW}(h:dM P ann c Q g w)
 (hq:∀e g' w',jN (TM c) g g'->Q e g' w'->Q' e g' w'):dM P ann c Q' g w:=
 let⟨_,_,_,a,b,k⟩:=afE c Q g w h
 k _ (hq _ _ _ b a)
def noG(Q:Exit->Env->aLW->Prop):Exit->Env->aLW->Prop
 | .goto _,_,_=>False
 |e,g,w=>Q e g w
theorem axP:∀(c:Code) (Q:Exit->Env->aLW->Prop) (g:Env) (w:aLW),dM P ann c Q g w->dM P ann c (noG Q) g w:=by
 intro c
 induction c with
 |skip=>intro Q g w h;exact h
 |region id ops draw=>intro Q g w h;cases draw<;>exact h
 |seq x y ihx ihy=>
  intro Q g w h
  show dM P ann x (B1 (λg w=>dM P ann y (noG Q) g w) (noG Q)) g w
  refine Fi (ihx _ _ _ h) (λe g' w' _ hq=> ?_)
  cases e with
  |normal=>exact ihy _ _ _ hq
  |goto l=>exact hq.elim
  |_=>exact hq
 |cond c x y ihx ihy=>
  intro Q g w h
  simp only[dM]at h⊢
  unfold cP at h⊢
  cases hc:ev g c with
  |bool b=>
   rw[hc]at h
   cases b with
   |true=>exact ihx _ _ _ h
   |false=>exact ihy _ _ _ h
  |_=>rw[hc]at h;exact h.elim
 |block id c ih=>
  intro Q g w h
  show dM P ann c (KB id (noG Q)) g w
  refine Fi (ih _ _ _ h) (λe g' w' _ hq=> ?_)
  cases e with
  |exit i=>
   simp only[noG,KB]at hq⊢
   cases hb:Nat.beq i id with
   |true=>rw[hb]at hq;exact hq
   |false=>rw[hb]at hq;exact hq
  |goto l=>exact hq.elim
  |_=>exact hq
 |loop c ih=>
  intro Q g w h
  obtain⟨I,h0,hI⟩:=h
  refine⟨I,h0,λn g w hi=> ?_⟩
  refine Fi (ih _ _ _ (hI n g w hi)) (λe g' w' _ hq=> ?_)
  cases e with
  |normal=>exact hq
  |goto l=>exact hq.elim
  |_=>exact hq
 |exit id=>intro Q g w h;exact h
 |label l=>intro Q g w h;exact h
 |scope c ih=>intro Q g w h;exact ih Q g w h
 |ret=>intro Q g w h;exact h
 |rangeFunc gf ps aJx bd=>
  intro Q g w h
  have h:RF P ann.f gf ps aJx bd Q g w:=h
  show RF P ann.f gf ps aJx bd (noG Q) g w
  unfold RF at h⊢
  cases hn:noMark (g DS)with
  |false=>rw[hn]at h;exact h.elim
  |true=>
   rw[hn]at h
   simp only at h⊢
   generalize(Ac (ev g gf) [Gr (w.heap.size+1)]).run P (rfW ann.f (RM P ann.f) ps aJx bd g w)=r at*
   match r,h with
   | .ok (.enter f2 args) w1,h=>
     obtain⟨v,w3,hret,r,h1,h2,h3⟩:=h
     refine⟨v,w3,hret,r,h1,h2, ?_⟩
     cases hp:r.pending with
     |none=>rw[hp]at h3;exact h3
     |some c=>rw[hp]at h3;cases c<;>exact h3
 |_=>intro Q g w h;exact h.elim
theorem akQ{N:Nat}{g:Env}{a:Act}(h:Qt N g a):a.tmps=tmpsOf N g:=by
 refine Array.ext (by simp[tmpsOf,h.size]) λi h1 h2=> ?_
 have hi:i<N:=by rw[<-h.size];exact h1
 have:=h.at_ i (aLu (aKa hi h.le))
 rw[aJN,aJ2 h1]at this
 simp[tmpsOf]at this⊢
 exact this
theorem aCT{v:aLX}(h:noMark v=true):asT v=[]:=by cases v<;>first|rfl|cases h
theorem Y7 {N:Nat}(hm:P.follows .mixedOrders=true){ro:Option Nat}(hN:RM P ann.f=N):∀(c:Code),codeOk P N ann c=true->ro=none∨qU c=true→
 ∀(Q:Exit->Env->aLW->Prop) (QA:Exit->Act->aLW->Prop) (g:Env) (a:Act) (w:aLW),Qt N g a→
  (∀e g a w,Qt N g a->Q e g w->QA e a w)->dM P ann c Q g w->wpF P ann.f ro c QA a w:=by
 intro c
 induction c with
 |skip=>intro _ _ Q QA g a w hr hq h;exact aEF (hq _ _ _ _ hr h)
 |region id ops draw=>
  intro hok _ Q QA g a w hr hq h
  simp only[codeOk,aJM,aKq,aKW]at hok
  have hd:=YL hok.1.1
  have hca:=agA hok.1.2
  cases draw with
  |false=>
   refine azS ?_
   have:=aBL hd hca (P:=P) (Q:=QA .normal) (K:=Q .normal) (λg a w=>hq .normal g a w) ops.toList 0 g a w (λj=>by simp) hr h
   rw[List.range_eq_range']
   simpa using this
  |true=>
   rcases hok.2 with h1|h1
   .cases h1
   .exact aeX hm (azM hd hca (λg a w=>hq .normal g a w) hr _ [] h1 (by simp) h)
 |seq x y ihx ihy=>
  intro hok hfl Q QA g a w hr hq h
  simp only[codeOk,aJM]at hok
  have hfx:ro=none∨qU x=true:=hfl.imp id λh=>by simp only[qU,aJM]at h;exact h.1
  have hfy:ro=none∨qU y=true:=hfl.imp id λh=>by simp only[qU,aJM]at h;exact h.2
  refine aFX (ihx hok.1 hfx _ _ g a w hr (λe g a w hr h=> ?_) h)
  cases e with
  |normal=>exact ihy hok.2 hfy _ _ g a w hr hq h
  |_=>exact hq _ _ _ _ hr h
 |cond c x y ihx ihy=>
  intro hok hfl Q QA g a w hr hq h
  simp only[codeOk,aJM]at hok
  have hfx:ro=none∨qU x=true:=hfl.imp id λh=>by simp only[qU,aJM]at h;exact h.1
  have hfy:ro=none∨qU y=true:=hfl.imp id λh=>by simp only[qU,aJM]at h;exact h.2
  simp only[dM]at h
  unfold cP at h
  have he:=hr.ev c hok.1
  cases hc:ev g c with
  |bool b=>
   rw[hc]at h he
   refine aED he ?_
   cases b with
   |true=>exact ihx hok.2.1 hfx _ _ g a w hr hq h
   |false=>exact ihy hok.2.2 hfy _ _ g a w hr hq h
  |_=>rw[hc]at h;exact h.elim
 |block id c ih=>
  intro hok hfl Q QA g a w hr hq h
  refine aCh (ih hok hfl _ _ g a w hr (λe g a w hr h=> ?_) h)
  cases e with
  |exit i=>
   unfold Exit.inBlock
   simp only[KB]at h
   by_cases hi:i=id
   .subst hi
    simp only[if_true]
    simp only[Nat.beq_refl]at h
    exact hq _ _ _ _ hr h
   .simp only[hi,if_false]
    have:Nat.beq i id=false:=by
     cases hb:Nat.beq i id
     .rfl
     .exact absurd (aKg hb) hi
    simp only[this]at h
    exact hq _ _ _ _ hr h
  |_=>exact hq _ _ _ _ hr h
 |loop c ih=>
  intro hok hfl Q QA g a w hr hq h
  obtain⟨I,h0,hround⟩:=h
  have hex:∀a w,(∃n g,Qt N g a/\I n g w)->∃n,(∃g,Qt N g a/\I n g w)/\∀m,(∃g,Qt N g a/\I m g w)->n<=m:=by
   rintro a w ⟨n,hn⟩
   induction n using Nat.strongRecOn with
   |_ n ih2=>
    by_cases hx:∃m,m<n/\∃g,Qt N g a/\I m g w
    .obtain ⟨m,hm,h⟩:=hx;exact ih2 m hm h
    .exact ⟨n,hn,λm hm=>Nat.le_of_not_lt λhlt=>hx ⟨m,hlt,hm⟩⟩
  have hdec:∀a w,Decidable (∃n g,Qt N g a/\I n g w):=λa w=>Classical.propDecidable _
  let μ:Act->aLW->Nat:=λa w=>if hh:∃n g,Qt N g a/\I n g w then Classical.choose (hex a w hh)else 0
  have hμ:∀a w n g,Qt N g a->I n g w->μ a w<=n/\∃g,Qt N g a/\I (μ a w) g w:=by
   intro a w n g hr hI
   have hh:∃n g,Qt N g a/\I n g w:=⟨n,g,hr,hI⟩
   have e:μ a w=Classical.choose (hex a w hh):=dif_pos hh
   have s:=Classical.choose_spec (hex a w hh)
   rw[e]
   exact⟨s.2 n ⟨g,hr,hI⟩,s.1⟩
  obtain⟨n0,h0⟩:=h0
  refine aEE (λa w=>∃n g,Qt N g a/\I n g w) μ ⟨n0,g,hr,h0⟩ ?_
  rintro a w ⟨n,g,hr,hI⟩
  obtain⟨_,g',hr',hI'⟩:=hμ a w n g hr hI
  refine ih hok hfl _ _ g' a w hr' (λe g1 a1 w1 hr1 h=> ?_) (hround _ _ _ hI')
  cases e with
  |normal=>
   obtain⟨m,hm,hIm⟩:=h
   have:=hμ a1 w1 m g1 hr1 hIm
   exact⟨⟨m,g1,hr1,hIm⟩,by omega⟩
  |_=>exact hq _ _ _ _ hr1 h
 |label l=>intro _ _ Q QA g a w hr hq h;exact aCi (hq _ _ _ _ hr h)
 |scope c ih=>
  intro hok hfl Q QA g a w hr hq h
  refine aCk (ih hok hfl (noG Q) _ g a w hr (λe g a w hr h=> ?_) (axP c _ g w h))
  cases e with
  |goto l=>exact h.elim
  |_=>exact hq _ _ _ _ hr h
 |exit id=>intro _ _ Q QA g a w hr hq h;exact awU (hq _ _ _ _ hr h)
 |ret=>intro _ _ Q QA g a w hr hq h;exact aA6 (hq _ _ _ _ hr h)
 |rangeFunc gf ps aJx bd=>
  intro hok hfl Q QA g a w hr hq h
  have hro:ro=none:=hfl.resolve_right (by simp[qU])
  subst hro
  have hok:anQ gf=true:=hok
  have h:RF P ann.f gf ps aJx bd Q g w:=h
  unfold RF at h
  cases hn:noMark (g DS)with
  |false=>rw[hn]at h;exact h.elim
  |true=>
   rw[hn]at h
   simp only[hN]at h
   have ed:a.defers=[]:=by rw[hr.defers,aCT hn]
   have er:=run_enterLoop_outer (P:=P) (w:=w) ann.f a.tmps ps aJx bd
   rw[akQ hr]at er
   have er:(Instr.enterLoop ann.f a.tmps ps aJx bd none).run P w= .ok (w.heap.size+1,[{target:= .collected w.heap.size,args:= #[]}]) (rfW ann.f N ps aJx bd g w):=by rw[akQ hr];exact er
   generalize rfW ann.f N ps aJx bd g w=w1 at*
   have ee:=hr.ev gf hok
   unfold Ac at h
   have hres:resolve a.eval (rangeCall gf (w.heap.size+1)) 0=Deferred.ofValue (ev g gf) #[Gr (w.heap.size+1)]:=by
    have:resolve a.eval (rangeCall gf (w.heap.size+1)) 0=Deferred.ofValue (a.eval gf) #[Gr (w.heap.size+1)]:=by
     simp only[resolve,List.map_toArray,aJQ,aLQ];rfl
    rw[this,ee]
   rw[show([Gr (w.heap.size+1)]:List aLX).toArray= #[Gr (w.heap.size+1)]from rfl,<-hres,Sem.run_bind]at h
   cases hv:(resolve a.eval (rangeCall gf (w.heap.size+1)) 0).run P w1 with
   |halt x wx=>rw[hv]at h;exact h.elim
   |ok d wx=>
    have hwx:wx=w1:=by
     rw[hres]at hv
     unfold Deferred.ofValue at hv
     split at hv<;>first|(simp only[Sem.run_pure]at hv;cases hv;rfl)|(simp[stuck]at hv)
    subst hwx
    rw[hv]at h
    simp only[Result.andThen]at h
    cases hi:(invoke d.target d.args).run P wx with
    |halt x w2=>rw[hi]at h;exact h.elim
    |ok nx w2=>
     rw[hi]at h
     cases nx<;>try(exact h.elim)
     obtain⟨v,w3,hret,r,h1,h2,h3⟩:=h
     have hrel:∀w,Qt N (put g (some DS) (.pointer (some ⟨w,0,none⟩))) {a with defers:=[{target:= .collected w,args:= #[]}]++a.defers}:=λw=>by
      refine⟨hr.le, ?_,hr.size,λi hi=> ?_⟩
      .rw [Mk,if_pos rfl,ed]<;>rfl
      .rw [Mk,if_neg hi];exact hr.at_ i hi
     have key:∀(j:Option Code) (w5:aLW),aGI Q (put g (some DS) (.pointer (some ⟨w.heap.size,0,none⟩))) j w5→
         aGj P ann.f QA {a with defers:=[{target:= .collected w.heap.size,args:= #[]}]++a.defers} w5 j:=by
      intro j w5 h
      cases j with
      |none=>exact hq _ _ _ _ (hrel _) h
      |some c=>
       cases c<;>first
        |exact h.elim
        |exact aA6 (hq _ _ _ _ (hrel _) h)
        |exact awU (hq _ _ _ _ (hrel _) h)
     exact aCj er hv hi hret (run_endLoop h1 h2) (key _ _ h3)
 |_=>intro hok;simp[codeOk]at hok
def qF(P:Program):List ResultVar->Env->aLW->(List aLX->Prop)->Prop
 |[],_,_,K=>K []
 | .tmp t::r,g,w,K=>qF P r g w λvs=>K (g t::vs)
 | .cell a t::r,g,w,K=>∃v,(do loadVar t (<-asAddr (g a)):Sem aLX).run P w= .ok v w/\qF P r g w λvs=>K (v::vs)
def tup:List aLX->aLX
 |[v]=>v
 |vs=> .tuple vs.toArray
def aH3 (P:Program)(rs:List ResultVar)(R:aLX->aLW->Prop):Exit->Env->aLW->Prop
 | .normal,g,w=>qF P rs g w λvs=>R (tup vs) w
 | .ret,g,w=>qF P rs g w λvs=>R (tup vs) w
 |_,_,_=>False
theorem avE{N:Nat}{g:Env}{a:Act}{w:aLW}(hr:Qt N g a):∀(rs:List ResultVar),rs.all aoD=true->∀(K:List aLX->Prop),qF P rs g w K→
 ∃vs,K vs/\(rs.mapM λ| .tmp t=>pure (a.tmps.getD t undef)| .cell b t=>do loadVar t (<-asAddr (a.tmps.getD b undef)):Sem (List aLX)).run P w= .ok vs w:=by
 have ne:∀t:Nat,Nat.blt t DS=true->a.tmps.getD t undef=g t:=λt h=>hr.at_ t (aLu ((aLr (x:=t) (y:=DS))▸h))
 intro rs
 induction rs with
 |nil=>intro _ K h;exact⟨[],h,by simp⟩
 |cons r rs ih=>
  intro hok K h
  simp only[List.all_cons,aJM]at hok
  cases r with
  |tmp t=>
   obtain⟨vs,h1,h2⟩:=ih hok.2 _ h
   refine⟨_,h1, ?_⟩
   rw[List.mapM_cons]
   rw[pure_bind,Sem.run_bind]
   simp only[h2,Result.andThen,Sem.run_pure,ne t hok.1]
  |cell b t=>
   obtain⟨v,hv,h⟩:=h
   obtain⟨vs,h1,h2⟩:=ih hok.2 _ h
   refine⟨_,h1, ?_⟩
   rw[List.mapM_cons]
   rw[<-ne b hok.1]at hv
   rw[Sem.run_bind]
   simp only[hv,Result.andThen]
   rw[Sem.run_bind]
   simp only[h2,Result.andThen]
   rfl
theorem aHk(vs:Array aLX):(if h:vs.size=1 then vs[0]else Value.tuple vs)=tup vs.toList:=by
 obtain⟨l⟩:=vs
 match l with
 |[]=>rfl
 |[v]=>rfl
 |a::b::r=>simp[tup]
theorem avN{N:Nat}{g:Env}{a:Act}{w:aLW}(fn:Func){rs:List ResultVar}(hok:rs.all aoD=true)(hrs:fn.results=rs.toArray)(hr:Qt N g a){R:aLX->aLW->Prop}
 (h:qF P rs g w λvs=>R (tup vs) w):∃v,(results fn a.tmps).run P w= .ok v w/\R v w:=by
 obtain⟨vs,h1,h2⟩:=avE hr rs hok _ h
 refine⟨tup vs, ?_,h1⟩
 unfold results
 rw[hrs,Array.mapM_eq_mapM_toList,aJV]
 simp only[bind_assoc,map_eq_pure_bind]
 rw[Sem.run_bind]
 refine Eq.trans (congrArg (λr=>Result.andThen r _) h2) ?_
 simp only[Result.andThen]
 simp only[pure_bind,Sem.run_pure,aHk]
def aaJ(args:List aLX):Env:=λi=>args.getD i undef
def aG6 (P:Program)(rs:List ResultVar)(R:aLX->aLW->Prop):Exit->Env->aLW->Prop
 | .normal,g,w=>GJ (g DS) w λw=>qF P rs g w λvs=>R (tup vs) w
 | .ret,g,w=>GJ (g DS) w λw=>qF P rs g w λvs=>R (tup vs) w
 |_,_,_=>False
theorem avD{g:Env}{w:aLW}:∀(rs:List ResultVar) (K:List aLX->Prop),qF P rs g w K->∃vs,K vs/\∀K':List aLX->Prop,K' vs->qF P rs g w K':=by
 intro rs
 induction rs with
 |nil=>intro K h;exact⟨_,h,λ_ h=>h⟩
 |cons r rs ih=>
  intro K h
  cases r with
  |tmp t=>
   obtain⟨vs,a,b⟩:=ih _ h
   exact⟨_,a,λK' h=>b _ h⟩
  |cell b t=>
   obtain⟨v,hv,h⟩:=h
   obtain⟨vs,a,b⟩:=ih _ h
   exact⟨_,a,λK' h=>⟨v,hv,b _ h⟩⟩
theorem aoK{v:aLX}{w:aLW}{K:aLW->Prop}(h:GJ v w K):∃w',K w'/\∀K':aLW->Prop,K' w'->GJ v w K':=by
 cases v with
 |pointer p=>
  cases p with
  |none=>exact⟨_,h,λ_ h=>h⟩
  |some a=>exact⟨_,h.2,λ_ h'=>⟨h.1,h'⟩⟩
 |_=>exact⟨_,h,λ_ h=>h⟩
theorem azG{v:aLX}{w:aLW}{K K':aLW->Prop}(h:GJ v w K)(hk:∀w,K w->K' w):GJ v w K':=
 let⟨w',a,b⟩:=aoK h;b _ (hk w' a)
theorem asW{args:List aLX}{N i:Nat}(hle:args.length<=N)(hi:N<=i):aaJ args i=undef:=by
 unfold aaJ
 rw[aJH,aKp (by omega)]<;>rfl
theorem Wp{f:FuncId}{fn:Func}{c:Code}{args:List aLX}{w:aLW}{rs:List ResultVar}{R:aLX->aLW->Prop}(hm:P.follows .mixedOrders=true)(hAf:ann.f=f)
 (hf:P.funcs[f]?=some fn) (hb:fn.body=some c) (hrs:fn.results=rs.toArray) {N:Nat} (hN:fn.ntmps=N) (hle:args.length<=N)
 (hok:codeOk P N ann c=true) (hro:rs.all aoD=true) (hND:Nat.ble N DS=true) (h:dM P ann c (aG6 P rs R) (aaJ args) w):aG P f args.toArray w R:=by
 obtain⟨e,g',w',hq,_,hall⟩:=afE _ _ _ _ h
 have hND:=aK2 hND
 have hNt:RM P ann.f=N:=by unfold RM;rw[hAf,hf];exact hN
 have hrv:GJ (g' DS) w' λw=>qF P rs g' w λvs=>R (tup vs) w:=by cases e<;>first|exact hq|exact hq.elim
 obtain⟨w2,hrv2,hsh⟩:=aoK hrv
 obtain⟨vs,hv,hrest⟩:=avD _ _ hrv2
 refine⟨tup vs,w2, ?_,hv⟩
 have hrel:Qt N (aaJ args) {tmps:=args.toArray++Array.replicate (fn.ntmps-args.toArray.size) undef,defers:=[]}:=by
  refine⟨hND,by rw[asW hle hND]<;>rfl,by simp[hN];omega,λi _=> ?_⟩
  simp only[aaJ,aJN,aJH]
  by_cases hi:i<args.length
  .simp [Array.getElem?_append,hi]
  .simp only[Array.getElem?_append,aKG,hi,if_false,Array.getElem?_replicate]
   rw[aKp (by omega)]
   split<;>rfl
 have key:=apH (P:=P) (f:=f) hf hb (R:=λv3 w3=>v3=tup vs/\w3=w2) (args:=args.toArray) (w:=w)
  (hAf▸Y7 hm hNt c hok (.inl rfl) (aG6 P rs λv3 w3=>v3=tup vs/\w3=w2) _ _ _ _ hrel (λe g a w hr h=> ?_) (hall _ ?_))
 .refine Calls.mono key ?_
  rintro e w3 ⟨v,rfl,rfl,rfl⟩
  exact⟨rfl,rfl⟩
 .have hx:∀{w},(GJ (g DS) w λw=>qF P rs g w λvs'=>tup vs'=tup vs/\w=w2)->∃m,a.defers=asT m/\GJ m w λw'=>∃v,(results fn a.tmps).run P w'= .ok v w'/\(v=tup vs/\w'=w2):=by
   intro w h
   exact⟨_,hr.defers,azG h λw h=>avN fn hro hrs hr (R:=λv3 w3=>v3=tup vs/\w3=w2) h⟩
  cases e with
  |normal=>exact hx h
  |ret=>exact hx h
  |_=>exact h.elim
 .have:=hsh (λw=>qF P rs g' w λvs'=>tup vs'=tup vs/\w=w2) (hrest _ ⟨rfl,rfl⟩)
  cases e<;>first|exact this|exact hq.elim
theorem aE5 {N:Nat}:∀(c:Code),codeOk P N ann c=true->qU c=true->∀s∈TM c,s<N:=by
 intro c
 induction c with
 |region id ops draw=>
  intro hok _ s hs
  simp only[codeOk,aJM]at hok
  obtain⟨o,h1,h2⟩:=JZ.1 hs
  obtain⟨i,hi,rfl⟩:=aLo h1
  exact YL hok.1.1 i _ (by simp at hi⊢) s h2
 |seq x y ihx ihy=>
  intro hok hfl s hs
  simp only[codeOk,qU,aJM]at hok hfl
  rcases aKc.1 hs with hs|hs
  .exact ihx hok.1 hfl.1 s hs
  .exact ihy hok.2 hfl.2 s hs
 |cond c x y ihx ihy=>
  intro hok hfl s hs
  simp only[codeOk,qU,aJM]at hok hfl
  rcases aKc.1 hs with hs|hs
  .exact ihx hok.2.1 hfl.1 s hs
  .exact ihy hok.2.2 hfl.2 s hs
 |block id c ih=>intro hok hfl s hs;exact ih hok hfl s hs
 |loop c ih=>intro hok hfl s hs;exact ih hok hfl s hs
 |scope c ih=>intro hok hfl s hs;exact ih hok hfl s hs
 |rangeFunc=>intro _ hfl;simp[qU]at hfl
 |_=>intro _ _ s hs;simp[TM]at hs
theorem asU{f:FuncId}{fn:Func}{c:Code}{args:List aLX}{w:aLW}{rs:List ResultVar}{R:aLX->aLW->Prop}(hm:P.follows .mixedOrders=true)(hAf:ann.f=f)
 (hf:P.funcs[f]?=some fn) (hb:fn.body=some c) (hrs:fn.results=rs.toArray) {N:Nat} (hN:fn.ntmps=N) (hle:args.length<=N)
 (hok:codeOk P N ann c=true) (hro:rs.all aoD=true) (hND:Nat.ble N DS=true) (hfl:qU c=true) (h:dM P ann c (aH3 P rs R) (aaJ args) w):aG P f args.toArray w R:=by
 refine Wp hm hAf hf hb hrs hN hle hok hro hND (Fi h λe g' w' ha hq=> ?_)
 have hND:=aK2 hND
 have:g' DS=undef:=by
  rw[ha DS (λhd=>absurd (aE5 c hok hfl DS hd) (Nat.not_lt.2 hND)),asW hle hND]
 cases e with
 |normal=>show GJ (g' DS) w' (λw=>qF P rs g' w λvs=>R (tup vs) w);rw[this];exact hq
 |ret=>show GJ (g' DS) w' (λw=>qF P rs g' w λvs=>R (tup vs) w);rw[this];exact hq
 |_=>exact hq.elim
def KG(tmps:Array aLX):Env:=λi=>tmps.getD i undef
def ajG(l:Nat)(R:aLX->aLW->Prop):Exit->Env->aLW->Prop
 | .normal,_,w=>∃r:Loop,w.heap[l]?=some (.loop r)/\R (.bool true) (w.putObj l (.loop {r with state:= .ready,pending:=none}))
 | .ret,_,w=>∃r:Loop,w.heap[l]?=some (.loop r)/\R (.bool false) (w.putObj l (.loop {r with state:= .done,pending:=some .ret}))
 | .exit i,_,w=>∃r:Loop,w.heap[l]?=some (.loop r)/\R (.bool false) (w.putObj l (.loop {r with state:= .done,pending:=some (.exit i)}))
 |_,_,_=>False
def asQ(P:Program)(ann:FA)(l:Nat)(bd:Code)(R:aLX->aLW->Prop):Exit->Env->aLW->Prop
 | .normal,g,w=>∃r:Loop,w.heap[l]?=some (.loop r)/\r.state= .ready/\dM P ann bd (ajG l R) g (w.putObj l (.loop {r with state:= .busy}))
 |_,_,_=>False
theorem apR{f:FuncId}{l:Nat}{tmps:Array aLX}{aJx bd:Code}{w:aLW}{R:aLX->aLW->Prop}(hm:P.follows .mixedOrders=true)(hAf:ann.f=f){N:Nat}(hN:RM P f=N)(hND:Nat.ble N DS=true)
 (hsz:tmps.size=N) (hok1:codeOk P N ann aJx=true) (hf1:qU aJx=true) (hok2:codeOk P N ann bd=true) (hf2:qU bd=true)
 (h:dM P ann aJx (asQ P ann l bd R) (KG tmps) w):aaB P l f tmps aJx bd w R:=by
 subst hAf
 have hND:=aK2 hND
 obtain⟨e,g1,w1,hq,ha,hall⟩:=afE _ _ _ _ h
 cases e with
 |normal=>
  obtain⟨r,h1,h2,hd⟩:=hq
  obtain⟨e2,g2,w2,hq2,ha2,hall2⟩:=afE _ _ _ _ hd
  have hx:∃v w4,R v w4/\∀R':aLX->aLW->Prop,R' v w4->ajG l R' e2 g2 w2:=by
   cases e2 with
   |normal=>obtain⟨r2,k1,k2⟩:=hq2;exact⟨_,_,k2,λR' h=>⟨r2,k1,h⟩⟩
   |ret=>obtain⟨r2,k1,k2⟩:=hq2;exact⟨_,_,k2,λR' h=>⟨r2,k1,h⟩⟩
   |exit i=>obtain⟨r2,k1,k2⟩:=hq2;exact⟨_,_,k2,λR' h=>⟨r2,k1,h⟩⟩
   |_=>exact hq2.elim
  obtain⟨v,w4,hR,hrest⟩:=hx
  refine⟨v,w4, ?_,hR⟩
  have hrel:Qt N (KG tmps) {tmps:=tmps,defers:=[]}:=by
   refine⟨hND, ?_,hsz,λi _=>rfl⟩
   have:KG tmps DS=undef:=by unfold KG;rw[aJN,aKj (by omega)]<;>rfl
   rw[this]<;>rfl
  have key:RoundIn Fence.wide 0 P l ann.f tmps aJx bd w λe w'=>∃v',e= .returned v'/\(v'=v/\w'=w4):=by
   refine aqP (Y7 hm hN aJx hok1 (.inr hf1) (λe g w=>e= .normal/\g=g1/\w=w1) _ _ _ _ hrel ?_ (hall _ ⟨rfl,rfl,rfl⟩))
   rintro e g a w hra ⟨rfl,rfl,rfl⟩
   refine⟨_,run_beginRound h1 h2,Y7 hm hN bd hok2 (.inr hf2) (ajG l λv' w'=>v'=v/\w'=w4) _ _ _ _ hra ?_ (hall2 _ (hrest _ ⟨rfl,rfl⟩))⟩
   intro e g a w _ h
   cases e with
   |normal=>obtain⟨r,k1,k2⟩:=h;exact⟨_,_,run_endRound none k1,k2⟩
   |ret=>obtain⟨r,k1,k2⟩:=h;exact⟨_,_,run_endRound (some .ret) k1,k2⟩
   |exit i=>obtain⟨r,k1,k2⟩:=h;exact⟨_,_,run_endRound (some (.exit i)) k1,k2⟩
   |_=>exact h.elim
  refine RoundIn.mono key ?_
  rintro e w' ⟨v',rfl,rfl,rfl⟩
  exact⟨rfl,rfl⟩
 |_=>exact hq.elim
theorem alG{f:FuncId}{args:Array aLX}{w:aLW}{R:aLX->aLW->Prop}(h:aG P f args w R):
 Calls P f args w λe w'=>∃v,e= .returned v/\R v w':=by
 obtain⟨v,w',hr,hR⟩:=h
 refine Calls.mono hr ?_
 rintro e w'' ⟨rfl,rfl⟩
 exact⟨v,rfl,hR⟩
end
def sA:Code->Code| .seq a _=>a|c=>c
def cT:Code->Code| .cond _ a _=>a|c=>c
def cE:Code->Code| .cond _ _ b=>b|c=>c
def bI:Code->Code| .block _ c=>c| .loop c=>c| .scope c=>c|c=>c
def bA(f:Func):Code:=match f.body with|some c=>c|none=> .skip
def bK:Nat->Code->Code
 |0,c=>c
 |1,c=>sA c
 |n+1,.seq a b=> .seq a (bK n b)
 |_,c=>c
def aN:Nat->Code->Code
 |0,c=>c
 |n+1,.seq _ b=>aN n b
 |_,c=>c
def axZ:Nat->Code->Bool
 |1,.seq _ _=>true
 |n+1,.seq _ b=>axZ n b
 |_,_=>false
def dr(w:aLW):aLW:={w with drawn:=w.drawn+1}
def kD(P:Program)(t:TypeId)(a:aLX)(w:aLW)(K:aLX->Prop):Prop:=∃v,(do loadVar t (<-asAddr a):Sem aLX).run P w= .ok v w/\K v
def exL:List (Nat×(Env->aLW->Prop))->Nat->Env->aLW->Prop
 |[],_,_,_=>False
 |(j,k)::r,i,g,w=>match Nat.beq i j with|true=>k g w|false=>exL r i g w
def exQ(kn kr:Env->aLW->Prop)(l:List (Nat×(Env->aLW->Prop))):Exit->Env->aLW->Prop
 | .normal,g,w=>kn g w
 | .ret,g,w=>kr g w
 | .exit i,g,w=>exL l i g w
 |_,_,_=>False
def arQ(Q:Exit->Env->aLW->Prop):List (Nat×(Env->aLW->Prop))->Prop
 |[]=>True
 |(i,k)::r=>(∀g w,k g w->Q (.exit i) g w)/\arQ Q r
def cG(c a b:aLX):Sem Next:=do pure (.value (if<-asBool c then a else b))
def bE(t:TypeId):Sem Next:=V (Instr.alloc t true (.tuple #[]))
def iX(t:TypeId)(x:aLX):Sem Next:=V (Instr.box t x)
def aB(t:TypeId)(a:aLX):Sem Next:=V (Instr.loadAt t a)
def aF(t:TypeId)(a x:aLX):Sem Next:=U (Instr.storeAt t a x)
def cL(x:aLX):Sem Next:=execOp (λ_=>x) ⟨none,.nilCheck (.tmp 0),0,default,#[],none⟩
def GI(op:UnOp)(x:aLX):Sem Next:=V (Op.unary op x)
def cJ(s d:TypeId)(x:aLX):Sem Next:=V (convert s d x)
def aHb(t:TypeId)(x:aLX):Sem Next:=V (Instr.makeInterface t x)
def Z0 (t:TypeId)(r:Option aLX):Sem Next:=V (Instr.makeMap t r)
def xP(t:TypeId)(l c:aLX):Sem Next:=V (Instr.makeSlice t l c)
def dG(t:TypeId)(x:aLX)(lo hi mx:Option aLX):Sem Next:=V (Instr.sliceAt t x lo hi mx)
def aD(t:TypeId)(x:aLX)(f:Nat):Sem Next:=V (Instr.fieldAt t x f)
def aR(t:TypeId)(x i:aLX):Sem Next:=V (Instr.indexAt t x i)
def VL(t:TypeId)(x i:aLX):Sem Next:=V (Instr.index t x i)
def CT(t:TypeId)(x i:aLX)(ok:Bool):Sem Next:=V (Instr.lookup t x i ok)
def VM(t:TypeId)(m k x:aLX):Sem Next:=U (Instr.mapUpdate t m k x)
def Z1 (t:TypeId)(x:aLX):Sem Next:=V (Instr.range t x)
def aqW(it:aLX):Sem Next:=V (Instr.entry it)
def avP(it:aLX)(str:Bool)(ty:TypeId):Sem Next:=V (Instr.next it str ty)
def aP(t:aLX)(i:Nat):Sem Next:=V (Instr.extract t i)
section
variable{P:Program}{ann:FA}
theorem aGK{Q:Exit->Env->aLW->Prop}:∀{l:List (Nat×(Env->aLW->Prop))},arQ Q l->∀{i:Nat} {g:Env} {w:aLW},exL l i g w->Q (.exit i) g w:=by
 intro l
 induction l with
 |nil=>intro _ i g w h;exact h.elim
 |cons p r ih=>
  obtain⟨j,k⟩:=p
  rintro⟨h1,h2⟩ i g w h
  simp only[exL]at h
  cases hb:Nat.beq i j with
  |true=>
   simp only[hb]at h
   obtain rfl:=aKg hb
   exact h1 _ _ h
  |false=>simp only[hb]at h;exact ih h2 h
theorem aE3 {c:Code}{kn kr:Env->aLW->Prop}{l:List (Nat×(Env->aLW->Prop))}{Q:Exit->Env->aLW->Prop}{g:Env}{w:aLW}{A:Prop}
 (e:A=dM P ann c (exQ kn kr l) g w) (h:A) (hn:∀g w,kn g w->Q .normal g w) (hr:∀g w,kr g w->Q .ret g w) (hl:arQ Q l):dM P ann c Q g w:=by
 rw[e]at h
 refine Fi h (λe g' w' _ hq=> ?_)
 cases e with
 |normal=>exact hn _ _ hq
 |ret=>exact hr _ _ hq
 |exit i=>exact aGK hl hq
 |_=>exact hq.elim
theorem aBj{x y z:Code}{Q:Exit->Env->aLW->Prop}{g:Env}{w:aLW}(h:dM P ann (.seq (.seq x y) z) Q g w):dM P ann (.seq x (.seq y z)) Q g w:=by
 show dM P ann x (B1 (λg w=>dM P ann y (B1 (λg w=>dM P ann z Q g w) Q) g w) Q) g w
 have h:dM P ann x (B1 (λg w=>dM P ann y (B1 (λg w=>dM P ann z Q g w) Q) g w) (B1 (λg w=>dM P ann z Q g w) Q)) g w:=h
 refine Fi h (λe g' w' _ hq=> ?_)
 cases e<;>exact hq
theorem aJ{K:Env->aLW->Prop}{Q:Exit->Env->aLW->Prop}{g:Env}{w:aLW}(h:K g w):B1 K Q .normal g w:=h
theorem aBl{Q:Exit->Env->aLW->Prop}:∀(n:Nat) (c:Code) (g:Env) (w:aLW),axZ n c=true->dM P ann (.seq (bK n c) (aN n c)) Q g w->dM P ann c Q g w:=by
 intro n
 induction n with
 |zero=>intro c g w h;simp[axZ]at h
 |succ n ih=>
  intro c g w h hd
  cases c with
  |seq a b=>
   cases n with
   |zero=>exact hd
   |succ n=>
    have hb:axZ (n+1) b=true:=by simpa[axZ]using h
    have hd':dM P ann (.seq (.seq a (bK (n+1) b)) (aN (n+1) b)) Q g w:=hd
    have:=aBj hd'
    show dM P ann a (B1 (λg w=>dM P ann b Q g w) Q) g w
    have h2:dM P ann a (B1 (λg w=>dM P ann (.seq (bK (n+1) b) (aN (n+1) b)) Q g w) Q) g w:=this
    refine Fi h2 (λe g' w' _ hq=> ?_)
    cases e with
    |normal=>exact ih b g' w' hb hq
    |_=>exact hq
  |_=>cases n<;>simp[axZ]at h
def aGh(id:Nat):Code->Bool| .block i _=>Nat.beq i id|_=>false
def aDf:Code->Bool| .loop _=>true|_=>false
def aCO:Code->Option Operand| .cond o _ _=>some o|_=>none
theorem aE1 {Q:Exit->Env->aLW->Prop}(id:Nat)(c:Code)(g:Env)(w:aLW)(h:aGh id c=true)(hd:dM P ann (bI c) (KB id Q) g w):dM P ann c Q g w:=by
 cases c with
 |block i c=>
  obtain rfl:=aKg (show Nat.beq i id=true from h)
  exact hd
 |_=>cases h
def aGi:Code->Bool| .scope _=>true|_=>false
theorem aE4 {Q:Exit->Env->aLW->Prop}(c:Code)(g:Env)(w:aLW)(h:aGi c=true)(hd:dM P ann (bI c) Q g w):dM P ann c Q g w:=by
 cases c with
 |scope c=>exact hd
 |_=>cases h
theorem aE2 {Q:Exit->Env->aLW->Prop}(o:Operand)(c:Code)(g:Env)(w:aLW)(h:aCO c=some o)
 (hd:cP (ev g o) (dM P ann (cT c) Q g w) (dM P ann (cE c) Q g w)):dM P ann c Q g w:=by
 cases c with
 |cond o' a b=>obtain rfl:=aKJ h;exact hd
 |_=>cases h
theorem aCs{v:aLX}{A B A' B':Prop}(ha:A->A')(hb:B->B')(h:cP v A B):cP v A' B':=by
 unfold cP at*
 cases v with
 |bool b=>cases b<;>first|exact ha h|exact hb h
 |_=>exact h
theorem aCS{T:Type}(proj:Env->T)(F:(T->aLW->Prop)->T->aLW->Prop){c:Code}{Q:Exit->Env->aLW->Prop}{g:Env}{w:aLW}
 (hF:∀(X:T->aLW->Prop) g' w',jN (TM c) g g'->F X (proj g') w'->dM P ann c (B1 (λg'' w''=>X (proj g'') w'') Q) g' w')
 (h:bM F (proj g) w):dM P ann (.loop c) Q g w:=by
 obtain⟨I,⟨n,h0⟩,hI⟩:=h
 refine⟨λn g' w'=>jN (TM c) g g'/\I n (proj g') w',⟨n,jN.refl _ _,h0⟩, ?_⟩
 rintro n g' w' ⟨ha,hi⟩
 have:=hF _ g' w' ha (hI n _ _ hi)
 refine Fi this (λe g2 w2 ha2 hq=> ?_)
 cases e with
 |normal=>
  obtain⟨m,hm,hh⟩:=hq
  exact⟨m,hm,ha.trans ha2 (λ_ h=>h) (λ_ h=>h),hh⟩
 |_=>exact hq
theorem aBk{T:Type}(proj:Env->T)(F:(T->aLW->Prop)->T->aLW->Prop)(c:Code){Q:Exit->Env->aLW->Prop}{g:Env}{w:aLW}(hl:aDf c=true)
 (h:bM F (proj g) w)
 (hF:∀(X:T->aLW->Prop) g' w',jN (TM (bI c)) g g'->F X (proj g') w'->dM P ann (bI c) (B1 (λg'' w''=>X (proj g'') w'') Q) g' w'):dM P ann c Q g w:=by
 cases c with
 |loop c=>exact aCS proj F hF h
 |_=>cases hl
theorem ayE{l:List Nat}{s:Nat}(hs:oE s l=false):s∉l:=by
 induction l with
 |nil=>simp
 |cons a r ih=>
  unfold oE at hs
  cases hb:Nat.beq a s with
  |true=>simp only[hb]at hs;cases hs
  |false=>
   simp only[hb]at hs
   intro hm
   rcases aJG.1 hm with e|hm
   .subst e;simp at hb
   .exact ih hs hm
theorem aCz{l:List Nat}{g g':Env}(h:jN l g g'){s:Nat}(hs:oE s l=false):g' s=g s:=h s (ayE hs)
def vT(id:Nat):Code->Array Oper
 | .region i ops _=>match Nat.beq i id with|true=>ops|false=> #[]
 | .seq a b=>match(vT id a).size with|0=>vT id b|_+1=>vT id a
 | .cond _ a b=>match(vT id a).size with|0=>vT id b|_+1=>vT id a
 | .block _ c=>vT id c
 | .loop c=>vT id c
 | .scope c=>vT id c
 |_=> #[]
theorem Qs{b:Bool}{A B:Prop}(ha:A)(hb:B):Ord b A B:=by cases b<;>assumption
theorem bM.rule {α:Type}{F:(α->aLW->Prop)->α->aLW->Prop}(I:Nat->α->aLW->Prop){g:α}{w:aLW}(n:Nat)(h0:I n g w)
 (hr:∀n g w,I n g w->F (λg' w'=>∃m,m<n/\I m g' w') g w):bM F g w:=⟨I,⟨n,h0⟩,hr⟩
theorem cN(A B:Prop):cP (.bool true) A B=A:=Eq.trans rfl rfl
theorem bH(A B:Prop):cP (.bool false) A B=B:=Eq.trans rfl rfl
theorem gS(s:(aLX->aLW->Prop)->Prop)(w:aLW)(K:aLX->aLW->Prop):Gd true s w K=s K:=Eq.trans rfl rfl
theorem jS(s:(aLX->aLW->Prop)->Prop)(w:aLW)(K:aLX->aLW->Prop):Gd false s w K=K undef w:=Eq.trans rfl rfl
theorem aoW(p:Prop):Gs true p=p:=Eq.trans rfl rfl
theorem afU(p:Prop):Gs false p=True:=Eq.trans rfl rfl
theorem uT:bG (.bool true) true=true:=Eq.trans rfl rfl
theorem Rc:bG (.bool true) false=false:=Eq.trans rfl rfl
theorem wY:bG (.bool false) true=false:=Eq.trans rfl rfl
theorem pP:bG (.bool false) false=true:=Eq.trans rfl rfl
def aM:Operand:= .tmp 0
theorem exD{c:Code}{kn kr:Env->aLW->Prop}{l:List (Nat×(Env->aLW->Prop))}{Q:Exit->Env->aLW->Prop}{g:Env}{w:aLW}{A:Prop}
 (h:A) (hn:∀g w,kn g w->Q .normal g w) (hr:∀g w,kr g w->Q .ret g w) (hl:arQ Q l) (e:A=dM P ann c (exQ kn kr l) g w:=by kernel_rfl):dM P ann c Q g w:=aE3 e h hn hr hl
theorem dN{Q:Exit->Env->aLW->Prop}(n:Nat){c:Code}{g:Env}{w:aLW}
 (hd:dM P ann (bK n c) (B1 (λg w=>dM P ann (aN n c) Q g w) Q) g w) (h:axZ n c=true:=by kernel_rfl):dM P ann c Q g w:=aBl n c g w h hd
theorem A7 {Q:Exit->Env->aLW->Prop}(id:Nat){c:Code}{g:Env}{w:aLW}(hd:dM P ann (bI c) (KB id Q) g w)(h:aGh id c=true:=by kernel_rfl):dM P ann c Q g w:=aE1 id c g w h hd
theorem scD{Q:Exit->Env->aLW->Prop}{c:Code}{g:Env}{w:aLW}(hd:dM P ann (bI c) Q g w)(h:aGi c=true:=by kernel_rfl):dM P ann c Q g w:=aE4 c g w h hd
theorem cdD{Q:Exit->Env->aLW->Prop}(o:Operand){c:Code}{g:Env}{w:aLW}{A B:Prop}(ha:A->dM P ann (cT c) Q g w)(hb:B->dM P ann (cE c) Q g w)(hd:cP (ev g o) A B)(h:aCO c=some o:=by kernel_rfl):dM P ann c Q g w:=
 aE2 o c g w h (aCs ha hb hd)
theorem EN{T:Type}(proj:Env->T)(F:(T->aLW->Prop)->T->aLW->Prop){c:Code}{Q:Exit->Env->aLW->Prop}{g:Env}{w:aLW}
 (h:bM F (proj g) w)
 (hF:∀(X:T->aLW->Prop) g' w',jN (TM (bI c)) g g'->F X (proj g') w'->dM P ann (bI c) (B1 (λg'' w''=>X (proj g'') w'') Q) g' w') (hl:aDf c=true:=by kernel_rfl):dM P ann c Q g w:=aBk proj F c hl h hF
theorem eZ{l:List Nat}{g g':Env}(s:Nat)(h:jN l g g')(hs:oE s l=false:=by kernel_rfl):g' s=g s:=aCz h hs
theorem jF{ann:FA}(fn:Func)(c:Code)(args:List aLX)(rs:List ResultVar)(N:Nat){f:FuncId}{w:aLW}{R:aLX->aLW->Prop}(hm:P.follows .mixedOrders=true)
 (hf:P.funcs[f]?=some fn) (h:dM P ann c (aH3 P rs R) (aaJ args) w) (hAf:ann.f=f:=by kernel_rfl) (hb:fn.body=some c:=by kernel_rfl) (hrs:fn.results=rs.toArray:=by kernel_rfl) (hN:fn.ntmps=N:=by kernel_rfl) (hle:Nat.ble args.length N=true:=by kernel_rfl)
 (hok:codeOk P N ann c=true:=by kernel_rfl) (hro:rs.all aoD=true:=by kernel_rfl) (hND:Nat.ble N DS=true:=by kernel_rfl) (hfl:qU c=true:=by kernel_rfl):aG P f args.toArray w R:=
 asU hm hAf hf hb hrs hN (aK2 hle) hok hro hND hfl h
def amB:Code->Option (Operand×Array Tmp×Code×Code)
 | .rangeFunc g ps aJx bd=>some (g,ps,aJx,bd)
 | .seq a b=>(match amB a with|some r=>some r|none=>amB b)
 | .cond _ a b=>(match amB a with|some r=>some r|none=>amB b)
 | .block _ c=>amB c
 | .loop c=>amB c
 | .scope c=>amB c
 |_=>none
def amC(c:Code):Array Tmp:=match amB c with|some (_,ps,_)=>ps|none=> #[]
def aeI(c:Code):Code:=match amB c with|some (_,_,aJx,_)=>aJx|none=> .skip
def Yb(c:Code):Code:=match amB c with|some (_,_,_,bd)=>bd|none=> .skip
def Rdy(l:Nat)(w:aLW)(K:aLW->Prop):Prop:=∃r:Loop,w.heap[l]?=some (.loop r)/\r.state= .ready/\K (w.putObj l (.loop {r with state:= .busy}))
def jSt:Option Code->LoopState
 |none=> .ready
 |some _=> .done
def afW(l:Nat)(j:Option Code)(R:aLX->aLW->Prop)(w:aLW):Prop:=
 ∃r:Loop,w.heap[l]?=some (.loop r)/\R (.bool j.isNone) (w.putObj l (.loop {r with state:=jSt j,pending:=j}))
theorem dsF{ann:FA}(fn:Func)(c:Code)(args:List aLX)(rs:List ResultVar)(N:Nat){f:FuncId}{w:aLW}{R:aLX->aLW->Prop}(hm:P.follows .mixedOrders=true)
 (hf:P.funcs[f]?=some fn) (h:dM P ann c (aG6 P rs R) (aaJ args) w) (hAf:ann.f=f:=by kernel_rfl) (hb:fn.body=some c:=by kernel_rfl) (hrs:fn.results=rs.toArray:=by kernel_rfl) (hN:fn.ntmps=N:=by kernel_rfl) (hle:Nat.ble args.length N=true:=by kernel_rfl)
 (hok:codeOk P N ann c=true:=by kernel_rfl) (hro:rs.all aoD=true:=by kernel_rfl) (hND:Nat.ble N DS=true:=by kernel_rfl):aG P f args.toArray w R:=
 Wp hm hAf hf hb hrs hN (aK2 hle) hok hro hND h
theorem dsR{ann:FA}(N:Nat){f:FuncId}{l:Nat}{tmps:Array aLX}{aJx bd:Code}{w:aLW}{R:aLX->aLW->Prop}(hm:P.follows .mixedOrders=true)(hsz:tmps.size=N)
 (h:dM P ann aJx (asQ P ann l bd R) (KG tmps) w) (hN:RM P f=N) (hok1:codeOk P N ann aJx=true) (hok2:codeOk P N ann bd=true) (hAf:ann.f=f:=by kernel_rfl) (hND:Nat.ble N DS=true:=by kernel_rfl)
 (hf1:qU aJx=true:=by kernel_rfl) (hf2:qU bd=true:=by kernel_rfl):aaB P l f tmps aJx bd w R:=
 apR hm hAf hN hND hsz hok1 hf1 hok2 hf2 h
end
end Go.En
namespace Go.Proofs.YteelnmpbnaohpaaGreatDoor
open Go Go.En
noncomputable abbrev pg:Program:=Tryz.prog
theorem TryzM.mixed:pg.follows .mixedOrders=true:=Tryz.checked.mixed
abbrev K0:=aLW->Prop
abbrev K1:=aLX->K0
abbrev K2:=aLX->K1
abbrev K3:=aLX->K2
abbrev K4:=aLX->K3
abbrev K5:=aLX->K4
abbrev K6:=aLX->K5
abbrev K7:=aLX->K6
abbrev K8:=aLX->K7
abbrev K9:=aLX->K8
abbrev K10:=aLX->K9
abbrev HR(rs:List ResultVar)(R:K1)(Q:Exit->Env->aLW->Prop):Prop:=∀g w,(qF pg rs g w λvs=>R (tup vs) w)->Q .ret g w
abbrev no:Env->aLW->Prop:=λ_ _=>False
theorem Jx{Q:Env->aLW->Prop}:∀g w,no g w->Q g w:=λ_ _ h=>h.elim
def fz:Nat->List (Bool×List Nat)->List (Bool×List Nat)
 |0,l=>l
 |n+1,l=>(false,[])::fz n l
def ft(a:List Nat)(l:List (Bool×List Nat)):List (Bool×List Nat):=(true,a)::l
def fu(a:List Nat)(l:List (Bool×List Nat)):List (Bool×List Nat):=(false,a)::l
theorem dE{Q:Env->aLW->Prop}:∀g w,Q g w->Q g w:=λ_ _ h=>h
section
variable{P:Program}{ann:FA}{c:Code}{kr:Env->aLW->Prop}{Q:Exit->Env->aLW->Prop}{g:Env}{w:aLW}{A:Prop}
theorem DT(l:List (Nat×(Env->aLW->Prop)))(kn:Env->aLW->Prop)(h:A)(hn:∀g w,kn g w->Q .normal g w)(hr:∀g w,kr g w->Q .ret g w)(hl:arQ Q l)(e:A=dM P ann c (exQ kn kr l) g w:=by kernel_rfl):dM P ann c Q g w:=exD h hn hr hl e
theorem Ui(kn:Env->aLW->Prop)(h:A)(hn:∀g w,kn g w->Q .normal g w)(hr:∀g w,kr g w->Q .ret g w)(e:A=dM P ann c (exQ kn kr []) g w:=by kernel_rfl):dM P ann c Q g w:=exD (l:=[]) h hn hr trivial e
theorem iK(kn:Env->aLW->Prop)(h:A)(hn:∀g w,kn g w->Q .normal g w)(e:A=dM P ann c (exQ kn no []) g w:=by kernel_rfl):dM P ann c Q g w:=exD (l:=[]) h hn Jx trivial e
theorem jP(h:A)(hr:∀g w,kr g w->Q .ret g w)(e:A=dM P ann c (exQ no kr []) g w:=by kernel_rfl):dM P ann c Q g w:=exD (l:=[]) h Jx hr trivial e
end
abbrev Mq0 (k:K0):Env->aLW->Prop:=λg w=>k w
abbrev Mq1 (k:K1)(x0:Nat):Env->aLW->Prop:=λg w=>k (g x0) w
abbrev Qq(k:K2)(x0 x1:Nat):Env->aLW->Prop:=λg w=>k (g x0) (g x1) w
abbrev Gu(k:K3)(x0 x1 x2:Nat):Env->aLW->Prop:=λg w=>k (g x0) (g x1) (g x2) w
abbrev Ch(k:K4)(x0 x1 x2 x3:Nat):Env->aLW->Prop:=λg w=>k (g x0) (g x1) (g x2) (g x3) w
abbrev YG(k:K5)(x0 x1 x2 x3 x4:Nat):Env->aLW->Prop:=λg w=>k (g x0) (g x1) (g x2) (g x3) (g x4) w
abbrev Mq6 (k:K6)(x0 x1 x2 x3 x4 x5:Nat):Env->aLW->Prop:=λg w=>k (g x0) (g x1) (g x2) (g x3) (g x4) (g x5) w
abbrev Mq7 (k:K7)(x0 x1 x2 x3 x4 x5 x6:Nat):Env->aLW->Prop:=λg w=>k (g x0) (g x1) (g x2) (g x3) (g x4) (g x5) (g x6) w
abbrev Mq8 (k:K8)(x0 x1 x2 x3 x4 x5 x6 x7:Nat):Env->aLW->Prop:=λg w=>k (g x0) (g x1) (g x2) (g x3) (g x4) (g x5) (g x6) (g x7) w
abbrev Mq9 (k:K9)(x0 x1 x2 x3 x4 x5 x6 x7 x8:Nat):Env->aLW->Prop:=λg w=>k (g x0) (g x1) (g x2) (g x3) (g x4) (g x5) (g x6) (g x7) (g x8) w
abbrev aHF(k:K10)(x0 x1 x2 x3 x4 x5 x6 x7 x8 x9:Nat):Env->aLW->Prop:=λg w=>k (g x0) (g x1) (g x2) (g x3) (g x4) (g x5) (g x6) (g x7) (g x8) (g x9) w
abbrev AX:FuncId:=3
abbrev Ex:FuncId:=4
abbrev Fa:FuncId:=5
abbrev DH:FuncId:=6
abbrev JM:FuncId:=7
abbrev dF:FuncId:=8
abbrev B6:FuncId:=9
abbrev yP:FuncId:=10
abbrev sK:FuncId:=11
abbrev eD:FuncId:=12
abbrev gD:FuncId:=13
abbrev gR:FuncId:=14
abbrev jL:FuncId:=15
abbrev jV:FuncId:=16
abbrev mP:FuncId:=17
abbrev uF:FuncId:=18
abbrev oN:FuncId:=19
abbrev Ag:FuncId:=20
abbrev fK:FuncId:=21
abbrev dK:FuncId:=22
abbrev vJ:FuncId:=23
abbrev sH:FuncId:=24
abbrev pY:FuncId:=25
abbrev gB:FuncId:=26
abbrev Ey:FuncId:=27
abbrev JN:FuncId:=28
abbrev Ca:FuncId:=29
abbrev yN:FuncId:=30
abbrev vI:FuncId:=31
abbrev Ai:FuncId:=32
abbrev gA:FuncId:=33
abbrev pF:FuncId:=34
abbrev gX:FuncId:=35
abbrev pZ:FuncId:=36
abbrev jW:FuncId:=37
abbrev iN:FuncId:=38
abbrev BI:FuncId:=39
abbrev kK:FuncId:=40
abbrev oZ:FuncId:=41
abbrev dQ:FuncId:=42
abbrev lN:FuncId:=43
abbrev Am:FuncId:=44
abbrev lL:FuncId:=45
abbrev lM:FuncId:=46
abbrev kL:FuncId:=47
abbrev jD:FuncId:=48
abbrev sG:FuncId:=49
abbrev kJ:FuncId:=50
abbrev fL:FuncId:=51
abbrev lT:FuncId:=52
abbrev Qr:FuncId:=53
abbrev Ah:FuncId:=54
abbrev sI:FuncId:=55
abbrev qI:FuncId:=56
abbrev BH:FuncId:=57
abbrev GS:FuncId:=58
abbrev wE:FuncId:=59
abbrev Cb:FuncId:=60
abbrev oX:FuncId:=61
abbrev oY:FuncId:=62
abbrev yQ:FuncId:=63
abbrev AY:FuncId:=64
abbrev Ak:FuncId:=65
abbrev yR:FuncId:=66
abbrev yT:FuncId:=67
abbrev tS:FuncId:=68
abbrev vL:FuncId:=69
abbrev DI:FuncId:=70
abbrev vK:FuncId:=71
abbrev mL:FuncId:=72
abbrev GR:FuncId:=73
abbrev Aj:FuncId:=74
abbrev sJ:FuncId:=75
abbrev fV:FuncId:=76
abbrev Ez:FuncId:=77
abbrev sE:FuncId:=78
abbrev oU:FuncId:=79
abbrev B7:FuncId:=80
abbrev Tb:FuncId:=81
abbrev iL:FuncId:=82
abbrev Cc:FuncId:=83
abbrev B8:FuncId:=84
abbrev BG:FuncId:=85
abbrev uK:FuncId:=86
abbrev mO:FuncId:=87
abbrev gU:FuncId:=88
abbrev yS:FuncId:=89
abbrev B9:FuncId:=90
abbrev tT:FuncId:=91
abbrev GQ:FuncId:=92
abbrev aoV:FuncId:=93
abbrev zM:FuncId:=94
abbrev zL:FuncId:=95
abbrev sB:FuncId:=96
abbrev jC:FuncId:=97
abbrev qA:FuncId:=98
abbrev sC:FuncId:=99
abbrev gQ:FuncId:=100
abbrev V2:FuncId:=101
abbrev lK:FuncId:=102
abbrev yU:FuncId:=103
abbrev GP:FuncId:=104
abbrev BF:FuncId:=105
abbrev M1:FuncId:=106
abbrev cB:FuncId:=107
abbrev eC:FuncId:=108
abbrev AG:FuncId:=109
abbrev M0:FuncId:=110
abbrev iM:FuncId:=111
abbrev oS:FuncId:=112
abbrev YK:FuncId:=113
abbrev DG:FuncId:=114
abbrev HB:FuncId:=115
abbrev HC:FuncId:=116
abbrev Cd:FuncId:=117
abbrev cS:FuncId:=118
abbrev Fb:FuncId:=119
abbrev AZ:FuncId:=120
abbrev Ce:FuncId:=121
abbrev B2:FuncId:=122
abbrev tU:FuncId:=123
abbrev tR:FuncId:=124
abbrev Al:FuncId:=125
abbrev DJ:FuncId:=126
abbrev V3:FuncId:=127
abbrev vM:FuncId:=128
abbrev EB:FuncId:=129
abbrev fW:FuncId:=130
abbrev EA:FuncId:=131
abbrev dO:FuncId:=132
abbrev qH:FuncId:=138
abbrev N0 (Q : Exit -> Env -> aLW -> Prop) (k : K0) : Prop := ∀ g w, k w -> Q .normal g w
abbrev E0 (Q : Exit -> Env -> aLW -> Prop) (k : K0) (x0 : Nat) : Prop := ∀ g w, k w -> Q (.exit x0) g w
abbrev N1 (Q : Exit -> Env -> aLW -> Prop) (k : K1) (a_ : Nat) : Prop := ∀ g w, k (g a_) w -> Q .normal g w
abbrev E1 (Q : Exit -> Env -> aLW -> Prop) (k : K1) (x0 : Nat) (a_ : Nat) : Prop := ∀ g w, k (g a_) w -> Q (.exit x0) g w
abbrev N2 (Q : Exit -> Env -> aLW -> Prop) (k : K2) (a_ b_ : Nat) : Prop := ∀ g w, k (g a_) (g b_) w -> Q .normal g w
abbrev E2 (Q : Exit -> Env -> aLW -> Prop) (k : K2) (x0 : Nat) (a_ b_ : Nat) : Prop := ∀ g w, k (g a_) (g b_) w -> Q (.exit x0) g w
abbrev N3 (Q : Exit -> Env -> aLW -> Prop) (k : K3) (a_ b_ c_ : Nat) : Prop := ∀ g w, k (g a_) (g b_) (g c_) w -> Q .normal g w
abbrev E3 (Q : Exit -> Env -> aLW -> Prop) (k : K3) (x0 : Nat) (a_ b_ c_ : Nat) : Prop := ∀ g w, k (g a_) (g b_) (g c_) w -> Q (.exit x0) g w
abbrev N4 (Q : Exit -> Env -> aLW -> Prop) (k : K4) (a_ b_ c_ d_ : Nat) : Prop := ∀ g w, k (g a_) (g b_) (g c_) (g d_) w -> Q .normal g w
abbrev E4 (Q : Exit -> Env -> aLW -> Prop) (k : K4) (x0 : Nat) (a_ b_ c_ d_ : Nat) : Prop := ∀ g w, k (g a_) (g b_) (g c_) (g d_) w -> Q (.exit x0) g w
abbrev N5 (Q : Exit -> Env -> aLW -> Prop) (k : K5) (a_ b_ c_ d_ e_ : Nat) : Prop := ∀ g w, k (g a_) (g b_) (g c_) (g d_) (g e_) w -> Q .normal g w
abbrev E5 (Q : Exit -> Env -> aLW -> Prop) (k : K5) (x0 : Nat) (a_ b_ c_ d_ e_ : Nat) : Prop := ∀ g w, k (g a_) (g b_) (g c_) (g d_) (g e_) w -> Q (.exit x0) g w
abbrev N6 (Q : Exit -> Env -> aLW -> Prop) (k : K6) (a_ b_ c_ d_ e_ f_ : Nat) : Prop := ∀ g w, k (g a_) (g b_) (g c_) (g d_) (g e_) (g f_) w -> Q .normal g w
abbrev E6 (Q : Exit -> Env -> aLW -> Prop) (k : K6) (x0 : Nat) (a_ b_ c_ d_ e_ f_ : Nat) : Prop := ∀ g w, k (g a_) (g b_) (g c_) (g d_) (g e_) (g f_) w -> Q (.exit x0) g w
abbrev N8 (Q : Exit -> Env -> aLW -> Prop) (k : K8) (a_ b_ c_ d_ e_ f_ g_ h_ : Nat) : Prop := ∀ g w, k (g a_) (g b_) (g c_) (g d_) (g e_) (g f_) (g g_) (g h_) w -> Q .normal g w
abbrev E8 (Q : Exit -> Env -> aLW -> Prop) (k : K8) (x0 : Nat) (a_ b_ c_ d_ e_ f_ g_ h_ : Nat) : Prop := ∀ g w, k (g a_) (g b_) (g c_) (g d_) (g e_) (g f_) (g g_) (g h_) w -> Q (.exit x0) g w
abbrev N9 (Q : Exit -> Env -> aLW -> Prop) (k : K9) (a_ b_ c_ d_ e_ f_ g_ h_ i_ : Nat) : Prop := ∀ g w, k (g a_) (g b_) (g c_) (g d_) (g e_) (g f_) (g g_) (g h_) (g i_) w -> Q .normal g w
abbrev E9 (Q : Exit -> Env -> aLW -> Prop) (k : K9) (x0 : Nat) (a_ b_ c_ d_ e_ f_ g_ h_ i_ : Nat) : Prop := ∀ g w, k (g a_) (g b_) (g c_) (g d_) (g e_) (g f_) (g g_) (g h_) (g i_) w -> Q (.exit x0) g w
abbrev aLY (n_ : Int) : aLX := .int .i64 n_
end Go.Proofs.YteelnmpbnaohpaaGreatDoor
namespace Go.Proofs.YteelnmpbnaohpaaGreatDoor
open Go Go.En
set_option maxRecDepth 20000
attribute [local irreducible] Go.En.dM
variable (Q : Exit -> Env -> aLW -> Prop) (g : Env) (w : aLW)
def wJ:FA:=⟨AX,λi=>match Nat.beq i 19 with|true=> .leaf ([7,11],[(10,11)]) (fz 7 (ft [] (fz 3 (ft [0] (fz 1 [])))))|false=> .leaf ([],[]) []⟩
def Ab:List ResultVar:=[.tmp 8]
noncomputable def uQ:Code:=bA Tryz.f3
def qC(R:K1) w:=
 R (.bool true) w
def zU(kn:K5)(k0:K0)(R:K1) kQ kT WQ TP Dj w:=
 aA pg (eI .len #[24] 3 [kT]) w λj8 w=>
 aA pg (aE .lss 3 aM aM Dj j8) w λj9 w=>
 Gd (bG j9 true) (λK=>K Dj w) w λl1 w=>
 Gd (bG j9 true) (λK=>aA pg (aE .lss 3 aM aM l1 (aLY 20)) w K) w λl2 w=>
 aA pg (cG j9 l2 (.bool false)) w λl3 w=>
 cP l3
  (aA pg (aR 24 kT Dj) w λl8 w=>
  aA pg (aD 54 l8 2) w λl9 w=>
  aA pg (aB 22 l9) w λm0 w=>
  aA pg (eI .len #[22] 3 [m0]) w λm1 w=>
  aA pg (aE .gtr 3 aM aM m1 (aLY 300)) w λm2 w=>
  Gd (bG m2 false) (λK=>K kT w) w λm4 w=>
  Gd (bG m2 false) (λK=>K Dj w) w λm5 w=>
  Gd (bG m2 false) (λK=>aA pg (aR 24 m4 m5) w K) w λm6 w=>
  Gd (bG m2 false) (λK=>aA pg (aD 54 m6 7) w K) w λm7 w=>
  Gd (bG m2 false) (λK=>aA pg (aB 3 m7) w K) w λm8 w=>
  Gd (bG m2 false) (λK=>aA pg (aE .gtr 3 aM aM m8 (aLY 1073741824)) w K) w λm9 w=>
  aA pg (cG m2 (.bool true) m9) w λn0 w=>
  cP n0
   (R (.bool true) w)
   (aA pg (aB 49 TP) (dr w) λn2 w_=>w_=(dr w)/\
   (dr w)=(dr w)/\
   aA pg (aB 30 WQ) (dr w) λn4 w_=>w_=(dr w)/\
   (dr w)=(dr w)/\
   (dr w)=(dr w)/\
   aA pg (aR 24 kT Dj) (dr w) λn7 w_=>w_=(dr w)/\
   aA pg (aB 54 n7) (dr w) λn8 w_=>w_=(dr w)/\
   aG pg yP #[n2,kQ,n4,n8] (dr w) λn9 akT=>
   akT=akT/\
   aA pg (aP n9 0) akT λo0 w_=>w_=akT/\
   aA pg (aP n9 1) akT λo1 w_=>w_=akT/\
   aA pg (aF 49 TP o0) akT λ_u11 arF=>
   (aO pg (aP n9 1) o1 arF/\True)/\
   arF=arF/\
   aA pg (GI .not o1) arF λo3 w=>
   Gd (bG o3 false) (λK=>aA pg (aB 49 TP) w K) w λo5 w=>
   Gd (bG o3 false) (λK=>aG pg B6 #[o5] w K) w λo6 w=>
   Gd (bG o3 false) (λK=>aA pg (GI .not o6) w K) w λo7 w=>
   aA pg (cG o3 (.bool true) o7) w λo8 w=>
   cP o8
    (R (.bool false) w)
    (aA pg (aE .add 3 aM aM Dj (aLY 1)) w λl5 w=>
    kn kQ kT WQ TP l5 w)))
  (k0 w)
def qD(k0:K0)(R:K1) kQ kT WQ TP Dj w:=
 bM (λ(X:aLX->K0) (t:aLX) (w:aLW)=>zU (λ_ _ _ _ Dj w=>X Dj w) k0 R kQ kT WQ TP t w) Dj w
theorem Nn(k0:K0)(R:K1)(h0:E0 Q k0 0)(hr:HR Ab R Q)(h:qD k0 R (g 0) (g 3) (g 10) (g 16) (g 18) w):dM pg wJ (bI (aN 1 (bK 1 (aN 10 uQ)))) Q g w:=by
 refine EN (λg:Env=>g 18) (λX t w=>zU (λ_ _ _ _ Dj w=>X Dj w) k0 R (g 0) (g 3) (g 10) (g 16) t w) h (λX g1 w1 ha hL=> ?_)
 rw[<-eZ 0 ha,<-eZ 3 ha,<-eZ 10 ha,<-eZ 16 ha]at hL
 exact(DT [(0,(Mq0 k0))] (YG (λ_ _ _ _ Dj w=>X Dj w) 0 3 10 16 18) hL dE hr ⟨h0,trivial⟩)
def GD(kn:K5) kQ kT WQ TP w:=
 kn kQ kT WQ TP (aLY 0) w
def zV(kn:K0)(R:K1) kQ kT WQ TP w:=
 GD (qD kn R) kQ kT WQ TP w
def qE(R:K1) kQ kT WQ TP w:=
 zV (qC R) R kQ kT WQ TP w
theorem No(kn:K0)(R:K1)(hn:N0 Q kn)(hr:HR Ab R Q)(h:zV kn R (g 0) (g 3) (g 10) (g 16) w):dM pg wJ (bK 1 (aN 10 uQ)) Q g w:=
 dN 1 (iK (YG (qD kn R) 0 3 10 16 18) h (λg w h=>aJ (A7 0 (Nn _ g w kn R hn hr h))))
def GF(kn:K4)(R:K1) kQ cZ aqO kT w:=
 aG pg Ex #[] w λc9 w=>
 aA pg (GI .not c9) w λd1 w=>
 cP d1
  (R (.bool false) w)
  (aA pg (eI .len #[22] 3 [kQ]) w λd3 w=>
  aA pg (aE .gtr 3 aM aM d3 (aLY 200)) w λd4 w=>
  cP d4
   (R (.bool true) w)
   (aA pg (cJ 5 3 cZ) w λd8 w=>
   aA pg (aE .add 3 aM aM d8 (aLY 1)) w λd9 w=>
   aG pg Fa #[kQ,d9] w λe0 w=>
   aA pg (aP e0 0) w λe1 w=>
   aA pg (aP e0 1) w λe2 w=>
   aA pg (bE 30) w λWQ w=>
   aA pg (aF 30 WQ e1) w λ_u w=>
   aA pg (cJ 23 3 aqO) w λe5 w=>
   aG pg DH #[e5] w λe6 w=>
   aA pg (aP e6 0) w λe7 w=>
   aA pg (aP e6 1) w λe8 w=>
   aA pg (cJ 23 3 aqO) w λf1 w=>
   aG pg JM #[f1] w λf2 w=>
   aA pg (aP f2 0) w λf3 w=>
   aA pg (aP f2 1) w λf4 w=>
   aA pg (bE 40) w λaIq w=>
   aA pg (aF 40 aIq f3) w λ_u w=>
   aA pg (aE .neq 31 (.tmp 45) (.const (aLY 0)) e2 (aLY 0)) w λf6 w=>
   Gd (bG f6 false) (λK=>K e8 w) w λf8 w=>
   Gd (bG f6 false) (λK=>aA pg (aE .neq 31 (.tmp 48) (.const (aLY 0)) f8 (aLY 0)) w K) w λf9 w=>
   aA pg (cG f6 (.bool true) f9) w λi0 w=>
   cP i0
    (R (.bool false) w)
    (aA pg (aB 40 aIq) w λi3 w=>
    aA pg (bV 49 [(0,e7),(2,i3)]) w λi4 w=>
    aA pg (aB 30 WQ) w λi5 w=>
    aG pg dF #[i4,i5] w λi6 w=>
    aA pg (aP i6 0) w λi7 w=>
    aA pg (aP i6 1) w λi8 w=>
    aA pg (bE 49) w λTP w=>
    aA pg (aF 49 TP i7) w λ_u w=>
    aA pg (GI .not i8) w λj0 w=>
    Gd (bG j0 false) (λK=>aA pg (aB 49 TP) w K) w λj2 w=>
    Gd (bG j0 false) (λK=>aG pg B6 #[j2] w K) w λj3 w=>
    Gd (bG j0 false) (λK=>aA pg (GI .not j3) w K) w λj4 w=>
    aA pg (cG j0 (.bool true) j4) w λj5 w=>
    cP j5
     (R (.bool false) w)
     (kn kQ kT WQ TP w))))
def GG(R:K1) kQ cZ aqO kT w:=
 GF (qE R) R kQ cZ aqO kT w
def Mb a0 a1 a2 a3 w(R:K1):=
 GG R a0 a1 a2 a3 w
theorem PS{a0 a1 a2 a3 w R}(h:Mb a0 a1 a2 a3 w R):aG pg AX #[a0,a1,a2,a3] w R:=
 jF (ann:=wJ) Tryz.f3 uQ [a0,a1,a2,a3] Ab 109 TryzM.mixed Tryz.func3 (dN 10 (Ui (Ch (qE R) 0 3 10 16) h (λg w h=>aJ (dN 1 (No _ g w (qC R) R (λg w h=>aJ (jP h dE)) dE h))) dE))
def abV:FA:=⟨Ex,λi=> .leaf ([],[]) []⟩
def ajK:List ResultVar:=[.tmp 0]
noncomputable def YW:Code:=bA Tryz.f4
def Rd(R:K1) w:=
 aG pg DH #[(aLY 1000)] w λc4 w=>
 aA pg (aP c4 0) w λc5 w=>
 aA pg (aP c4 1) w λc6 w=>
 aA pg (bB 22 5 [(0,(.int .u8 97)),(1,(.int .u8 98)),(2,(.int .u8 99)),(3,(.int .u8 100)),(4,(.int .u8 101))]) w λc8 w=>
 aA pg (cJ 22 22 c8) w λc9 w=>
 aG pg Fa #[c9,(aLY 2)] w λd0 w=>
 aA pg (aP d0 0) w λd1 w=>
 aA pg (aP d0 1) w λd2 w=>
 aA pg (bE 30) w λWR w=>
 aA pg (aF 30 WR d1) w λ_u w=>
 aA pg (aB 30 WR) w λd5 w=>
 aG pg sK #[c5,(.string ⟨#[102]⟩),d5] w λd6 w=>
 aA pg (aP d6 0) w λd7 w=>
 aA pg (aP d6 1) w λd8 w=>
 aA pg (aE .neq 31 (.tmp 29) (.const (aLY 0)) c6 (aLY 0)) w λe0 w=>
 Gd (bG e0 false) (λK=>K d2 w) w λe2 w=>
 Gd (bG e0 false) (λK=>aA pg (aE .neq 31 (.tmp 32) (.const (aLY 0)) e2 (aLY 0)) w K) w λe3 w=>
 aA pg (cG e0 (.bool true) e3) w λe4 w=>
 Gd (bG e4 false) (λK=>K d8 w) w λe6 w=>
 Gd (bG e4 false) (λK=>aA pg (aE .neq 31 (.tmp 36) (.const (aLY 0)) e6 (aLY 0)) w K) w λe7 w=>
 aA pg (cG e4 (.bool true) e7) w λe8 w=>
 Gd (bG e8 false) (λK=>K d7 w) w λf0 w=>
 Gd (bG e8 false) (λK=>aA pg (aE .eql 43 (.tmp 40) (.const (.pointer none)) f0 (.pointer none)) w K) w λf1 w=>
 aA pg (cG e8 (.bool true) f1) w λf2 w=>
 cP f2
  (R (.bool false) w)
  (aA pg (bB 22 2 [(0,(.int .u8 99)),(1,(.int .u8 100))]) w λf4 w=>
  aA pg (cJ 22 22 f4) w λf5 w=>
  aG pg eD #[d7,(aLY 1),f5] w λf6 w=>
  aA pg (bB 22 2 [(0,(.int .u8 120)),(1,(.int .u8 121))]) w λf8 w=>
  aA pg (cJ 22 22 f8) w λf9 w=>
  aG pg eD #[d7,(aLY 0),f9] w λi0 w=>
  aG pg gD #[d7] w λi2 w=>
  aA pg (bB 22 2 [(0,(.int .u8 97)),(1,(.int .u8 98))]) w λi4 w=>
  aA pg (cJ 22 22 i4) w λi5 w=>
  aG pg eD #[d7,(aLY 0),i5] w λi6 w=>
  aA pg (bB 22 1 [(0,(.int .u8 101))]) w λi8 w=>
  aA pg (cJ 22 22 i8) w λi9 w=>
  aG pg eD #[d7,(aLY 2),i9] w λj0 w=>
  aG pg gD #[d7] w λj2 w=>
  aG pg gR #[c5,(.string ⟨#[102]⟩)] w λj5 w=>
  aA pg (aP j5 0) w λj6 w=>
  aA pg (aP j5 1) w λj7 w=>
  aG pg jL #[d7] w λj9 w=>
  aA pg (aE .eql 26 (.tmp 69) (.const (.int .u64 1)) j9 (.int .u64 1)) w λl0 w=>
  Gd (bG l0 true) (λK=>K f6 w) w λl2 w=>
  Gd (bG l0 true) (λK=>aA pg (aE .eql 31 (.tmp 72) (.const (aLY 0)) l2 (aLY 0)) w K) w λl3 w=>
  aA pg (cG l0 l3 (.bool false)) w λl4 w=>
  Gd (bG l4 true) (λK=>K i0 w) w λl6 w=>
  Gd (bG l4 true) (λK=>aA pg (aE .eql 31 (.tmp 76) (.const (aLY 13)) l6 (aLY 13)) w K) w λl7 w=>
  aA pg (cG l4 l7 (.bool false)) w λl8 w=>
  Gd (bG l8 true) (λK=>K i2 w) w λm0 w=>
  Gd (bG l8 true) (λK=>aA pg (aE .eql 31 (.tmp 80) (.const (aLY 30)) m0 (aLY 30)) w K) w λm1 w=>
  aA pg (cG l8 m1 (.bool false)) w λm2 w=>
  Gd (bG m2 true) (λK=>K j2 w) w λm4 w=>
  Gd (bG m2 true) (λK=>aA pg (aE .eql 31 (.tmp 84) (.const (aLY 0)) m4 (aLY 0)) w K) w λm5 w=>
  aA pg (cG m2 m5 (.bool false)) w λm6 w=>
  Gd (bG m6 true) (λK=>K j6 w) w λm8 w=>
  Gd (bG m6 true) (λK=>aA pg (cJ 22 9 m8) w K) w λm9 w=>
  Gd (bG m6 true) (λK=>aA pg (aE .eql 9 (.tmp 89) (.const (.string ⟨#[97,98,99,100,101]⟩)) m9 (.string ⟨#[97,98,99,100,101]⟩)) w K) w λn0 w=>
  aA pg (cG m6 n0 (.bool false)) w λn1 w=>
  Gd (bG n1 true) (λK=>K j7 w) w λn3 w=>
  Gd (bG n1 true) (λK=>aA pg (aE .eql 31 (.tmp 93) (.const (aLY 0)) n3 (aLY 0)) w K) w λn4 w=>
  aA pg (cG n1 n4 (.bool false)) w λn5 w=>
  Gd (bG n5 true) (λK=>K d7 w) w λn7 w=>
  Gd (bG n5 true) (λK=>aG pg jV #[n7] w K) w λn8 w=>
  aA pg (cG n5 n8 (.bool false)) w λn9 w=>
  Gd (bG n9 true) (λK=>K d7 w) w λo1 w=>
  Gd (bG n9 true) (λK=>aG pg mP #[o1] w K) w λo2 w=>
  Gd (bG n9 true) (λK=>aA pg (eI .len #[45] 3 [o2]) w K) w λo3 w=>
  Gd (bG n9 true) (λK=>aA pg (aE .eql 3 (.tmp 103) (.const (aLY 3)) o3 (aLY 3)) w K) w λo4 w=>
  aA pg (cG n9 o4 (.bool false)) w λo5 w=>
  R o5 w)
def aaM w(R:K1):=
 Rd R w
theorem Ze{w R}(h:aaM w R):aG pg Ex #[] w R:=
 jF (ann:=abV) Tryz.f4 YW [] ajK 106 TryzM.mixed Tryz.func4 (jP h dE)
def Kt:FA:=⟨Fa,λi=>match Nat.beq i 11 with|true=> .leaf ([9,10,11,13],[(0,9),(0,10),(1,9),(1,10)]) (fz 9 (ft [7,8] (ft [8,9] (ft [] (fz 1 (ft [] []))))))|false=> .leaf ([],[]) []⟩
def Ot:List ResultVar:=[.cell 4 30,.tmp 5]
noncomputable def HM:Code:=bA Tryz.f5
def Ns(R:K1) b4 PZ w:=
 aA pg (aB 30 PZ) w λj2 w=>
 aA pg (aF 30 b4 j2) w λ_u w=>
 kD pg 30 b4 w λr0=>R (.tuple #[r0,(aLY 0)]) w
def Nt(kn:K6)(k0:K2)(R:K1) DM cZ b4 PZ e1 e2 w:=
 aA pg (aE .lss 3 aM aM e2 e1) w λe3 w=>
 cP e3
  (aA pg (aD 30 PZ 0) w λe6 w=>
  aA pg (aB 26 e6) w λe7 w=>
  aG pg oN #[e7,cZ,e2] w λf0 w=>
  aA pg (aP f0 0) w λf1 w=>
  aA pg (aP f0 1) w λf2 w=>
  aA pg (aP f0 2) w λf3 w=>
  aA pg (aE .neq 31 (.tmp 44) (.const (aLY 0)) f3 (aLY 0)) w λf5 w=>
  cP f5
   (aA pg (bV 30 []) w λf6 w=>
   aA pg (aF 30 b4 f6) w λ_u w=>
   kD pg 30 b4 w λr0=>R (.tuple #[r0,f3]) w)
   (aA pg (aD 30 PZ 2) (dr w) λf8 w_=>w_=(dr w)/\
   aA pg (aB 28 f8) (dr w) λf9 w_=>w_=(dr w)/\
   (dr w)=(dr w)/\
   (dr w)=(dr w)/\
   (dr w)=(dr w)/\
   (dr w)=(dr w)/\
   aA pg (cJ 3 26 f2) (dr w) λi4 w_=>w_=(dr w)/\
   aA pg (aE .add 26 aM aM f1 i4) (dr w) λi5 w_=>w_=(dr w)/\
   aA pg (dG 22 DM (some f1) (some i5) none) (dr w) λi6 w_=>w_=(dr w)/\
   aG pg Ag #[i6] (dr w) λi7 aEs=>
   (aO pg (aB 28 f8) f9 aEs/\aO pg (aD 30 PZ 2) f8 aEs/\True)/\
   aA pg (bB 28 1 [(0,i7)]) aEs λi8 azP=>
   (aO pg (aB 28 f8) f9 azP/\aO pg (aD 30 PZ 2) f8 azP/\True)/\
   aA pg (eI .append #[28,28] 28 [f9,i8]) azP λi9 akR=>
   aA pg (aD 30 PZ 2) akR λj0 w_=>w_=akR/\
   aA pg (aF 28 j0 i9) akR λ_u13 Js=>
   aA pg (aE .add 3 aM aM e2 (aLY 1)) Js λj1 w=>
   kn DM cZ b4 PZ e1 j1 w))
  (k0 b4 PZ w)
def G3 (k0:K2)(R:K1) DM cZ b4 PZ e1 e2 w:=
 bM (λ(X:aLX->K0) (t:aLX) (w:aLW)=>Nt (λ_ _ _ _ _ e2 w=>X e2 w) k0 R DM cZ b4 PZ e1 t w) e2 w
theorem acW(k0:K2)(R:K1)(h0:E2 Q k0 0 4 8)(hr:HR Ot R Q)(h:G3 k0 R (g 0) (g 1) (g 4) (g 8) (g 31) (g 32) w):dM pg Kt (bI (aN 1 (bK 1 (aN 4 HM)))) Q g w:=by
 refine EN (λg:Env=>g 32) (λX t w=>Nt (λ_ _ _ _ _ e2 w=>X e2 w) k0 R (g 0) (g 1) (g 4) (g 8) (g 31) t w) h (λX g1 w1 ha hL=> ?_)
 rw[<-eZ 0 ha,<-eZ 1 ha,<-eZ 4 ha,<-eZ 8 ha,<-eZ 31 ha]at hL
 exact(DT [(0,(Qq k0 4 8))] (Mq6 (λ_ _ _ _ _ e2 w=>X e2 w) 0 1 4 8 31 32) hL dE hr ⟨h0,trivial⟩)
def WS(kn:K6) DM cZ b4 n_6 PZ w:=
 kn DM cZ b4 PZ n_6 (aLY 0) w
def Nu(kn:K2)(R:K1) DM cZ b4 n_6 PZ w:=
 WS (G3 kn R) DM cZ b4 n_6 PZ w
def Nv(R:K1) DM cZ b4 n_6 PZ w:=
 Nu (Ns R) R DM cZ b4 n_6 PZ w
theorem acX(kn:K2)(R:K1)(hn:N2 Q kn 4 8)(hr:HR Ot R Q)(h:Nu kn R (g 0) (g 1) (g 4) (g 6) (g 8) w):dM pg Kt (bK 1 (aN 4 HM)) Q g w:=
 dN 1 (iK (Mq6 (G3 kn R) 0 1 4 8 31 32) h (λg w h=>aJ (A7 0 (acW _ g w kn R hn hr h))))
def WT(kn:K5)(R:K1) DM cZ w:=
 aA pg (bE 30) w λb4 w=>
 aA pg (eI .len #[22] 3 [DM]) w λc5 w=>
 aA pg (cJ 3 26 c5) w λc6 w=>
 aG pg uF #[c6,cZ] w λc8 w=>
 aA pg (aP c8 0) w λc9 w=>
 aA pg (aP c8 1) w λd0 w=>
 aA pg (aE .neq 31 (.tmp 21) (.const (aLY 0)) d0 (aLY 0)) w λd2 w=>
 cP d2
  (aA pg (bV 30 []) w λd3 w=>
  aA pg (aF 30 b4 d3) w λ_u w=>
  kD pg 30 b4 w λr0=>R (.tuple #[r0,d0]) w)
  (aA pg (eI .len #[22] 3 [DM]) w λd6 w=>
  aA pg (cJ 3 26 d6) w λd7 w=>
  aA pg (cJ 3 27 cZ) w λd9 w=>
  aA pg (bV 30 [(0,d7),(1,d9)]) w λe0 w=>
  aA pg (bE 30) w λPZ w=>
  aA pg (aF 30 PZ e0) w λ_u w=>
  kn DM cZ b4 c9 PZ w)
def WU(R:K1) DM cZ w:=
 WT (Nv R) R DM cZ w
def anN a0 a1 w(R:K1):=
 WU R a0 a1 w
theorem ahR{a0 a1 w R}(h:anN a0 a1 w R):aG pg Fa #[a0,a1] w R:=
 jF (ann:=Kt) Tryz.f5 HM [a0,a1] Ot 63 TryzM.mixed Tryz.func5 (dN 4 (Ui (YG (Nv R) 0 1 4 6 8) h (λg w h=>aJ (dN 1 (acX _ g w (Ns R) R (λg w h=>aJ (jP h dE)) dE h))) dE))
def apB:FA:=⟨DH,λi=> .leaf ([],[]) []⟩
def avF:List ResultVar:=[.tmp 2,.tmp 3]
noncomputable def alH:Code:=bA Tryz.f6
def aaG(R:K1) VA w:=
 aA pg (aE .lss 3 aM aM VA (aLY 0)) w λb5 w=>
 Gd (bG b5 false) (λK=>K VA w) w λb7 w=>
 Gd (bG b5 false) (λK=>aA pg (aE .gtr 3 aM aM b7 (aLY 16777216)) w K) w λb8 w=>
 aA pg (cG b5 (.bool true) b8) w λb9 w=>
 cP b9
  (R (.tuple #[(.pointer none),(aLY 1)]) w)
  (aA pg (Z0 73 none) w λc1 w=>
  aA pg (Z0 73 none) w λc2 w=>
  aA pg (bV 76 [(0,VA),(1,c1),(2,c2),(4,(aLY (-1)))]) w λc3 w=>
  aA pg (iX 76 c3) w λc4 w=>
  R (.tuple #[c4,(aLY 0)]) w)
def asR a0 w(R:K1):=
 aaG R a0 w
theorem alL{a0 w R}(h:asR a0 w R):aG pg DH #[a0] w R:=
 jF (ann:=apB) Tryz.f6 alH [a0] avF 15 TryzM.mixed Tryz.func6 (jP h dE)
def alB:FA:=⟨JM,λi=> .leaf ([],[]) []⟩
def aqS:List ResultVar:=[.cell 2 40,.tmp 3]
noncomputable def agP:Code:=bA Tryz.f7
def XL(R:K1) VA w:=
 aA pg (bE 40) w λb2 w=>
 aA pg (aE .lss 3 aM aM VA (aLY 0)) w λb5 w=>
 Gd (bG b5 false) (λK=>K VA w) w λb7 w=>
 Gd (bG b5 false) (λK=>aA pg (aE .gtr 3 aM aM b7 (aLY 16777216)) w K) w λb8 w=>
 aA pg (cG b5 (.bool true) b8) w λb9 w=>
 cP b9
  (aA pg (bV 40 []) w λc0 w=>
  aA pg (aF 40 b2 c0) w λ_u w=>
  kD pg 40 b2 w λr0=>R (.tuple #[r0,(aLY 1)]) w)
  (aA pg (bV 40 [(0,VA),(3,(aLY (-1)))]) w λc2 w=>
  aA pg (aF 40 b2 c2) w λ_u w=>
  kD pg 40 b2 w λr0=>R (.tuple #[r0,(aLY 0)]) w)
def anZ a0 w(R:K1):=
 XL R a0 w
theorem aiO{a0 w R}(h:anZ a0 w R):aG pg JM #[a0] w R:=
 jF (ann:=alB) Tryz.f7 agP [a0] aqS 13 TryzM.mixed Tryz.func7 (jP h dE)
def YO:FA:=⟨dF,λi=>match Nat.beq i 2 with|true=> .split 3 9 (.split 3 10 (.split 4 9 (.split 4 10 (.split 9 10 (.perm [0,1,2,3,4,5,6,7,8,9,10,11,12,13] [(9,10),(4,10),(4,9),(3,10),(3,9)] ([3,4,9,10,11,12],[(0,3),(1,3),(6,9),(6,10),(7,9),(7,10),(7,11),(8,9),(8,10),(8,11),(8,12)]) (fz 3 (ft [1,2] (ft [] (fz 4 (ft [0,1,2] (ft [1,2,3] (ft [2,3] (ft [3] (fz 1 [])))))))))) (.perm [0,1,2,3,4,5,6,7,8,10,9,11,12,13] [(10,9),(4,10),(4,9),(3,10),(3,9)] ([3,4,9,10,11,12],[(0,3),(1,3),(6,9),(6,10),(7,9),(7,10),(7,11),(8,9),(8,10),(8,11),(8,12)]) (fz 3 (ft [1,2] (ft [] (fz 4 (ft [0,1,2] (ft [1,2,3] (ft [2,3] (ft [3] (fz 1 []))))))))))) (.perm [0,1,2,3,10,4,5,6,7,8,9,11,12,13] [(10,4),(4,9),(3,10),(3,9)] ([3,4,5,10,11,12],[(0,3),(0,4),(1,3),(1,4),(7,10),(8,10),(8,11),(9,10),(9,11),(9,12)]) (fz 3 (ft [1,2] (ft [2,3] (ft [] (fz 4 (ft [0,1,2] (ft [1,2] (ft [2] (fz 1 []))))))))))) (.split 9 10 (.split 4 10 (.perm [0,1,2,3,9,4,5,6,7,8,10,11,12,13] [(4,10),(9,10),(9,4),(3,10),(3,9)] ([3,4,5,10,11,12],[(0,3),(0,4),(1,3),(1,4),(7,10),(8,10),(8,11),(9,10),(9,11),(9,12)]) (fz 3 (ft [1,2] (ft [2,3] (ft [] (fz 4 (ft [0,1,2] (ft [1,2] (ft [2] (fz 1 [])))))))))) (.perm [0,1,2,3,9,10,4,5,6,7,8,11,12,13] [(10,4),(9,10),(9,4),(3,10),(3,9)] ([3,4,5,6,11,12],[(0,3),(0,4),(0,5),(1,3),(1,4),(1,5),(9,11),(10,11),(10,12)]) (fz 3 (ft [1,2] (ft [2,3] (ft [3,4] (ft [] (fz 4 (ft [0,1] (ft [1] (fz 1 []))))))))))) (.perm [0,1,2,3,10,9,4,5,6,7,8,11,12,13] [(10,9),(9,4),(3,10),(3,9)] ([3,4,5,6,11,12],[(0,3),(0,4),(0,5),(1,3),(1,4),(1,5),(9,11),(10,11),(10,12)]) (fz 3 (ft [1,2] (ft [2,3] (ft [3,4] (ft [] (fz 4 (ft [0,1] (ft [1] (fz 1 [])))))))))))) (.split 4 9 (.perm [0,1,2,10,3,4,5,6,7,8,9,11,12,13] [(4,9),(10,3),(3,9)] ([3,4,5,10,11,12],[(0,3),(0,4),(1,3),(1,4),(2,3),(7,10),(8,10),(8,11),(9,10),(9,11),(9,12)]) (fz 3 (ft [0,1,2] (ft [2,3] (ft [] (fz 4 (ft [0,1,2] (ft [1,2] (ft [2] (fz 1 [])))))))))) (.perm [0,1,2,10,3,9,4,5,6,7,8,11,12,13] [(9,4),(10,3),(3,9)] ([3,4,5,6,11,12],[(0,3),(0,4),(0,5),(1,3),(1,4),(1,5),(2,3),(9,11),(10,11),(10,12)]) (fz 3 (ft [0,1,2] (ft [2,3] (ft [3,4] (ft [] (fz 4 (ft [0,1] (ft [1] (fz 1 [])))))))))))) (.split 9 10 (.split 3 10 (.split 4 10 (.perm [0,1,2,9,3,4,5,6,7,8,10,11,12,13] [(4,10),(3,10),(9,10),(9,3)] ([3,4,5,10,11,12],[(0,3),(0,4),(1,3),(1,4),(2,3),(7,10),(8,10),(8,11),(9,10),(9,11),(9,12)]) (fz 3 (ft [0,1,2] (ft [2,3] (ft [] (fz 4 (ft [0,1,2] (ft [1,2] (ft [2] (fz 1 [])))))))))) (.perm [0,1,2,9,3,10,4,5,6,7,8,11,12,13] [(10,4),(3,10),(9,10),(9,3)] ([3,4,5,6,11,12],[(0,3),(0,4),(0,5),(1,3),(1,4),(1,5),(2,3),(9,11),(10,11),(10,12)]) (fz 3 (ft [0,1,2] (ft [2,3] (ft [3,4] (ft [] (fz 4 (ft [0,1] (ft [1] (fz 1 []))))))))))) (.perm [0,1,2,9,10,3,4,5,6,7,8,11,12,13] [(10,3),(9,10),(9,3)] ([3,4,5,6,11,12],[(0,3),(0,4),(0,5),(1,3),(1,4),(1,5),(2,3),(2,4),(9,11),(10,11),(10,12)]) (fz 3 (ft [0,1,2] (ft [1,2,3] (ft [3,4] (ft [] (fz 4 (ft [0,1] (ft [1] (fz 1 []))))))))))) (.perm [0,1,2,10,9,3,4,5,6,7,8,11,12,13] [(10,9),(9,3)] ([3,4,5,6,11,12],[(0,3),(0,4),(0,5),(1,3),(1,4),(1,5),(2,3),(2,4),(9,11),(10,11),(10,12)]) (fz 3 (ft [0,1,2] (ft [1,2,3] (ft [3,4] (ft [] (fz 4 (ft [0,1] (ft [1] (fz 1 [])))))))))))|false=> .leaf ([],[]) []⟩
def aeL:List ResultVar:=[.cell 4 49,.tmp 5]
noncomputable def dR:Code:=bA Tryz.f8
def AN(R:K1) AP b4 w:=
 aA pg (aB 49 AP) w λf6 w=>
 aA pg (aF 49 b4 f6) w λ_u w=>
 kD pg 49 b4 w λr0=>R (.tuple #[r0,(.bool true)]) w
def OS(kn:K2)(R:K1) AP b4 s_6 e_7 OH b9 aGL w:=
 aA pg (aB 40 OH) w λd7 w=>
 aA pg (aD 49 AP 2) w λd8 w=>
 aA pg (aF 40 d8 d7) w λ_u w=>
 aA pg (aE .neq 31 (.tmp 29) (.tmp 30) e_7 aGL) w λe1 w=>
 Gd (bG e1 false) (λK=>K s_6 w) w λe3 w=>
 Gd (bG e1 false) (λK=>aA pg (aE .eql 43 (.tmp 33) (.const (.pointer none)) e3 (.pointer none)) w K) w λe4 w=>
 Gd (bG e1 false) (λK=>K e_7 w) w λe5 w=>
 Gd (bG e1 false) (λK=>aA pg (aE .neq 31 (.tmp 35) (.const (aLY 0)) e5 (aLY 0)) w K) w λe6 w=>
 Gd (bG e1 false) (λK=>aA pg (aE .neq 4 (.tmp 34) (.tmp 36) e4 e6) w K) w λe7 w=>
 aA pg (cG e1 (.bool true) e7) w λe8 w=>
 cP e8
  (aA pg (aB 49 AP) w λe9 w=>
  aA pg (aF 49 b4 e9) w λ_u w=>
  kD pg 49 b4 w λr0=>R (.tuple #[r0,(.bool false)]) w)
  (aA pg (aE .eql 31 (.tmp 40) (.const (aLY 0)) e_7 (aLY 0)) w λf1 w=>
  cP f1
   (aA pg (aD 49 AP 1) w λf3 w=>
   aA pg (aF 43 f3 s_6) w λ_u w=>
   aA pg (aB 47 b9) w λf4 w=>
   aA pg (aD 49 AP 3) w λf5 w=>
   aA pg (aF 47 f5 f4) w λ_u w=>
   kn AP b4 w)
   (kn AP b4 w))
def tW(R:K1) AP b4 s_6 e_7 OH b9 aGL w:=
 OS (AN R) R AP b4 s_6 e_7 OH b9 aGL w
def OT(kn:K7) p_0 m_1 w:=
 aA pg (iX 49 p_0) w λAP w=>
 aA pg (iX 30 m_1) w λWR w=>
 aA pg (bE 49) w λb4 w=>
 aA pg (aD 49 AP 0) w λc2 w=>
 aA pg (aB 34 c2) w λc3 w=>
 aA pg (aB 30 WR) w λc4 w=>
 aG pg sK #[c3,(.string ⟨#[102]⟩),c4] w λc5 w=>
 aA pg (aP c5 0) w λc6 w=>
 aA pg (aP c5 1) w λc7 w=>
 Ord (P2 dF 2 (vT 2 dR) 3 9 w)
  (Ord (P2 dF 2 (vT 2 dR) 3 10 w)
   (Ord (P2 dF 2 (vT 2 dR) 4 9 w)
    (Ord (P2 dF 2 (vT 2 dR) 4 10 w)
     (Ord (P2 dF 2 (vT 2 dR) 9 10 w)
      (aA pg (aD 49 AP 2) (dr w) λc9 w_=>w_=(dr w)/\
      aA pg (aB 40 c9) (dr w) λd0 w_=>w_=(dr w)/\
      aA pg (aB 30 WR) (dr w) λd1 w_=>w_=(dr w)/\
      aG pg dK #[d1] (dr w) λd2 kV=>
      (aO pg (aB 40 c9) d0 kV/\aO pg (aD 49 AP 2) c9 kV/\True)/\
      aG pg fK #[d0,(.string ⟨#[102]⟩),d2] kV λd3 gJ=>
      gJ=gJ/\
      aA pg (aP d3 0) gJ λd4 w_=>w_=gJ/\
      aA pg (aP d3 1) gJ λd5 w_=>w_=gJ/\
      aA pg (aP d3 2) gJ λd6 w_=>w_=gJ/\
      aA pg (bE 40) gJ λOH arG=>
      (aO pg (aP d3 2) d6 arG/\aO pg (aP d3 1) d5 arG/\aO pg (aP d3 0) d4 arG/\True)/\
      aA pg (bE 47) arG λb9 cQ=>
      (aO pg (aP d3 2) d6 cQ/\aO pg (aP d3 1) d5 cQ/\aO pg (aP d3 0) d4 cQ/\True)/\
      aA pg (aF 40 OH d4) cQ λ_u11 gI=>
      (aO pg (aP d3 2) d6 gI/\aO pg (aP d3 1) d5 gI/\True)/\
      aA pg (aF 47 b9 d5) gI λ_u12 eH=>
      (aO pg (aP d3 2) d6 eH/\True)/\
      eH=eH/\
      kn AP b4 c6 c7 OH b9 d6 eH)
      (aA pg (aD 49 AP 2) (dr w) λc9 w_=>w_=(dr w)/\
      aA pg (aB 40 c9) (dr w) λd0 w_=>w_=(dr w)/\
      aA pg (aB 30 WR) (dr w) λd1 w_=>w_=(dr w)/\
      aG pg dK #[d1] (dr w) λd2 kV=>
      (aO pg (aB 40 c9) d0 kV/\aO pg (aD 49 AP 2) c9 kV/\True)/\
      aG pg fK #[d0,(.string ⟨#[102]⟩),d2] kV λd3 gJ=>
      gJ=gJ/\
      aA pg (aP d3 0) gJ λd4 w_=>w_=gJ/\
      aA pg (aP d3 1) gJ λd5 w_=>w_=gJ/\
      aA pg (aP d3 2) gJ λd6 w_=>w_=gJ/\
      aA pg (bE 47) gJ λb9 arG=>
      (aO pg (aP d3 2) d6 arG/\aO pg (aP d3 1) d5 arG/\aO pg (aP d3 0) d4 arG/\True)/\
      aA pg (bE 40) arG λOH cQ=>
      (aO pg (aP d3 2) d6 cQ/\aO pg (aP d3 1) d5 cQ/\aO pg (aP d3 0) d4 cQ/\True)/\
      aA pg (aF 40 OH d4) cQ λ_u11 gI=>
      (aO pg (aP d3 2) d6 gI/\aO pg (aP d3 1) d5 gI/\True)/\
      aA pg (aF 47 b9 d5) gI λ_u12 eH=>
      (aO pg (aP d3 2) d6 eH/\True)/\
      eH=eH/\
      kn AP b4 c6 c7 OH b9 d6 eH))
     (aA pg (aD 49 AP 2) (dr w) λc9 w_=>w_=(dr w)/\
     aA pg (aB 40 c9) (dr w) λd0 w_=>w_=(dr w)/\
     aA pg (aB 30 WR) (dr w) λd1 w_=>w_=(dr w)/\
     aG pg dK #[d1] (dr w) λd2 kV=>
     (aO pg (aB 40 c9) d0 kV/\aO pg (aD 49 AP 2) c9 kV/\True)/\
     aA pg (bE 47) kV λb9 gJ=>
     (aO pg (aB 40 c9) d0 gJ/\aO pg (aD 49 AP 2) c9 gJ/\True)/\
     aG pg fK #[d0,(.string ⟨#[102]⟩),d2] gJ λd3 fP=>
     fP=fP/\
     aA pg (aP d3 0) fP λd4 w_=>w_=fP/\
     aA pg (aP d3 1) fP λd5 w_=>w_=fP/\
     aA pg (aP d3 2) fP λd6 w_=>w_=fP/\
     aA pg (bE 40) fP λOH cQ=>
     (aO pg (aP d3 2) d6 cQ/\aO pg (aP d3 1) d5 cQ/\aO pg (aP d3 0) d4 cQ/\True)/\
     aA pg (aF 40 OH d4) cQ λ_u11 gI=>
     (aO pg (aP d3 2) d6 gI/\aO pg (aP d3 1) d5 gI/\True)/\
     aA pg (aF 47 b9 d5) gI λ_u12 eH=>
     (aO pg (aP d3 2) d6 eH/\True)/\
     eH=eH/\
     kn AP b4 c6 c7 OH b9 d6 eH))
    (Ord (P2 dF 2 (vT 2 dR) 9 10 w)
     (Ord (P2 dF 2 (vT 2 dR) 4 10 w)
      (aA pg (aD 49 AP 2) (dr w) λc9 w_=>w_=(dr w)/\
      aA pg (aB 40 c9) (dr w) λd0 w_=>w_=(dr w)/\
      aA pg (aB 30 WR) (dr w) λd1 w_=>w_=(dr w)/\
      aG pg dK #[d1] (dr w) λd2 kV=>
      (aO pg (aB 40 c9) d0 kV/\aO pg (aD 49 AP 2) c9 kV/\True)/\
      aA pg (bE 40) kV λOH gJ=>
      (aO pg (aB 40 c9) d0 gJ/\aO pg (aD 49 AP 2) c9 gJ/\True)/\
      aG pg fK #[d0,(.string ⟨#[102]⟩),d2] gJ λd3 fP=>
      fP=fP/\
      aA pg (aP d3 0) fP λd4 w_=>w_=fP/\
      aA pg (aP d3 1) fP λd5 w_=>w_=fP/\
      aA pg (aP d3 2) fP λd6 w_=>w_=fP/\
      aA pg (bE 47) fP λb9 cQ=>
      (aO pg (aP d3 2) d6 cQ/\aO pg (aP d3 1) d5 cQ/\aO pg (aP d3 0) d4 cQ/\True)/\
      aA pg (aF 40 OH d4) cQ λ_u11 gI=>
      (aO pg (aP d3 2) d6 gI/\aO pg (aP d3 1) d5 gI/\True)/\
      aA pg (aF 47 b9 d5) gI λ_u12 eH=>
      (aO pg (aP d3 2) d6 eH/\True)/\
      eH=eH/\
      kn AP b4 c6 c7 OH b9 d6 eH)
      (aA pg (aD 49 AP 2) (dr w) λc9 w_=>w_=(dr w)/\
      aA pg (aB 40 c9) (dr w) λd0 w_=>w_=(dr w)/\
      aA pg (aB 30 WR) (dr w) λd1 w_=>w_=(dr w)/\
      aG pg dK #[d1] (dr w) λd2 kV=>
      (aO pg (aB 40 c9) d0 kV/\aO pg (aD 49 AP 2) c9 kV/\True)/\
      aA pg (bE 40) kV λOH gJ=>
      (aO pg (aB 40 c9) d0 gJ/\aO pg (aD 49 AP 2) c9 gJ/\True)/\
      aA pg (bE 47) gJ λb9 fP=>
      (aO pg (aB 40 c9) d0 fP/\aO pg (aD 49 AP 2) c9 fP/\True)/\
      aG pg fK #[d0,(.string ⟨#[102]⟩),d2] fP λd3 jK=>
      jK=jK/\
      aA pg (aP d3 0) jK λd4 w_=>w_=jK/\
      aA pg (aP d3 1) jK λd5 w_=>w_=jK/\
      aA pg (aP d3 2) jK λd6 w_=>w_=jK/\
      aA pg (aF 40 OH d4) jK λ_u11 gI=>
      (aO pg (aP d3 2) d6 gI/\aO pg (aP d3 1) d5 gI/\True)/\
      aA pg (aF 47 b9 d5) gI λ_u12 eH=>
      (aO pg (aP d3 2) d6 eH/\True)/\
      eH=eH/\
      kn AP b4 c6 c7 OH b9 d6 eH))
     (aA pg (aD 49 AP 2) (dr w) λc9 w_=>w_=(dr w)/\
     aA pg (aB 40 c9) (dr w) λd0 w_=>w_=(dr w)/\
     aA pg (aB 30 WR) (dr w) λd1 w_=>w_=(dr w)/\
     aG pg dK #[d1] (dr w) λd2 kV=>
     (aO pg (aB 40 c9) d0 kV/\aO pg (aD 49 AP 2) c9 kV/\True)/\
     aA pg (bE 47) kV λb9 gJ=>
     (aO pg (aB 40 c9) d0 gJ/\aO pg (aD 49 AP 2) c9 gJ/\True)/\
     aA pg (bE 40) gJ λOH fP=>
     (aO pg (aB 40 c9) d0 fP/\aO pg (aD 49 AP 2) c9 fP/\True)/\
     aG pg fK #[d0,(.string ⟨#[102]⟩),d2] fP λd3 jK=>
     jK=jK/\
     aA pg (aP d3 0) jK λd4 w_=>w_=jK/\
     aA pg (aP d3 1) jK λd5 w_=>w_=jK/\
     aA pg (aP d3 2) jK λd6 w_=>w_=jK/\
     aA pg (aF 40 OH d4) jK λ_u11 gI=>
     (aO pg (aP d3 2) d6 gI/\aO pg (aP d3 1) d5 gI/\True)/\
     aA pg (aF 47 b9 d5) gI λ_u12 eH=>
     (aO pg (aP d3 2) d6 eH/\True)/\
     eH=eH/\
     kn AP b4 c6 c7 OH b9 d6 eH)))
   (Ord (P2 dF 2 (vT 2 dR) 4 9 w)
    (aA pg (aD 49 AP 2) (dr w) λc9 w_=>w_=(dr w)/\
    aA pg (aB 40 c9) (dr w) λd0 w_=>w_=(dr w)/\
    aA pg (aB 30 WR) (dr w) λd1 w_=>w_=(dr w)/\
    aA pg (bE 47) (dr w) λb9 kV=>
    (aO pg (aB 30 WR) d1 kV/\aO pg (aB 40 c9) d0 kV/\aO pg (aD 49 AP 2) c9 kV/\True)/\
    aG pg dK #[d1] kV λd2 gJ=>
    (aO pg (aB 40 c9) d0 gJ/\aO pg (aD 49 AP 2) c9 gJ/\True)/\
    aG pg fK #[d0,(.string ⟨#[102]⟩),d2] gJ λd3 fP=>
    fP=fP/\
    aA pg (aP d3 0) fP λd4 w_=>w_=fP/\
    aA pg (aP d3 1) fP λd5 w_=>w_=fP/\
    aA pg (aP d3 2) fP λd6 w_=>w_=fP/\
    aA pg (bE 40) fP λOH cQ=>
    (aO pg (aP d3 2) d6 cQ/\aO pg (aP d3 1) d5 cQ/\aO pg (aP d3 0) d4 cQ/\True)/\
    aA pg (aF 40 OH d4) cQ λ_u11 gI=>
    (aO pg (aP d3 2) d6 gI/\aO pg (aP d3 1) d5 gI/\True)/\
    aA pg (aF 47 b9 d5) gI λ_u12 eH=>
    (aO pg (aP d3 2) d6 eH/\True)/\
    eH=eH/\
    kn AP b4 c6 c7 OH b9 d6 eH)
    (aA pg (aD 49 AP 2) (dr w) λc9 w_=>w_=(dr w)/\
    aA pg (aB 40 c9) (dr w) λd0 w_=>w_=(dr w)/\
    aA pg (aB 30 WR) (dr w) λd1 w_=>w_=(dr w)/\
    aA pg (bE 47) (dr w) λb9 kV=>
    (aO pg (aB 30 WR) d1 kV/\aO pg (aB 40 c9) d0 kV/\aO pg (aD 49 AP 2) c9 kV/\True)/\
    aG pg dK #[d1] kV λd2 gJ=>
    (aO pg (aB 40 c9) d0 gJ/\aO pg (aD 49 AP 2) c9 gJ/\True)/\
    aA pg (bE 40) gJ λOH fP=>
    (aO pg (aB 40 c9) d0 fP/\aO pg (aD 49 AP 2) c9 fP/\True)/\
    aG pg fK #[d0,(.string ⟨#[102]⟩),d2] fP λd3 jK=>
    jK=jK/\
    aA pg (aP d3 0) jK λd4 w_=>w_=jK/\
    aA pg (aP d3 1) jK λd5 w_=>w_=jK/\
    aA pg (aP d3 2) jK λd6 w_=>w_=jK/\
    aA pg (aF 40 OH d4) jK λ_u11 gI=>
    (aO pg (aP d3 2) d6 gI/\aO pg (aP d3 1) d5 gI/\True)/\
    aA pg (aF 47 b9 d5) gI λ_u12 eH=>
    (aO pg (aP d3 2) d6 eH/\True)/\
    eH=eH/\
    kn AP b4 c6 c7 OH b9 d6 eH)))
  (Ord (P2 dF 2 (vT 2 dR) 9 10 w)
   (Ord (P2 dF 2 (vT 2 dR) 3 10 w)
    (Ord (P2 dF 2 (vT 2 dR) 4 10 w)
     (aA pg (aD 49 AP 2) (dr w) λc9 w_=>w_=(dr w)/\
     aA pg (aB 40 c9) (dr w) λd0 w_=>w_=(dr w)/\
     aA pg (aB 30 WR) (dr w) λd1 w_=>w_=(dr w)/\
     aA pg (bE 40) (dr w) λOH kV=>
     (aO pg (aB 30 WR) d1 kV/\aO pg (aB 40 c9) d0 kV/\aO pg (aD 49 AP 2) c9 kV/\True)/\
     aG pg dK #[d1] kV λd2 gJ=>
     (aO pg (aB 40 c9) d0 gJ/\aO pg (aD 49 AP 2) c9 gJ/\True)/\
     aG pg fK #[d0,(.string ⟨#[102]⟩),d2] gJ λd3 fP=>
     fP=fP/\
     aA pg (aP d3 0) fP λd4 w_=>w_=fP/\
     aA pg (aP d3 1) fP λd5 w_=>w_=fP/\
     aA pg (aP d3 2) fP λd6 w_=>w_=fP/\
     aA pg (bE 47) fP λb9 cQ=>
     (aO pg (aP d3 2) d6 cQ/\aO pg (aP d3 1) d5 cQ/\aO pg (aP d3 0) d4 cQ/\True)/\
     aA pg (aF 40 OH d4) cQ λ_u11 gI=>
     (aO pg (aP d3 2) d6 gI/\aO pg (aP d3 1) d5 gI/\True)/\
     aA pg (aF 47 b9 d5) gI λ_u12 eH=>
     (aO pg (aP d3 2) d6 eH/\True)/\
     eH=eH/\
     kn AP b4 c6 c7 OH b9 d6 eH)
     (aA pg (aD 49 AP 2) (dr w) λc9 w_=>w_=(dr w)/\
     aA pg (aB 40 c9) (dr w) λd0 w_=>w_=(dr w)/\
     aA pg (aB 30 WR) (dr w) λd1 w_=>w_=(dr w)/\
     aA pg (bE 40) (dr w) λOH kV=>
     (aO pg (aB 30 WR) d1 kV/\aO pg (aB 40 c9) d0 kV/\aO pg (aD 49 AP 2) c9 kV/\True)/\
     aG pg dK #[d1] kV λd2 gJ=>
     (aO pg (aB 40 c9) d0 gJ/\aO pg (aD 49 AP 2) c9 gJ/\True)/\
     aA pg (bE 47) gJ λb9 fP=>
     (aO pg (aB 40 c9) d0 fP/\aO pg (aD 49 AP 2) c9 fP/\True)/\
     aG pg fK #[d0,(.string ⟨#[102]⟩),d2] fP λd3 jK=>
     jK=jK/\
     aA pg (aP d3 0) jK λd4 w_=>w_=jK/\
     aA pg (aP d3 1) jK λd5 w_=>w_=jK/\
     aA pg (aP d3 2) jK λd6 w_=>w_=jK/\
     aA pg (aF 40 OH d4) jK λ_u11 gI=>
     (aO pg (aP d3 2) d6 gI/\aO pg (aP d3 1) d5 gI/\True)/\
     aA pg (aF 47 b9 d5) gI λ_u12 eH=>
     (aO pg (aP d3 2) d6 eH/\True)/\
     eH=eH/\
     kn AP b4 c6 c7 OH b9 d6 eH))
    (aA pg (aD 49 AP 2) (dr w) λc9 w_=>w_=(dr w)/\
    aA pg (aB 40 c9) (dr w) λd0 w_=>w_=(dr w)/\
    aA pg (aB 30 WR) (dr w) λd1 w_=>w_=(dr w)/\
    aA pg (bE 40) (dr w) λOH kV=>
    (aO pg (aB 30 WR) d1 kV/\aO pg (aB 40 c9) d0 kV/\aO pg (aD 49 AP 2) c9 kV/\True)/\
    aA pg (bE 47) kV λb9 gJ=>
    (aO pg (aB 30 WR) d1 gJ/\aO pg (aB 40 c9) d0 gJ/\aO pg (aD 49 AP 2) c9 gJ/\True)/\
    aG pg dK #[d1] gJ λd2 fP=>
    (aO pg (aB 40 c9) d0 fP/\aO pg (aD 49 AP 2) c9 fP/\True)/\
    aG pg fK #[d0,(.string ⟨#[102]⟩),d2] fP λd3 jK=>
    jK=jK/\
    aA pg (aP d3 0) jK λd4 w_=>w_=jK/\
    aA pg (aP d3 1) jK λd5 w_=>w_=jK/\
    aA pg (aP d3 2) jK λd6 w_=>w_=jK/\
    aA pg (aF 40 OH d4) jK λ_u11 gI=>
    (aO pg (aP d3 2) d6 gI/\aO pg (aP d3 1) d5 gI/\True)/\
    aA pg (aF 47 b9 d5) gI λ_u12 eH=>
    (aO pg (aP d3 2) d6 eH/\True)/\
    eH=eH/\
    kn AP b4 c6 c7 OH b9 d6 eH))
   (aA pg (aD 49 AP 2) (dr w) λc9 w_=>w_=(dr w)/\
   aA pg (aB 40 c9) (dr w) λd0 w_=>w_=(dr w)/\
   aA pg (aB 30 WR) (dr w) λd1 w_=>w_=(dr w)/\
   aA pg (bE 47) (dr w) λb9 kV=>
   (aO pg (aB 30 WR) d1 kV/\aO pg (aB 40 c9) d0 kV/\aO pg (aD 49 AP 2) c9 kV/\True)/\
   aA pg (bE 40) kV λOH gJ=>
   (aO pg (aB 30 WR) d1 gJ/\aO pg (aB 40 c9) d0 gJ/\aO pg (aD 49 AP 2) c9 gJ/\True)/\
   aG pg dK #[d1] gJ λd2 fP=>
   (aO pg (aB 40 c9) d0 fP/\aO pg (aD 49 AP 2) c9 fP/\True)/\
   aG pg fK #[d0,(.string ⟨#[102]⟩),d2] fP λd3 jK=>
   jK=jK/\
   aA pg (aP d3 0) jK λd4 w_=>w_=jK/\
   aA pg (aP d3 1) jK λd5 w_=>w_=jK/\
   aA pg (aP d3 2) jK λd6 w_=>w_=jK/\
   aA pg (aF 40 OH d4) jK λ_u11 gI=>
   (aO pg (aP d3 2) d6 gI/\aO pg (aP d3 1) d5 gI/\True)/\
   aA pg (aF 47 b9 d5) gI λ_u12 eH=>
   (aO pg (aP d3 2) d6 eH/\True)/\
   eH=eH/\
   kn AP b4 c6 c7 OH b9 d6 eH))
def OU(R:K1) p_0 m_1 w:=
 OT (tW R) p_0 m_1 w
def WA a0 a1 w(R:K1):=
 OU R a0 a1 w
theorem WB{a0 a1 w R}(h:WA a0 a1 w R):aG pg dF #[a0,a1] w R:=
 jF (ann:=YO) Tryz.f8 dR [a0,a1] aeL 47 TryzM.mixed Tryz.func8 (dN 3 (iK (Mq7 (tW R) 2 4 6 7 8 9 10) h (λg w h=>aJ (dN 3 (Ui (Qq (AN R) 2 4) h (λg w h=>aJ (jP h dE)) dE)))))
def wK:FA:=⟨B6,λi=>match Nat.beq i 3 with|true=> .leaf ([8],[(8,9),(8,10),(8,11),(8,12)]) (fz 8 (ft [] (fu [0] (fu [1] (fu [2] (fu [3] (fz 2 [])))))))|false=>match Nat.beq i 8 with|true=> .leaf ([6],[]) (fz 6 (ft [] (fz 5 [])))|false=>match Nat.beq i 9 with|true=> .leaf ([],[]) (fz 24 [])|false=>match Nat.beq i 14 with|true=> .leaf ([10,19,28],[(10,11),(10,12),(10,13),(19,20),(19,21),(19,22),(28,29),(28,30),(28,31)]) (fz 10 (ft [] (fu [0] (fu [1] (fu [2] (fz 5 (ft [] (fu [0] (fu [1] (fu [2] (fz 5 (ft [] (fu [0] (fu [1] (fu [2] (fz 2 []))))))))))))))))|false=>match Nat.beq i 19 with|true=> .leaf ([],[]) (fz 11 [])|false=> .leaf ([],[]) []⟩
def Av:List ResultVar:=[.tmp 2]
noncomputable def tV:Code:=bA Tryz.f9
def KK(R:K1) w:=
 R (.bool true) w
def KL(kn:K3)(k2:K0)(R:K1) Jy h_8 i_9 w:=
 aA pg (eI .len #[45] 3 [h_8]) w λp9 w=>
 aA pg (aE .lss 3 aM aM i_9 p9) w λq0 w=>
 cP q0
  ((dr w)=(dr w)/\
  (dr w)=(dr w)/\
  aA pg (aR 45 h_8 i_9) (dr w) λq5 w_=>w_=(dr w)/\
  aA pg (aB 4 q5) (dr w) λq6 w_=>w_=(dr w)/\
  aA pg (aD 49 Jy 3) (dr w) λq7 w_=>w_=(dr w)/\
  aA pg (aD 47 q7 3) (dr w) λq8 w_=>w_=(dr w)/\
  aA pg (aB 45 q8) (dr w) λq9 w_=>w_=(dr w)/\
  (dr w)=(dr w)/\
  aA pg (aR 45 q9 i_9) (dr w) λs1 w_=>w_=(dr w)/\
  aA pg (aB 4 s1) (dr w) λs2 w_=>w_=(dr w)/\
  aA pg (aE .neq 4 (.tmp 126) (.tmp 132) q6 s2) (dr w) λs3 w_=>w_=(dr w)/\
  cP s3
   (R (.bool false) (dr w))
   (aA pg (aE .add 3 aM aM i_9 (aLY 1)) (dr w) λq2 w=>
   kn Jy h_8 q2 w))
  (k2 w)
def EH(k2:K0)(R:K1) Jy h_8 i_9 w:=
 bM (λ(X:aLX->K0) (t:aLX) (w:aLW)=>KL (λ_ _ i_9 w=>X i_9 w) k2 R Jy h_8 t w) i_9 w
theorem Zf(k2:K0)(R:K1)(h2:E0 Q k2 2)(hr:HR Av R Q)(h:EH k2 R (g 1) (g 8) (g 9) w):dM pg wK (bI (aN 1 (bK 1 (aN 3 (aN 1 (aN 4 tV)))))) Q g w:=by
 refine EN (λg:Env=>g 9) (λX t w=>KL (λ_ _ i_9 w=>X i_9 w) k2 R (g 1) (g 8) t w) h (λX g1 w1 ha hL=> ?_)
 rw[<-eZ 1 ha,<-eZ 8 ha]at hL
 exact(DT [(2,(Mq0 k2))] (Gu (λ_ _ i_9 w=>X i_9 w) 1 8 9) hL dE hr ⟨h2,trivial⟩)
def Ul(kn:K3) Jy h_8 w:=
 kn Jy h_8 (aLY 0) w
def KM(kn:K0)(R:K1) Jy h_8 w:=
 Ul (EH kn R) Jy h_8 w
def KN(R:K1) Jy h_8 w:=
 KM (KK R) R Jy h_8 w
theorem Zg(kn:K0)(R:K1)(hn:N0 Q kn)(hr:HR Av R Q)(h:KM kn R (g 1) (g 8) w):dM pg wK (bK 1 (aN 3 (aN 1 (aN 4 tV)))) Q g w:=
 dN 1 (iK (Gu (EH kn R) 1 8 9) h (λg w h=>aJ (A7 2 (Zf _ g w kn R hn hr h))))
def Um(kn:K2)(R:K1) Jy w:=
 aA pg (aD 49 Jy 1) w λl7 w=>
 aA pg (aB 43 l7) w λl8 w=>
 aA pg (aE .eql 43 (.tmp 78) (.const (.pointer none)) l8 (.pointer none)) w λl9 w=>
 cP l9
  (R (.bool true) w)
  (aA pg (aD 49 Jy 1) w λm0 w=>
  aA pg (aB 43 m0) w λm1 w=>
  aG pg mP #[m1] w λm2 w=>
  (dr w)=(dr w)/\
  aA pg (eI .len #[45] 3 [m2]) (dr w) λm4 w_=>w_=(dr w)/\
  aA pg (aD 49 Jy 3) (dr w) λm5 w_=>w_=(dr w)/\
  aA pg (aD 47 m5 3) (dr w) λm6 w_=>w_=(dr w)/\
  aA pg (aB 45 m6) (dr w) λm7 w_=>w_=(dr w)/\
  aA pg (eI .len #[45] 3 [m7]) (dr w) λm8 w_=>w_=(dr w)/\
  aA pg (aE .neq 3 (.tmp 84) (.tmp 88) m4 m8) (dr w) λm9 w_=>w_=(dr w)/\
  (dr w)=(dr w)/\
  Gd (bG m9 false) (λK=>aA pg (aD 49 Jy 1) (dr w) K) (dr w) λn1 w_=>w_=(dr w)/\
  Gd (bG m9 false) (λK=>aA pg (aB 43 n1) (dr w) K) (dr w) λn2 w_=>w_=(dr w)/\
  Gd (bG m9 false) (λK=>aG pg jL #[n2] (dr w) K) (dr w) λn3 kB=>
  Gd (bG m9 false) (λK=>aA pg (aD 49 Jy 3) kB K) kB λn4 w_=>w_=kB/\
  (Gs (bG m9 false) (aO pg (aD 49 Jy 3) n4 (dr w))/\True)/\
  Gd (bG m9 false) (λK=>aA pg (aD 47 n4 2) kB K) kB λn5 w_=>w_=kB/\
  (Gs (bG m9 false) (aO pg (aD 47 n4 2) n5 (dr w))/\True)/\
  Gd (bG m9 false) (λK=>aA pg (aB 26 n5) kB K) kB λn6 w_=>w_=kB/\
  (Gs (bG m9 false) (aO pg (aB 26 n5) n6 (dr w))/\True)/\
  Gd (bG m9 false) (λK=>aA pg (aE .neq 26 (.tmp 93) (.tmp 96) n3 n6) kB K) kB λn7 w_=>w_=kB/\
  aA pg (cG m9 (.bool true) n7) kB λn8 w_=>w_=kB/\
  kB=kB/\
  Gd (bG n8 false) (λK=>aA pg (aD 49 Jy 1) kB K) kB λo0 w_=>w_=kB/\
  Gd (bG n8 false) (λK=>aA pg (aB 43 o0) kB K) kB λo1 w_=>w_=kB/\
  Gd (bG n8 false) (λK=>aG pg jV #[o1] kB K) kB λo2 kC=>
  Gd (bG n8 false) (λK=>aA pg (aD 49 Jy 3) kC K) kC λo3 w_=>w_=kC/\
  (Gs (bG n8 false) (aO pg (aD 49 Jy 3) o3 kB)/\True)/\
  Gd (bG n8 false) (λK=>aA pg (aD 47 o3 5) kC K) kC λo4 w_=>w_=kC/\
  (Gs (bG n8 false) (aO pg (aD 47 o3 5) o4 kB)/\True)/\
  Gd (bG n8 false) (λK=>aA pg (aB 4 o4) kC K) kC λo5 w_=>w_=kC/\
  (Gs (bG n8 false) (aO pg (aB 4 o4) o5 kB)/\True)/\
  Gd (bG n8 false) (λK=>aA pg (aE .neq 4 (.tmp 102) (.tmp 105) o2 o5) kC K) kC λo6 w_=>w_=kC/\
  aA pg (cG n8 (.bool true) o6) kC λo7 w_=>w_=kC/\
  kC=kC/\
  Gd (bG o7 false) (λK=>aA pg (aD 49 Jy 1) kC K) kC λo9 w_=>w_=kC/\
  Gd (bG o7 false) (λK=>aA pg (aB 43 o9) kC K) kC λp0 w_=>w_=kC/\
  Gd (bG o7 false) (λK=>aG pg gB #[p0] kC K) kC λp1 Ae=>
  Gd (bG o7 false) (λK=>aA pg (aD 49 Jy 3) Ae K) Ae λp2 w_=>w_=Ae/\
  (Gs (bG o7 false) (aO pg (aD 49 Jy 3) p2 kC)/\True)/\
  Gd (bG o7 false) (λK=>aA pg (aD 47 p2 6) Ae K) Ae λp3 w_=>w_=Ae/\
  (Gs (bG o7 false) (aO pg (aD 47 p2 6) p3 kC)/\True)/\
  Gd (bG o7 false) (λK=>aA pg (aB 31 p3) Ae K) Ae λp4 w_=>w_=Ae/\
  (Gs (bG o7 false) (aO pg (aB 31 p3) p4 kC)/\True)/\
  Gd (bG o7 false) (λK=>aA pg (aE .neq 31 (.tmp 111) (.tmp 114) p1 p4) Ae K) Ae λp5 w_=>w_=Ae/\
  aA pg (cG o7 (.bool true) p5) Ae λp6 w_=>w_=Ae/\
  cP p6
   (R (.bool false) Ae)
   (kn Jy m2 Ae))
def EI(R:K1) Jy w:=
 Um (KN R) R Jy w
def H8 (kn:K4)(k0:K1)(R:K1) Jy P0 l_4 vQ w:=
 aA pg (eI .len #[80] 3 [P0]) w λe3 w=>
 aA pg (aE .lss 3 aM aM vQ e3) w λe4 w=>
 Gd (bG e4 true) (λK=>aA pg (aD 49 Jy 2) w K) w λe6 w=>
 Gd (bG e4 true) (λK=>aA pg (aD 40 e6 4) w K) w λe7 w=>
 Gd (bG e4 true) (λK=>aA pg (aB 4 e7) w K) w λe8 w=>
 Gd (bG e4 true) (λK=>aA pg (GI .not e8) w K) w λe9 w=>
 aA pg (cG e4 e9 (.bool false)) w λf0 w=>
 cP f0
  (aA pg (aD 49 Jy 0) (dr w) λf4 w_=>w_=(dr w)/\
  aA pg (aB 34 f4) (dr w) λf5 w_=>w_=(dr w)/\
  (dr w)=(dr w)/\
  (dr w)=(dr w)/\
  aA pg (aR 80 P0 vQ) (dr w) λf8 w_=>w_=(dr w)/\
  aA pg (aB 9 f8) (dr w) λf9 w_=>w_=(dr w)/\
  aG pg gR #[f5,f9] (dr w) λi0 gK=>
  gK=gK/\
  aA pg (aP i0 0) gK λi1 w_=>w_=gK/\
  aA pg (aP i0 1) gK λi2 w_=>w_=gK/\
  gK=gK/\
  gK=gK/\
  (dr gK)=(dr gK)/\
  (dr gK)=(dr gK)/\
  aA pg (aR 80 P0 vQ) (dr gK) λi5 w_=>w_=(dr gK)/\
  aA pg (aB 9 i5) (dr gK) λi6 w_=>w_=(dr gK)/\
  (dr gK)=(dr gK)/\
  (dr gK)=(dr gK)/\
  aA pg (aR 37 l_4 vQ) (dr gK) λi9 w_=>w_=(dr gK)/\
  aA pg (aD 85 i9 0) (dr gK) λj0 w_=>w_=(dr gK)/\
  aA pg (aB 9 j0) (dr gK) λj1 w_=>w_=(dr gK)/\
  aA pg (aE .neq 9 (.tmp 56) (.tmp 61) i6 j1) (dr gK) λj2 w_=>w_=(dr gK)/\
  (dr gK)=(dr gK)/\
  Gd (bG j2 false) (λK=>K i2 (dr gK)) (dr gK) λj4 w_=>w_=(dr gK)/\
  Gd (bG j2 false) (λK=>aA pg (aE .neq 31 (.tmp 64) (.const (aLY 0)) j4 (aLY 0)) (dr gK) K) (dr gK) λj5 w_=>w_=(dr gK)/\
  aA pg (cG j2 (.bool true) j5) (dr gK) λj6 w_=>w_=(dr gK)/\
  (dr gK)=(dr gK)/\
  Gd (bG j6 false) (λK=>K i1 (dr gK)) (dr gK) λj8 w_=>w_=(dr gK)/\
  Gd (bG j6 false) (λK=>aA pg (cJ 22 9 j8) (dr gK) K) (dr gK) λj9 w_=>w_=(dr gK)/\
  Gd (bG j6 false) (λK=>K l_4 (dr gK)) (dr gK) λl0 w_=>w_=(dr gK)/\
  Gd (bG j6 false) (λK=>K vQ (dr gK)) (dr gK) λl1 w_=>w_=(dr gK)/\
  Gd (bG j6 false) (λK=>aA pg (aR 37 l0 l1) (dr gK) K) (dr gK) λl2 w_=>w_=(dr gK)/\
  Gd (bG j6 false) (λK=>aA pg (aD 85 l2 1) (dr gK) K) (dr gK) λl3 w_=>w_=(dr gK)/\
  Gd (bG j6 false) (λK=>aA pg (aB 9 l3) (dr gK) K) (dr gK) λl4 w_=>w_=(dr gK)/\
  Gd (bG j6 false) (λK=>aA pg (aE .neq 9 (.tmp 69) (.tmp 74) j9 l4) (dr gK) K) (dr gK) λl5 w_=>w_=(dr gK)/\
  aA pg (cG j6 (.bool true) l5) (dr gK) λl6 w_=>w_=(dr gK)/\
  cP l6
   (R (.bool false) (dr gK))
   (aA pg (aE .add 3 aM aM vQ (aLY 1)) (dr gK) λf2 w=>
   kn Jy P0 l_4 f2 w))
  (k0 Jy w)
def CE(k0:K1)(R:K1) Jy P0 l_4 vQ w:=
 bM (λ(X:aLX->K0) (t:aLX) (w:aLW)=>H8 (λ_ _ _ vQ w=>X vQ w) k0 R Jy P0 l_4 t w) vQ w
theorem Wy(k0:K1)(R:K1)(h0:E1 Q k0 0 1)(hr:HR Av R Q)(h:CE k0 R (g 1) (g 3) (g 4) (g 5) w):dM pg wK (bI (aN 1 (bK 1 (aN 4 tV)))) Q g w:=by
 refine EN (λg:Env=>g 5) (λX t w=>H8 (λ_ _ _ vQ w=>X vQ w) k0 R (g 1) (g 3) (g 4) t w) h (λX g1 w1 ha hL=> ?_)
 rw[<-eZ 1 ha,<-eZ 3 ha,<-eZ 4 ha]at hL
 exact(DT [(0,(Mq1 k0 1))] (Ch (λ_ _ _ vQ w=>X vQ w) 1 3 4 5) hL dE hr ⟨h0,trivial⟩)
def Re(kn:K4) Jy P0 l_4 w:=
 kn Jy P0 l_4 (aLY 0) w
def H9 (kn:K1)(R:K1) Jy P0 l_4 w:=
 Re (CE kn R) Jy P0 l_4 w
def Ia(R:K1) Jy P0 l_4 w:=
 H9 (EI R) R Jy P0 l_4 w
theorem Wz(kn:K1)(R:K1)(hn:N1 Q kn 1)(hr:HR Av R Q)(h:H9 kn R (g 1) (g 3) (g 4) w):dM pg wK (bK 1 (aN 4 tV)) Q g w:=
 dN 1 (iK (Ch (CE kn R) 1 3 4 5) h (λg w h=>aJ (A7 0 (Wy _ g w kn R hn hr h))))
def Rf(kn:K3)(R:K1) p_0 w:=
 aA pg (iX 49 p_0) w λJy w=>
 aA pg (aD 49 Jy 0) w λc0 w=>
 aA pg (aB 34 c0) w λc1 w=>
 aG pg vJ #[c1] w λc2 w=>
 aA pg (aD 49 Jy 2) w λc3 w=>
 aA pg (aB 40 c3) w λc4 w=>
 aG pg sH #[c4] w λc5 w=>
 (dr w)=(dr w)/\
 aA pg (eI .len #[80] 3 [c2]) (dr w) λc7 w_=>w_=(dr w)/\
 (dr w)=(dr w)/\
 aA pg (eI .len #[37] 3 [c5]) (dr w) λc9 w_=>w_=(dr w)/\
 aA pg (aE .neq 3 (.tmp 17) (.tmp 19) c7 c9) (dr w) λd0 w_=>w_=(dr w)/\
 (dr w)=(dr w)/\
 Gd (bG d0 false) (λK=>aA pg (aD 49 Jy 0) (dr w) K) (dr w) λd2 w_=>w_=(dr w)/\
 Gd (bG d0 false) (λK=>aA pg (aB 34 d2) (dr w) K) (dr w) λd3 w_=>w_=(dr w)/\
 Gd (bG d0 false) (λK=>aG pg pY #[d3] (dr w) K) (dr w) λd4 fZ=>
 Gd (bG d0 false) (λK=>aA pg (aD 49 Jy 2) fZ K) fZ λd5 w_=>w_=fZ/\
 (Gs (bG d0 false) (aO pg (aD 49 Jy 2) d5 (dr w))/\True)/\
 Gd (bG d0 false) (λK=>aA pg (aD 40 d5 2) fZ K) fZ λd6 w_=>w_=fZ/\
 (Gs (bG d0 false) (aO pg (aD 40 d5 2) d6 (dr w))/\True)/\
 Gd (bG d0 false) (λK=>aA pg (aB 38 d6) fZ K) fZ λd7 w_=>w_=fZ/\
 (Gs (bG d0 false) (aO pg (aB 38 d6) d7 (dr w))/\True)/\
 Gd (bG d0 false) (λK=>aA pg (eI .len #[38] 3 [d7]) fZ K) fZ λd8 w_=>w_=fZ/\
 (Gs (bG d0 false) (aO pg (eI .len #[38] 3 [d7]) d8 (dr w))/\True)/\
 Gd (bG d0 false) (λK=>aA pg (aE .neq 3 (.tmp 24) (.tmp 28) d4 d8) fZ K) fZ λd9 w_=>w_=fZ/\
 aA pg (cG d0 (.bool true) d9) fZ λe0 w_=>w_=fZ/\
 cP e0
  (R (.bool false) fZ)
  (kn Jy c2 c5 fZ)
def Rg(R:K1) p_0 w:=
 Rf (Ia R) R p_0 w
def ahJ a0 w(R:K1):=
 Rg R a0 w
theorem acS{a0 w R}(h:ahJ a0 w R):aG pg B6 #[a0] w R:=
 jF (ann:=wK) Tryz.f9 tV [a0] Av 134 TryzM.mixed Tryz.func9 (dN 4 (Ui (Gu (Ia R) 1 3 4) h (λg w h=>aJ (dN 1 (Wz _ g w (EI R) R (λg w h=>aJ (dN 3 (Ui (Qq (KN R) 1 8) h (λg w h=>aJ (dN 1 (Zg _ g w (KK R) R (λg w h=>aJ (jP h dE)) dE h))) dE))) dE h))) dE))
def QC:FA:=⟨yP,λi=>match Nat.beq i 30 with|true=> .leaf ([4,9],[(0,4),(1,4),(4,5),(4,6),(4,7),(4,8)]) (fz 4 (ft [2,3] (fu [0] (fu [1] (fu [2] (fu [3] (ft [] (fz 1 []))))))))|false=>match Nat.beq i 31 with|true=> .split 4 15 (.split 11 15 (.perm [0,1,2,3,4,5,6,7,8,9,10,11,12,13,14,15,16,17] [(11,15),(4,15)] ([4,11,15,16],[(0,4),(1,4),(4,5),(4,6),(4,7),(4,8),(4,9),(13,15),(14,15),(14,16)]) (fz 4 (ft [2,3] (fu [0] (fu [1] (fu [2] (fu [3] (fu [4] (fz 1 (ft [] (fz 3 (ft [0,1] (ft [1] (fz 1 [])))))))))))))) (.perm [0,1,2,3,4,5,6,7,8,9,10,15,11,12,13,14,16,17] [(15,11),(4,15)] ([4,11,12,16],[(0,4),(0,11),(1,4),(1,11),(4,5),(4,6),(4,7),(4,8),(4,9),(5,11),(6,11),(7,11),(8,11),(9,11),(10,11),(15,16)]) (fz 4 (ft [2,3] (fu [0] (fu [1] (fu [2] (fu [3] (fu [4] (fz 1 (ft [0,1,2,3,4,5,9,10] (ft [] (fz 3 (ft [0] (fz 1 []))))))))))))))) (.perm [0,1,2,3,5,6,7,8,9,15,4,10,11,12,13,14,16,17] [(15,4)] ([9,10,12,16],[(0,9),(0,10),(1,9),(1,10),(2,9),(3,9),(4,9),(4,10),(5,9),(5,10),(6,9),(6,10),(7,9),(7,10),(8,9),(8,10),(15,16)]) (fz 9 (ft [0,1,2,3,4,5,6,7,8] (ft [1,2,3,4,5,8,9] (fz 1 (ft [] (fz 3 (ft [0] (fz 1 [])))))))))|false=> .leaf ([],[]) []⟩
def UT:List ResultVar:=[.cell 8 49,.tmp 9]
noncomputable def AI:Code:=bA Tryz.f10
def EJ(R:K1) nG G1 b8 w:=
 aA pg (aB 49 nG) w λv7 w=>
 aA pg (aB 30 G1) w λv8 w=>
 aG pg dF #[v7,v8] w λv9 w=>
 aA pg (aP v9 0) w λx0 w=>
 aA pg (aP v9 1) w λx1 w=>
 aA pg (aF 49 b8 x0) w λ_u w=>
 kD pg 49 b8 w λr0=>R (.tuple #[r0,x1]) w
def KO(R:K1) tC nG G1 rQ b8 w:=
 aA pg (aD 49 nG 1) w λd9 w=>
 aA pg (aB 43 d9) w λe0 w=>
 aA pg (aE .eql 43 (.tmp 30) (.const (.pointer none)) e0 (.pointer none)) w λe1 w=>
 cP e1
  (aA pg (aB 49 nG) w λe2 w=>
  aA pg (aF 49 b8 e2) w λ_u w=>
  kD pg 49 b8 w λr0=>R (.tuple #[r0,(.bool true)]) w)
  (aA pg (aD 30 G1 1) w λe4 w=>
  aA pg (aB 27 e4) w λe5 w=>
  aA pg (cJ 27 3 e5) w λe6 w=>
  aA pg (aB 54 rQ) w λe7 w=>
  aG pg Ey #[tC,e6,e7] w λe8 w=>
  aA pg (aD 49 nG 1) w λe9 w=>
  aA pg (aB 43 e9) w λf0 w=>
  aA pg (aD 54 rQ 1) w λf1 w=>
  aA pg (aB 3 f1) w λf2 w=>
  aG pg eD #[f0,f2,e8] w λf4 w=>
  aA pg (aD 49 nG 2) w λf6 w=>
  aA pg (aB 40 f6) w λf7 w=>
  aA pg (aD 49 nG 3) w λf8 w=>
  aA pg (aB 47 f8) w λf9 w=>
  aA pg (aD 54 rQ 1) w λi0 w=>
  aA pg (aB 3 i0) w λi1 w=>
  aA pg (cJ 22 9 e8) w λi3 w=>
  aG pg JN #[f7,f9,i1,i3] w λi4 w=>
  aA pg (aP i4 0) w λi5 w=>
  aA pg (aP i4 1) w λi6 w=>
  aA pg (aP i4 2) w λi7 w=>
  aA pg (bE 40) w λaIp w=>
  aA pg (bE 47) w λc3 w=>
  aA pg (aF 40 aIp i5) w λ_u w=>
  aA pg (aF 47 c3 i6) w λ_u w=>
  aA pg (aB 40 aIp) w λi8 w=>
  aA pg (aD 49 nG 2) w λi9 w=>
  aA pg (aF 40 i9 i8) w λ_u w=>
  aA pg (aB 47 c3) w λj0 w=>
  aA pg (aD 49 nG 3) w λj1 w=>
  aA pg (aF 47 j1 j0) w λ_u w=>
  aA pg (aB 49 nG) w λj2 w=>
  aA pg (aE .eql 31 (.tmp 63) (.tmp 64) f4 i7) w λj5 w=>
  aA pg (aF 49 b8 j2) w λ_u w=>
  kD pg 49 b8 w λr0=>R (.tuple #[r0,j5]) w)
def KP(R:K1) nG b8 w:=
 aA pg (aD 49 nG 1) w λj8 w=>
 aA pg (aB 43 j8) w λj9 w=>
 aA pg (aE .eql 43 (.tmp 69) (.const (.pointer none)) j9 (.pointer none)) w λl0 w=>
 cP l0
  (aA pg (aB 49 nG) w λl1 w=>
  aA pg (aF 49 b8 l1) w λ_u w=>
  kD pg 49 b8 w λr0=>R (.tuple #[r0,(.bool true)]) w)
  (aA pg (aD 49 nG 1) w λl2 w=>
  aA pg (aB 43 l2) w λl3 w=>
  aG pg gD #[l3] w λl4 w=>
  aA pg (aD 49 nG 2) w λl6 w=>
  aA pg (aB 40 l6) w λl7 w=>
  aA pg (aD 49 nG 3) w λl8 w=>
  aA pg (aB 47 l8) w λl9 w=>
  aG pg Ca #[l7,l9] w λm0 w=>
  aA pg (aP m0 0) w λm1 w=>
  aA pg (aP m0 1) w λm2 w=>
  aA pg (aP m0 2) w λm3 w=>
  aA pg (bE 40) w λaeV w=>
  aA pg (bE 47) w λc7 w=>
  aA pg (aF 40 aeV m1) w λ_u w=>
  aA pg (aF 47 c7 m2) w λ_u w=>
  aA pg (aB 40 aeV) w λm4 w=>
  aA pg (aD 49 nG 2) w λm5 w=>
  aA pg (aF 40 m5 m4) w λ_u w=>
  aA pg (aB 47 c7) w λm6 w=>
  aA pg (aD 49 nG 3) w λm7 w=>
  aA pg (aF 47 m7 m6) w λ_u w=>
  aA pg (aB 49 nG) w λm8 w=>
  aA pg (aE .eql 31 (.tmp 89) (.tmp 90) l4 m3) w λn1 w=>
  aA pg (aF 49 b8 m8) w λ_u w=>
  kD pg 49 b8 w λr0=>R (.tuple #[r0,n1]) w)
def KQ(R:K1) nG rQ b8 w:=
 aA pg (aD 49 nG 0) w λn4 w=>
 aA pg (aB 34 n4) w λn5 w=>
 aA pg (aD 54 rQ 5) w λn6 w=>
 aA pg (aB 3 n6) w λn7 w=>
 aA pg (aE .and 3 aM aM n7 (aLY 15)) w λn8 w=>
 aG pg yN #[n5,n8] w λn9 w=>
 aA pg (aD 54 rQ 5) w λo0 w=>
 aA pg (aB 3 o0) w λo1 w=>
 aA pg (aE .and 3 aM aM o1 (aLY 15)) w λo2 w=>
 aA pg (aD 49 nG 2) w λo3 w=>
 aA pg (aD 40 o3 3) w λo4 w=>
 aA pg (aF 3 o4 o2) w λ_u w=>
 aA pg (aB 49 nG) w λo5 w=>
 aA pg (aF 49 b8 o5) w λ_u w=>
 kD pg 49 b8 w λr0=>R (.tuple #[r0,(.bool true)]) w
def KR(R:K1) nG G1 rQ b8 w:=
 aA pg (aD 49 nG 0) w λo8 w=>
 aA pg (aB 34 o8) w λo9 w=>
 aA pg (aD 54 rQ 4) w λp0 w=>
 aA pg (aB 45 p0) w λp1 w=>
 aG pg vI #[o9,p1] w λp2 w=>
 aA pg (aD 49 nG 2) w λp3 w=>
 aA pg (aB 40 p3) w λp4 w=>
 aA pg (aD 54 rQ 4) w λp5 w=>
 aA pg (aB 45 p5) w λp6 w=>
 aG pg Ai #[p4,p6] w λp7 w=>
 aA pg (aD 49 nG 2) w λp8 w=>
 aA pg (aF 40 p8 p7) w λ_u w=>
 aA pg (aB 49 nG) w λp9 w=>
 aA pg (aB 30 G1) w λq0 w=>
 aG pg dF #[p9,q0] w λq1 w=>
 aA pg (aP q1 0) w λq2 w=>
 aA pg (aP q1 1) w λq3 w=>
 aA pg (aF 49 b8 q2) w λ_u w=>
 kD pg 49 b8 w λr0=>R (.tuple #[r0,q3]) w
def EK(R:K1) nG b8 aIX uE aI0 w:=
 aA pg (aB 40 uE) w λv1 w=>
 aA pg (aD 49 nG 2) w λv2 w=>
 aA pg (aF 40 v2 v1) w λ_u w=>
 aA pg (aB 49 nG) w λv3 w=>
 aA pg (aE .eql 31 (.tmp 154) (.tmp 155) aIX aI0) w λv6 w=>
 aA pg (aF 49 b8 v3) w λ_u w=>
 kD pg 49 b8 w λr0=>R (.tuple #[r0,v6]) w
def Uo(kn:K5) nG rQ b8 w:=
 aA pg (aD 49 nG 0) (dr w) λq6 w_=>w_=(dr w)/\
 aA pg (aB 34 q6) (dr w) λq7 w_=>w_=(dr w)/\
 aA pg (aD 54 rQ 6) (dr w) λq8 w_=>w_=(dr w)/\
 aA pg (aB 5 q8) (dr w) λq9 w_=>w_=(dr w)/\
 aG pg pF #[q9] (dr w) λs0 SZ=>
 (aO pg (aB 34 q6) q7 SZ/\aO pg (aD 49 nG 0) q6 SZ/\True)/\
 aA pg (aD 54 rQ 7) SZ λs1 w_=>w_=SZ/\
 (aO pg (aD 54 rQ 7) s1 (dr w)/\True)/\
 aA pg (aB 3 s1) SZ λs2 w_=>w_=SZ/\
 (aO pg (aB 3 s1) s2 (dr w)/\True)/\
 aA pg (aD 54 rQ 2) SZ λs3 w_=>w_=SZ/\
 (aO pg (aD 54 rQ 2) s3 (dr w)/\True)/\
 aA pg (aB 22 s3) SZ λs4 w_=>w_=SZ/\
 (aO pg (aB 22 s3) s4 (dr w)/\True)/\
 aG pg gA #[q7,s0,s2,s4] SZ λs5 fU=>
 fU=fU/\
 Ord (P2 yP 31 (vT 31 AI) 4 15 fU)
  (Ord (P2 yP 31 (vT 31 AI) 11 15 fU)
   (aA pg (aD 49 nG 2) (dr fU) λs7 w_=>w_=(dr fU)/\
   aA pg (aB 40 s7) (dr fU) λs8 w_=>w_=(dr fU)/\
   aA pg (aD 54 rQ 6) (dr fU) λs9 w_=>w_=(dr fU)/\
   aA pg (aB 5 s9) (dr fU) λu0 w_=>w_=(dr fU)/\
   aG pg pF #[u0] (dr fU) λu1 nE=>
   (aO pg (aB 40 s7) s8 nE/\aO pg (aD 49 nG 2) s7 nE/\True)/\
   aA pg (aD 54 rQ 7) nE λu2 w_=>w_=nE/\
   (aO pg (aD 54 rQ 7) u2 (dr fU)/\True)/\
   aA pg (aB 3 u2) nE λu3 w_=>w_=nE/\
   (aO pg (aB 3 u2) u3 (dr fU)/\True)/\
   aA pg (aD 54 rQ 2) nE λu4 w_=>w_=nE/\
   (aO pg (aD 54 rQ 2) u4 (dr fU)/\True)/\
   aA pg (aB 22 u4) nE λu5 w_=>w_=nE/\
   (aO pg (aB 22 u4) u5 (dr fU)/\True)/\
   aA pg (cJ 22 9 u5) nE λu6 w_=>w_=nE/\
   (aO pg (cJ 22 9 u5) u6 (dr fU)/\True)/\
   aA pg (bV 96 [(1,u1),(3,u3),(4,u6)]) nE λu7 w_=>w_=nE/\
   aG pg gX #[s8,u7] nE λu8 yJ=>
   yJ=yJ/\
   aA pg (aP u8 0) yJ λu9 w_=>w_=yJ/\
   aA pg (aP u8 1) yJ λv0 w_=>w_=yJ/\
   aA pg (bE 40) yJ λuE azQ=>
   (aO pg (aP u8 1) v0 azQ/\aO pg (aP u8 0) u9 azQ/\True)/\
   aA pg (aF 40 uE u9) azQ λ_u16 Dg=>
   (aO pg (aP u8 1) v0 Dg/\True)/\
   Dg=Dg/\
   kn nG b8 s5 uE v0 Dg)
   (aA pg (aD 49 nG 2) (dr fU) λs7 w_=>w_=(dr fU)/\
   aA pg (aB 40 s7) (dr fU) λs8 w_=>w_=(dr fU)/\
   aA pg (aD 54 rQ 6) (dr fU) λs9 w_=>w_=(dr fU)/\
   aA pg (aB 5 s9) (dr fU) λu0 w_=>w_=(dr fU)/\
   aG pg pF #[u0] (dr fU) λu1 nE=>
   (aO pg (aB 40 s7) s8 nE/\aO pg (aD 49 nG 2) s7 nE/\True)/\
   aA pg (aD 54 rQ 7) nE λu2 w_=>w_=nE/\
   (aO pg (aD 54 rQ 7) u2 (dr fU)/\True)/\
   aA pg (aB 3 u2) nE λu3 w_=>w_=nE/\
   (aO pg (aB 3 u2) u3 (dr fU)/\True)/\
   aA pg (aD 54 rQ 2) nE λu4 w_=>w_=nE/\
   (aO pg (aD 54 rQ 2) u4 (dr fU)/\True)/\
   aA pg (aB 22 u4) nE λu5 w_=>w_=nE/\
   (aO pg (aB 22 u4) u5 (dr fU)/\True)/\
   aA pg (cJ 22 9 u5) nE λu6 w_=>w_=nE/\
   (aO pg (cJ 22 9 u5) u6 (dr fU)/\True)/\
   aA pg (bV 96 [(1,u1),(3,u3),(4,u6)]) nE λu7 w_=>w_=nE/\
   aA pg (bE 40) nE λuE yJ=>
   (aO pg (bV 96 [(1,u1),(3,u3),(4,u6)]) u7 yJ/\aO pg (cJ 22 9 u5) u6 yJ/\aO pg (aB 22 u4) u5 yJ/\aO pg (aD 54 rQ 2) u4 yJ/\aO pg (aB 3 u2) u3 yJ/\aO pg (aD 54 rQ 7) u2 yJ/\aO pg (aB 40 s7) s8 yJ/\aO pg (aD 49 nG 2) s7 yJ/\True)/\
   aG pg gX #[s8,u7] yJ λu8 BE=>
   BE=BE/\
   aA pg (aP u8 0) BE λu9 w_=>w_=BE/\
   aA pg (aP u8 1) BE λv0 w_=>w_=BE/\
   aA pg (aF 40 uE u9) BE λ_u16 Dg=>
   (aO pg (aP u8 1) v0 Dg/\True)/\
   Dg=Dg/\
   kn nG b8 s5 uE v0 Dg))
  (aA pg (aD 49 nG 2) (dr fU) λs7 w_=>w_=(dr fU)/\
  aA pg (aB 40 s7) (dr fU) λs8 w_=>w_=(dr fU)/\
  aA pg (aD 54 rQ 6) (dr fU) λs9 w_=>w_=(dr fU)/\
  aA pg (aB 5 s9) (dr fU) λu0 w_=>w_=(dr fU)/\
  aA pg (aD 54 rQ 7) (dr fU) λu2 w_=>w_=(dr fU)/\
  aA pg (aB 3 u2) (dr fU) λu3 w_=>w_=(dr fU)/\
  aA pg (aD 54 rQ 2) (dr fU) λu4 w_=>w_=(dr fU)/\
  aA pg (aB 22 u4) (dr fU) λu5 w_=>w_=(dr fU)/\
  aA pg (cJ 22 9 u5) (dr fU) λu6 w_=>w_=(dr fU)/\
  aA pg (bE 40) (dr fU) λuE U5=>
  (aO pg (cJ 22 9 u5) u6 U5/\aO pg (aB 22 u4) u5 U5/\aO pg (aD 54 rQ 2) u4 U5/\aO pg (aB 3 u2) u3 U5/\aO pg (aD 54 rQ 7) u2 U5/\aO pg (aB 5 s9) u0 U5/\aO pg (aD 54 rQ 6) s9 U5/\aO pg (aB 40 s7) s8 U5/\aO pg (aD 49 nG 2) s7 U5/\True)/\
  aG pg pF #[u0] U5 λu1 LF=>
  (aO pg (cJ 22 9 u5) u6 LF/\aO pg (aB 22 u4) u5 LF/\aO pg (aD 54 rQ 2) u4 LF/\aO pg (aB 3 u2) u3 LF/\aO pg (aD 54 rQ 7) u2 LF/\aO pg (aB 40 s7) s8 LF/\aO pg (aD 49 nG 2) s7 LF/\True)/\
  aA pg (bV 96 [(1,u1),(3,u3),(4,u6)]) LF λu7 w_=>w_=LF/\
  aG pg gX #[s8,u7] LF λu8 BE=>
  BE=BE/\
  aA pg (aP u8 0) BE λu9 w_=>w_=BE/\
  aA pg (aP u8 1) BE λv0 w_=>w_=BE/\
  aA pg (aF 40 uE u9) BE λ_u16 Dg=>
  (aO pg (aP u8 1) v0 Dg/\True)/\
  Dg=Dg/\
  kn nG b8 s5 uE v0 Dg)
def KS(R:K1) nG rQ b8 w:=
 Uo (EK R) nG rQ b8 w
def Up(kn:K3) nG G1 b8 w:=
 kn nG G1 b8 w
def Ib(kn:K3)(R:K1) nG G1 rQ b8 q4 w:=
 cP q4 (KS R nG rQ b8 w) (Up kn nG G1 b8 w)
def Rk(kn:K5) nG G1 rQ b8 d4 w:=
 aA pg (aE .eql 3 (.tmp 24) (.const (aLY 6)) d4 (aLY 6)) w λq5 w=>
 kn nG G1 rQ b8 q5 w
def Rl(kn:K3)(R:K1) nG G1 rQ b8 d4 w:=
 Rk (Ib kn R) nG G1 rQ b8 d4 w
def Ic(kn:K3)(R:K1) nG G1 rQ b8 d4 o6 w:=
 cP o6 (KR R nG G1 rQ b8 w) (Rl kn R nG G1 rQ b8 d4 w)
def Rm(kn:K6) nG G1 rQ b8 d4 w:=
 aA pg (aE .eql 3 (.tmp 24) (.const (aLY 5)) d4 (aLY 5)) w λo7 w=>
 kn nG G1 rQ b8 d4 o7 w
def Rn(kn:K3)(R:K1) nG G1 rQ b8 d4 w:=
 Rm (Ic kn R) nG G1 rQ b8 d4 w
def Ie(kn:K3)(R:K1) nG G1 rQ b8 d4 n2 w:=
 cP n2 (KQ R nG rQ b8 w) (Rn kn R nG G1 rQ b8 d4 w)
def Ro(kn:K6) nG G1 rQ b8 d4 w:=
 aA pg (aE .eql 3 (.tmp 24) (.const (aLY 4)) d4 (aLY 4)) w λn3 w=>
 kn nG G1 rQ b8 d4 n3 w
def Rp(kn:K3)(R:K1) nG G1 rQ b8 d4 w:=
 Ro (Ie kn R) nG G1 rQ b8 d4 w
def Ig(kn:K3)(R:K1) nG G1 rQ b8 d4 j6 w:=
 cP j6 (KP R nG b8 w) (Rp kn R nG G1 rQ b8 d4 w)
def Rq(kn:K6) nG G1 rQ b8 d4 w:=
 aA pg (aE .eql 3 (.tmp 24) (.const (aLY 3)) d4 (aLY 3)) w λj7 w=>
 kn nG G1 rQ b8 d4 j7 w
def Rr(kn:K3)(R:K1) nG G1 rQ b8 d4 w:=
 Rq (Ig kn R) nG G1 rQ b8 d4 w
def qZ(kn:K3)(R:K1) tC nG G1 rQ b8 d4 d5 w:=
 cP d5 (KO R tC nG G1 rQ b8 w) (Rr kn R nG G1 rQ b8 d4 w)
def Rs(kn:K7) tC nG G1 rQ b8 d4 w:=
 aA pg (aE .eql 3 (.tmp 24) (.const (aLY 0)) d4 (aLY 0)) w λd6 w=>
 cP d6
  (kn tC nG G1 rQ b8 d4 d6 w)
  (aA pg (aE .eql 3 (.tmp 24) (.const (aLY 1)) d4 (aLY 1)) w λd7 w=>
  cP d7
   (kn tC nG G1 rQ b8 d4 d7 w)
   (aA pg (aE .eql 3 (.tmp 24) (.const (aLY 2)) d4 (aLY 2)) w λd8 w=>
   kn tC nG G1 rQ b8 d4 d8 w))
def Ih(kn:K3)(R:K1) tC nG G1 rQ b8 d4 w:=
 Rs (qZ kn R) tC nG G1 rQ b8 d4 w
def Rt(kn:K6) tC nG G1 rQ b8 w:=
 aA pg (aD 54 rQ 0) w λd2 w=>
 aA pg (aB 3 d2) w λd3 w=>
 aA pg (aE .and 3 aM aM d3 (aLY 7)) w λd4 w=>
 kn tC nG G1 rQ b8 d4 w
def Ii(kn:K3)(R:K1) tC nG G1 rQ b8 w:=
 Rt (Ih kn R) tC nG G1 rQ b8 w
def Ij(R:K1) tC nG G1 rQ b8 w:=
 Ii (EJ R) R tC nG G1 rQ b8 w
theorem WC(kn:K3)(R:K1)(hn:N3 Q kn 4 6 8)(hr:HR UT R Q)(h:Ii kn R (g 1) (g 4) (g 6) (g 7) (g 8) w):dM pg QC (bK 1 (aN 1 AI)) Q g w:=
 dN 1 (iK (Mq6 (Ih kn R) 1 4 6 7 8 24) h (λg w h=>aJ (A7 0 (dN 1 (iK (Mq7 (qZ kn R) 1 4 6 7 8 24 25) h (λg w h=>aJ (cdD (.tmp 25) (λh=>(jP h hr)) (λh=>(dN 1 (iK (Mq6 (Ig kn R) 4 6 7 8 24 66) h (λg w h=>aJ (cdD (.tmp 66) (λh=>(jP h hr)) (λh=>(dN 1 (iK (Mq6 (Ie kn R) 4 6 7 8 24 92) h (λg w h=>aJ (cdD (.tmp 92) (λh=>(jP h hr)) (λh=>(dN 1 (iK (Mq6 (Ic kn R) 4 6 7 8 24 106) h (λg w h=>aJ (cdD (.tmp 106) (λh=>(jP h hr)) (λh=>(dN 1 (iK (YG (Ib kn R) 4 6 7 8 124) h (λg w h=>aJ (cdD (.tmp 124) (λh=>(dN 2 (iK (YG (EK R) 4 8 19 20 21) h (λg w h=>aJ (jP h hr))))) (λh=>(iK _ h hn)) h))))) h))))) h))))) h))))) h)))))))
def Ru(kn:K5) p_0 tC MX a_3 w:=
 aA pg (iX 49 p_0) w λnG w=>
 aA pg (iX 30 MX) w λG1 w=>
 aA pg (iX 54 a_3) w λrQ w=>
 aA pg (bE 49) w λb8 w=>
 kn tC nG G1 rQ b8 w
def Rv(R:K1) p_0 tC MX a_3 w:=
 Ru (Ij R) p_0 tC MX a_3 w
def ahK a0 a1 a2 a3 w(R:K1):=
 Rv R a0 a1 a2 a3 w
theorem acT{a0 a1 a2 a3 w R}(h:ahK a0 a1 a2 a3 w R):aG pg yP #[a0,a1,a2,a3] w R:=
 jF (ann:=QC) Tryz.f10 AI [a0,a1,a2,a3] UT 162 TryzM.mixed Tryz.func10 (dN 1 (iK (YG (Ij R) 1 4 6 7 8) h (λg w h=>aJ (dN 1 (WC _ g w (EJ R) R (λg w h=>aJ (jP h dE)) dE h)))))
def HL:FA:=⟨sK,λi=>match Nat.beq i 28 with|true=> .leaf ([12],[]) (fz 12 (ft [] []))|false=> .leaf ([],[]) []⟩
def UW:List ResultVar:=[.tmp 6,.tmp 7]
noncomputable def F5:Code:=bA Tryz.f11
def EY(R:K1) fG Bt w:=
 aG pg dQ #[fG] w λv4 w=>
 aA pg (aE .neq 31 (.tmp 155) (.const (aLY 0)) v4 (aLY 0)) w λv6 w=>
 cP v6
  (R (.tuple #[(.pointer none),v4]) w)
  (R (.tuple #[Bt,(aLY 0)]) w)
def LA(kn:K7) fG LG Bt aeV q4 q5 q6 w:=
 aA pg (aE .add 3 aM aM q6 (aLY 1)) w λv2 w=>
 kn fG LG Bt aeV q4 q5 v2 w
def U1 (kn:K7)(k1:K2) fG LG Bt aeV q4 q5 q6 w:=
 aA pg (aE .lss 3 aM aM q6 q5) w λq7 w=>
 cP q7
  (aA pg (aR 104 q4 q6) w λq8 w=>
  aA pg (aB 109 q8) w λq9 w=>
  aA pg (bE 109) w λaDO w=>
  aA pg (aF 109 aDO q9) w λ_u w=>
  aA pg (aD 109 aDO 0) w λs0 w=>
  aA pg (aB 5 s0) w λs1 w=>
  aA pg (aE .eql 5 (.tmp 131) (.const (.int .u8 2)) s1 (.int .u8 2)) w λs2 w=>
  Gd (bG s2 true) (λK=>aA pg (aD 109 aDO 1) w K) w λs4 w=>
  Gd (bG s2 true) (λK=>aA pg (aB 26 s4) w K) w λs5 w=>
  Gd (bG s2 true) (λK=>K LG w) w λs6 w=>
  Gd (bG s2 true) (λK=>aA pg (cJ 3 26 s6) w K) w λs7 w=>
  Gd (bG s2 true) (λK=>aA pg (aE .lss 26 aM aM s5 s7) w K) w λs8 w=>
  aA pg (cG s2 s8 (.bool false)) w λs9 w=>
  cP s9
   ((dr w)=(dr w)/\
   aA pg (cL Bt) (dr w) λu1 w_=>w_=(dr w)/\
   aA pg (aD 99 u1 4) (dr w) λu2 w_=>w_=(dr w)/\
   aA pg (aB 45 u2) (dr w) λu3 w_=>w_=(dr w)/\
   aA pg (aD 109 aDO 1) (dr w) λu4 w_=>w_=(dr w)/\
   aA pg (aB 26 u4) (dr w) λu5 w_=>w_=(dr w)/\
   (dr w)=(dr w)/\
   aA pg (aD 109 aDO 1) (dr w) λu7 w_=>w_=(dr w)/\
   aA pg (aB 26 u7) (dr w) λu8 w_=>w_=(dr w)/\
   aA pg (aR 45 aeV u8) (dr w) λu9 w_=>w_=(dr w)/\
   aA pg (aB 4 u9) (dr w) λv0 w_=>w_=(dr w)/\
   aA pg (aR 45 u3 u5) (dr w) λv1 w_=>w_=(dr w)/\
   aA pg (aF 4 v1 v0) (dr w) λ_u12 aHp=>
   kn fG LG Bt aeV q4 q5 q6 aHp)
   (kn fG LG Bt aeV q4 q5 q6 w))
  (k1 fG Bt w)
def LB(kn:K7)(k1:K2) fG LG Bt aeV q4 q5 q6 w:=
 U1 (LA kn) k1 fG LG Bt aeV q4 q5 q6 w
def EZ(k1:K2) fG LG Bt aeV q4 q5 q6 w:=
 bM (λ(X:aLX->K0) (t:aLX) (w:aLW)=>LB (λ_ _ _ _ _ _ q6 w=>X q6 w) k1 fG LG Bt aeV q4 q5 t w) q6 w
theorem Z4 (k1:K2)(h1:E2 Q k1 1 0 10)(h:EZ k1 (g 0) (g 8) (g 10) (g 16) (g 124) (g 125) (g 126) w):dM pg HL (bI (aN 5 (cT (aN 1 (bK 1 (aN 12 F5)))))) Q g w:=by
 refine EN (λg:Env=>g 126) (λX t w=>LB (λ_ _ _ _ _ _ q6 w=>X q6 w) k1 (g 0) (g 8) (g 10) (g 16) (g 124) (g 125) t w) h (λX g1 w1 ha hL=> ?_)
 rw[<-eZ 0 ha,<-eZ 8 ha,<-eZ 10 ha,<-eZ 16 ha,<-eZ 124 ha,<-eZ 125 ha]at hL
 exact(dN 3 (DT [(1,(Qq k1 0 10))] (kr:=no) (Mq7 (LA (λ_ _ _ _ _ _ q6 w=>X q6 w)) 0 8 10 16 124 125 126) hL (λg w h=>aJ (iK (Mq7 (λ_ _ _ _ _ _ q6 w=>X q6 w) 0 8 10 16 124 125 126) h dE)) Jx ⟨h1,trivial⟩))
def U2 (kn:K7)(R:K1) fG LG Bt acR w:=
 aG pg oZ #[Bt] w λp0 w=>
 aA pg (aP p0 0) w λp1 w=>
 aA pg (aP p0 1) w λp2 w=>
 aA pg (aE .neq 31 (.tmp 113) (.const (aLY 0)) p2 (aLY 0)) w λp4 w=>
 cP p4
  (R (.tuple #[(.pointer none),p2]) w)
  (aA pg (xP 45 LG LG) w λp8 w=>
  aA pg (cL Bt) w λp9 w=>
  aA pg (aD 99 p9 4) w λq0 w=>
  aA pg (aF 45 q0 p8) w λ_u w=>
  aG pg iN #[Bt,p1] w λq3 w=>
  aA pg (eI .len #[104] 3 [acR]) w λq5 w=>
  kn fG LG Bt q3 acR q5 (aLY 0) w)
def U3 (kn:K2)(R:K1) fG LG Bt acR w:=
 U2 (EZ kn) R fG LG Bt acR w
def U4 (kn:K2) fG Bt w:=
 kn fG Bt w
def Jd(kn:K2)(R:K1) fG LG Bt acR o7 w:=
 cP o7 (U3 kn R fG LG Bt acR w) (U4 kn fG Bt w)
def SO(kn:K5) fG LG Bt acR w:=
 aA pg (cL Bt) w λo4 w=>
 aA pg (aD 99 o4 6) w λo5 w=>
 aA pg (aB 4 o5) w λo6 w=>
 aA pg (GI .not o6) w λo7 w=>
 kn fG LG Bt acR o7 w
def Je(kn:K2)(R:K1) fG LG Bt acR w:=
 SO (Jd kn R) fG LG Bt acR w
def yF(R:K1) fG LG Bt acR w:=
 Je (EY R) R fG LG Bt acR w
theorem Yv(kn:K2)(R:K1)(hn:N2 Q kn 0 10)(hr:HR UW R Q)(h:Je kn R (g 0) (g 8) (g 10) (g 13) w):dM pg HL (bK 1 (aN 12 F5)) Q g w:=
 dN 1 (iK (YG (Jd kn R) 0 8 10 13 107) h (λg w h=>aJ (cdD (.tmp 107) (λh=>(dN 5 (Ui (Mq7 (EZ kn) 0 8 10 16 124 125 126) h (λg w h=>aJ (A7 1 (Z4 _ g w kn hn h))) hr))) (λh=>(iK _ h hn)) h)))
def SP(kn:K4)(R:K1) fG cR MX w:=
 aA pg (iX 30 MX) w λIw w=>
 aA pg (aE .eql 34 (.tmp 20) (.const (.pointer none)) fG (.pointer none)) w λd1 w=>
 Gd (bG d1 false) (λK=>K cR w) w λd3 w=>
 Gd (bG d1 false) (λK=>aA pg (eI .len #[9] 3 [d3]) w K) w λd4 w=>
 Gd (bG d1 false) (λK=>aA pg (aE .lss 3 aM aM d4 (aLY 1)) w K) w λd5 w=>
 aA pg (cG d1 (.bool true) d5) w λd6 w=>
 Gd (bG d6 false) (λK=>K cR w) w λd8 w=>
 Gd (bG d6 false) (λK=>aA pg (eI .len #[9] 3 [d8]) w K) w λd9 w=>
 Gd (bG d6 false) (λK=>aA pg (aE .gtr 3 aM aM d9 (aLY 27)) w K) w λe0 w=>
 aA pg (cG d6 (.bool true) e0) w λe1 w=>
 cP e1
  (R (.tuple #[(.pointer none),(aLY 1)]) w)
  (aA pg (aD 30 Iw 0) w λe3 w=>
  aA pg (aB 26 e3) w λe4 w=>
  aA pg (aD 30 Iw 1) w λe5 w=>
  aA pg (aB 27 e5) w λe6 w=>
  aA pg (cJ 27 3 e6) w λe7 w=>
  aG pg uF #[e4,e7] w λe8 w=>
  aA pg (aP e8 0) w λe9 w=>
  aA pg (aP e8 1) w λf0 w=>
  aA pg (aE .neq 31 (.tmp 42) (.const (aLY 0)) f0 (aLY 0)) w λf3 w=>
  cP f3
   (R (.tuple #[(.pointer none),f0]) w)
   (aA pg (aD 30 Iw 2) w λf7 w=>
   aA pg (aB 28 f7) w λf8 w=>
   aA pg (eI .len #[28] 3 [f8]) w λf9 w=>
   aA pg (aE .neq 3 (.tmp 46) (.tmp 49) e9 f9) w λi0 w=>
   cP i0
    (R (.tuple #[(.pointer none),(aLY 11)]) w)
    (aA pg (aD 30 Iw 2) w λi1 w=>
    aA pg (aB 28 i1) w λi2 w=>
    aG pg pZ #[i2] w λi3 w=>
    aA pg (aD 30 Iw 2) w λi4 w=>
    aA pg (aF 28 i4 i3) w λ_u w=>
    aA pg (aB 30 Iw) w λi7 w=>
    aA pg (bV 99 [(0,fG),(1,cR),(2,i7)]) w λi8 w=>
    aA pg (iX 99 i8) w λi9 w=>
    aG pg jW #[i9,cR] w λj3 w=>
    aA pg (aP j3 0) w λj4 w=>
    aA pg (aP j3 1) w λj5 w=>
    aA pg (aP j3 2) w λj6 w=>
    aA pg (aE .neq 31 (.tmp 67) (.const (aLY 0)) j6 (aLY 0)) w λj8 w=>
    cP j8
     (R (.tuple #[(.pointer none),j6]) w)
     (aG pg iN #[i9,j4] w λl3 w=>
     aA pg (cL i9) w λl4 w=>
     aA pg (aD 99 l4 4) w λl5 w=>
     aA pg (aF 45 l5 l3) w λ_u w=>
     Gd (bG j5 true) (λK=>K j4 w) w λl9 w=>
     Gd (bG j5 true) (λK=>aA pg (eI .len #[22] 3 [l9]) w K) w λm0 w=>
     Gd (bG j5 true) (λK=>aA pg (cJ 3 26 m0) w K) w λm1 w=>
     Gd (bG j5 true) (λK=>aA pg (aD 30 Iw 0) w K) w λm2 w=>
     Gd (bG j5 true) (λK=>aA pg (aB 26 m2) w K) w λm3 w=>
     Gd (bG j5 true) (λK=>aA pg (aE .eql 26 (.tmp 81) (.tmp 83) m1 m3) w K) w λm4 w=>
     aA pg (cG j5 m4 (.bool false)) w λm5 w=>
     Gd (bG m5 true) (λK=>K i9 w) w λm7 w=>
     Gd (bG m5 true) (λK=>aA pg (cL m7) w K) w λm8 w=>
     Gd (bG m5 true) (λK=>aA pg (aD 99 m8 4) w K) w λm9 w=>
     Gd (bG m5 true) (λK=>aA pg (aB 45 m9) w K) w λn0 w=>
     Gd (bG m5 true) (λK=>aG pg BI #[n0] w K) w λn1 w=>
     aA pg (cG m5 n1 (.bool false)) w λn2 w=>
     aA pg (cL i9) w λn3 w=>
     aA pg (aD 99 n3 6) w λn4 w=>
     aA pg (aF 4 n4 n2) w λ_u w=>
     aG pg kK #[i9] w λn7 w=>
     aA pg (aP n7 0) w λn8 w=>
     aA pg (aP n7 1) w λn9 w=>
     aA pg (aE .neq 31 (.tmp 100) (.const (aLY 0)) n9 (aLY 0)) w λo1 w=>
     cP o1
      (R (.tuple #[(.pointer none),n9]) w)
      (kn fG e9 i9 n8 w)))))
def SQ(R:K1) fG cR MX w:=
 SP (yF R) R fG cR MX w
def akN a0 a1 a2 w(R:K1):=
 SQ R a0 a1 a2 w
theorem aeU{a0 a1 a2 w R}(h:akN a0 a1 a2 w R):aG pg sK #[a0,a1,a2] w R:=
 jF (ann:=HL) Tryz.f11 F5 [a0,a1,a2] UW 159 TryzM.mixed Tryz.func11 (dN 12 (Ui (Ch (yF R) 0 8 10 13) h (λg w h=>aJ (dN 1 (Yv _ g w (EY R) R (λg w h=>aJ (jP h dE)) dE h))) dE))
def Tw:FA:=⟨eD,λi=>match Nat.beq i 3 with|true=> .leaf ([],[]) (fz 12 [])|false=>match Nat.beq i 5 with|true=> .leaf ([],[]) (fz 14 [])|false=>match Nat.beq i 9 with|true=> .split 12 17 (.perm [0,1,2,3,4,5,6,7,8,9,10,11,12,13,14,15,16,17,18,19,20] [(12,17)] ([12,17,18],[(14,17),(15,17),(15,18),(16,17),(16,18)]) (fz 12 (ft [] (fz 4 (ft [0,1,2] (ft [1,2] (fz 2 []))))))) (.perm [0,1,2,3,4,5,6,7,8,9,10,11,17,12,13,14,15,16,18,19,20] [(17,12)] ([12,13,18],[(0,12),(1,12),(2,12),(3,12),(4,12),(5,12),(6,12),(7,12),(8,12),(9,12),(10,12),(11,12),(16,18),(17,18)]) (fz 12 (ft [0,1,2,3,4,5,6,7,8,9,10,11] (ft [] (fz 4 (ft [0,1] (fz 2 [])))))))|false=>match Nat.beq i 10 with|true=> .leaf ([13,14,17],[(0,13),(0,14)]) (fz 13 (ft [12] (ft [13] (fz 2 (ft [] [])))))|false=>match Nat.beq i 11 with|true=> .leaf ([11],[]) (fz 11 (ft [] []))|false=> .leaf ([],[]) []⟩
def VJ:List ResultVar:=[.tmp 6]
noncomputable def Fe:Code:=bA Tryz.f12
def nC(R:K1) Ay uS b_5 apE w:=
 aA pg (aB 43 Ay) (dr w) λj5 w_=>w_=(dr w)/\
 aA pg (Pf (.func 45) [] [Ay,apE,b_5]) (dr w) λj6 w_=>w_=(dr w)/\
 aA pg (aB 43 Ay) (dr w) λj7 w_=>w_=(dr w)/\
 aA pg (cL j7) (dr w) λj8 w_=>w_=(dr w)/\
 aA pg (aD 99 j8 0) (dr w) λj9 w_=>w_=(dr w)/\
 aA pg (aB 34 j9) (dr w) λl0 w_=>w_=(dr w)/\
 aA pg (Pf (.func 42) [l0] []) (dr w) λl1 w_=>w_=(dr w)/\
 aA pg (Pf (.func 46) [] [Ay,uS]) (dr w) λl2 w_=>w_=(dr w)/\
 aA pg (aB 43 Ay) (dr w) λl3 w_=>w_=(dr w)/\
 aA pg (cL l3) (dr w) λl4 w_=>w_=(dr w)/\
 aA pg (aD 99 l4 0) (dr w) λl5 w_=>w_=(dr w)/\
 aA pg (aB 34 l5) (dr w) λl6 w_=>w_=(dr w)/\
 aA pg (Pf (.func 42) [l6] []) (dr w) λl7 w_=>w_=(dr w)/\
 aA pg (bB 151 4 [(0,j6),(1,l1),(2,l2),(3,l7)]) (dr w) λl8 aEr=>
 (aO pg (aB 43 Ay) j5 aEr/\True)/\
 aG pg Am #[l8] aEr λl9 Z7=>
 (aO pg (aB 43 Ay) j5 Z7/\True)/\
 aA pg (cL j5) Z7 λm0 w_=>w_=Z7/\
 aA pg (aD 99 m0 7) Z7 λm1 w_=>w_=Z7/\
 aA pg (aF 31 m1 l9) Z7 λ_u17 nD=>
 aA pg (aB 43 Ay) (dr nD) λm2 w_=>w_=(dr nD)/\
 aA pg (cL m2) (dr nD) λm3 w_=>w_=(dr nD)/\
 aA pg (aD 99 m3 4) (dr nD) λm4 w_=>w_=(dr nD)/\
 aA pg (aB 45 m4) (dr nD) λm5 w_=>w_=(dr nD)/\
 aA pg (aB 3 uS) (dr nD) λm6 w_=>w_=(dr nD)/\
 aA pg (aB 43 Ay) (dr nD) λm7 w_=>w_=(dr nD)/\
 aA pg (cL m7) (dr nD) λm8 w_=>w_=(dr nD)/\
 aA pg (aD 99 m8 7) (dr nD) λm9 w_=>w_=(dr nD)/\
 aA pg (aB 31 m9) (dr nD) λn0 w_=>w_=(dr nD)/\
 aA pg (aE .eql 31 (.tmp 90) (.const (aLY 0)) n0 (aLY 0)) (dr nD) λn1 w_=>w_=(dr nD)/\
 aA pg (aR 45 m5 m6) (dr nD) λn2 w_=>w_=(dr nD)/\
 aA pg (aF 4 n2 n1) (dr nD) λ_u11 akR=>
 aA pg (aB 43 Ay) akR λn3 w=>
 aA pg (cL n3) w λn4 w=>
 aA pg (aD 99 n4 7) w λn5 w=>
 aA pg (aB 31 n5) w λn6 w=>
 R n6 w
def Jh(kn:K4)(R:K1) eY i_1 rP w:=
 aA pg (iX 43 eY) w λAy w=>
 aA pg (iX 3 i_1) w λuS w=>
 aA pg (iX 22 rP) w λb_5 w=>
 aA pg (aB 43 Ay) w λc1 w=>
 aG pg gB #[c1] w λc2 w=>
 aA pg (aE .neq 31 (.tmp 12) (.const (aLY 0)) c2 (aLY 0)) w λc3 w=>
 cP c3
  (aA pg (aB 43 Ay) w λc4 w=>
  aG pg gB #[c4] w λc5 w=>
  R c5 w)
  (aA pg (aB 3 uS) (dr w) λc7 w_=>w_=(dr w)/\
  aA pg (aE .lss 3 aM aM c7 (aLY 0)) (dr w) λc8 w_=>w_=(dr w)/\
  (dr w)=(dr w)/\
  Gd (bG c8 false) (λK=>aA pg (aB 3 uS) (dr w) K) (dr w) λd0 w_=>w_=(dr w)/\
  Gd (bG c8 false) (λK=>aA pg (aB 43 Ay) (dr w) K) (dr w) λd1 w_=>w_=(dr w)/\
  Gd (bG c8 false) (λK=>aA pg (cL d1) (dr w) K) (dr w) λd2 w_=>w_=(dr w)/\
  Gd (bG c8 false) (λK=>aA pg (aD 99 d2 4) (dr w) K) (dr w) λd3 w_=>w_=(dr w)/\
  Gd (bG c8 false) (λK=>aA pg (aB 45 d3) (dr w) K) (dr w) λd4 w_=>w_=(dr w)/\
  Gd (bG c8 false) (λK=>aA pg (eI .len #[45] 3 [d4]) (dr w) K) (dr w) λd5 w_=>w_=(dr w)/\
  Gd (bG c8 false) (λK=>aA pg (aE .geq 3 aM aM d0 d5) (dr w) K) (dr w) λd6 w_=>w_=(dr w)/\
  aA pg (cG c8 (.bool true) d6) (dr w) λd7 w_=>w_=(dr w)/\
  (dr w)=(dr w)/\
  cP d7
   (R (aLY 17) (dr w))
   (aA pg (aB 43 Ay) (dr (dr w)) λd9 w_=>w_=(dr (dr w))/\
   aA pg (cL d9) (dr (dr w)) λe0 w_=>w_=(dr (dr w))/\
   aA pg (aD 99 e0 6) (dr (dr w)) λe1 w_=>w_=(dr (dr w))/\
   aA pg (aB 4 e1) (dr (dr w)) λe2 w_=>w_=(dr (dr w))/\
   (dr (dr w))=(dr (dr w))/\
   Gd (bG e2 false) (λK=>aA pg (aB 43 Ay) (dr (dr w)) K) (dr (dr w)) λe4 w_=>w_=(dr (dr w))/\
   Gd (bG e2 false) (λK=>aA pg (cL e4) (dr (dr w)) K) (dr (dr w)) λe5 w_=>w_=(dr (dr w))/\
   Gd (bG e2 false) (λK=>aA pg (aD 99 e5 4) (dr (dr w)) K) (dr (dr w)) λe6 w_=>w_=(dr (dr w))/\
   Gd (bG e2 false) (λK=>aA pg (aB 45 e6) (dr (dr w)) K) (dr (dr w)) λe7 w_=>w_=(dr (dr w))/\
   Gd (bG e2 false) (λK=>aA pg (aB 3 uS) (dr (dr w)) K) (dr (dr w)) λe8 w_=>w_=(dr (dr w))/\
   Gd (bG e2 false) (λK=>aA pg (aR 45 e7 e8) (dr (dr w)) K) (dr (dr w)) λe9 w_=>w_=(dr (dr w))/\
   Gd (bG e2 false) (λK=>aA pg (aB 4 e9) (dr (dr w)) K) (dr (dr w)) λf0 w_=>w_=(dr (dr w))/\
   aA pg (cG e2 (.bool true) f0) (dr (dr w)) λf1 w_=>w_=(dr (dr w))/\
   (dr (dr w))=(dr (dr w))/\
   cP f1
    (R (aLY 0) (dr (dr w)))
    (aA pg (aB 43 Ay) (dr (dr w)) λf3 w=>
    aA pg (aB 3 uS) w λf4 w=>
    aA pg (aB 22 b_5) w λf5 w=>
    aG pg lN #[f3,f4,f5] w λf6 w=>
    aA pg (GI .not f6) w λf7 w=>
    cP f7
     (R (aLY 13) w)
     (Ord (P2 eD 9 (vT 9 Fe) 12 17 w)
      (aA pg (aB 43 Ay) (dr w) λf9 w_=>w_=(dr w)/\
      aA pg (cL f9) (dr w) λi0 w_=>w_=(dr w)/\
      aA pg (aD 99 i0 2) (dr w) λi1 w_=>w_=(dr w)/\
      aA pg (aD 30 i1 0) (dr w) λi2 w_=>w_=(dr w)/\
      aA pg (aB 26 i2) (dr w) λi3 w_=>w_=(dr w)/\
      aA pg (aB 43 Ay) (dr w) λi4 w_=>w_=(dr w)/\
      aA pg (cL i4) (dr w) λi5 w_=>w_=(dr w)/\
      aA pg (aD 99 i5 2) (dr w) λi6 w_=>w_=(dr w)/\
      aA pg (aD 30 i6 1) (dr w) λi7 w_=>w_=(dr w)/\
      aA pg (aB 27 i7) (dr w) λi8 w_=>w_=(dr w)/\
      aA pg (cJ 27 3 i8) (dr w) λi9 w_=>w_=(dr w)/\
      aA pg (aB 3 uS) (dr w) λj0 w_=>w_=(dr w)/\
      aG pg oN #[i3,i9,j0] (dr w) λj1 yK=>
      yK=yK/\
      aA pg (aP j1 0) yK λj2 w_=>w_=yK/\
      aA pg (aP j1 1) yK λj3 w_=>w_=yK/\
      aA pg (aP j1 2) yK λj4 w_=>w_=yK/\
      aA pg (bE 26) yK λapE aA3=>
      (aO pg (aP j1 2) j4 aA3/\aO pg (aP j1 1) j3 aA3/\aO pg (aP j1 0) j2 aA3/\True)/\
      aA pg (aF 26 apE j2) aA3 λ_u18 Jv=>
      (aO pg (aP j1 2) j4 Jv/\aO pg (aP j1 1) j3 Jv/\True)/\
      Jv=Jv/\
      Jv=Jv/\
      kn Ay uS b_5 apE Jv)
      (aA pg (aB 43 Ay) (dr w) λf9 w_=>w_=(dr w)/\
      aA pg (cL f9) (dr w) λi0 w_=>w_=(dr w)/\
      aA pg (aD 99 i0 2) (dr w) λi1 w_=>w_=(dr w)/\
      aA pg (aD 30 i1 0) (dr w) λi2 w_=>w_=(dr w)/\
      aA pg (aB 26 i2) (dr w) λi3 w_=>w_=(dr w)/\
      aA pg (aB 43 Ay) (dr w) λi4 w_=>w_=(dr w)/\
      aA pg (cL i4) (dr w) λi5 w_=>w_=(dr w)/\
      aA pg (aD 99 i5 2) (dr w) λi6 w_=>w_=(dr w)/\
      aA pg (aD 30 i6 1) (dr w) λi7 w_=>w_=(dr w)/\
      aA pg (aB 27 i7) (dr w) λi8 w_=>w_=(dr w)/\
      aA pg (cJ 27 3 i8) (dr w) λi9 w_=>w_=(dr w)/\
      aA pg (aB 3 uS) (dr w) λj0 w_=>w_=(dr w)/\
      aA pg (bE 26) (dr w) λapE yK=>
      (aO pg (aB 3 uS) j0 yK/\aO pg (cJ 27 3 i8) i9 yK/\aO pg (aB 27 i7) i8 yK/\aO pg (aD 30 i6 1) i7 yK/\aO pg (aD 99 i5 2) i6 yK/\aO pg (cL i4) i5 yK/\aO pg (aB 43 Ay) i4 yK/\aO pg (aB 26 i2) i3 yK/\aO pg (aD 30 i1 0) i2 yK/\aO pg (aD 99 i0 2) i1 yK/\aO pg (cL f9) i0 yK/\aO pg (aB 43 Ay) f9 yK/\True)/\
      aG pg oN #[i3,i9,j0] yK λj1 YE=>
      YE=YE/\
      aA pg (aP j1 0) YE λj2 w_=>w_=YE/\
      aA pg (aP j1 1) YE λj3 w_=>w_=YE/\
      aA pg (aP j1 2) YE λj4 w_=>w_=YE/\
      aA pg (aF 26 apE j2) YE λ_u18 Jv=>
      (aO pg (aP j1 2) j4 Jv/\aO pg (aP j1 1) j3 Jv/\True)/\
      Jv=Jv/\
      Jv=Jv/\
      kn Ay uS b_5 apE Jv)))))
def Ji(R:K1) eY i_1 rP w:=
 Jh (nC R) R eY i_1 rP w
def Pn a0 a1 a2 w(R:K1):=
 Ji R a0 a1 a2 w
theorem SS{a0 a1 a2 w R}(h:Pn a0 a1 a2 w R):aG pg eD #[a0,a1,a2] w R:=
 jF (ann:=Tw) Tryz.f12 Fe [a0,a1,a2] VJ 97 TryzM.mixed Tryz.func12 (dN 3 (Ui (Ch (nC R) 3 4 5 7) h (λg w h=>aJ (jP h dE)) dE))
def M5:FA:=⟨gD,λi=>match Nat.beq i 7 with|true=> .leaf ([9],[]) (fz 9 (ft [] (fz 5 [])))|false=>match Nat.beq i 11 with|true=> .leaf ([3,6],[(0,3)]) (fz 3 (ft [2] (fz 2 (ft [] []))))|false=>match Nat.beq i 14 with|true=> .leaf ([7,8,11],[(0,7),(0,8)]) (fz 7 (ft [6] (ft [7] (fz 2 (ft [] [])))))|false=>match Nat.beq i 15 with|true=> .leaf ([8],[]) (fz 8 (ft [] []))|false=> .leaf ([],[]) []⟩
def P7:List ResultVar:=[.tmp 2]
noncomputable def LU:Code:=bA Tryz.f13
def Dv(R:K1) eY w:=
 aA pg (iX 43 eY) w λSG w=>
 aA pg (aB 43 SG) w λb6 w=>
 aG pg gB #[b6] w λb7 w=>
 aA pg (aE .neq 31 (.tmp 7) (.const (aLY 0)) b7 (aLY 0)) w λb8 w=>
 cP b8
  (aA pg (aB 43 SG) w λb9 w=>
  aG pg gB #[b9] w λc0 w=>
  R c0 w)
  (aA pg (aB 43 SG) w λc2 w=>
  aA pg (cL c2) w λc3 w=>
  aA pg (aD 99 c3 6) w λc4 w=>
  aA pg (aB 4 c4) w λc5 w=>
  cP c5
   (R (aLY 0) w)
   (aA pg (aB 43 SG) w λc7 w=>
   aA pg (cL c7) w λc8 w=>
   aA pg (aD 99 c8 4) w λc9 w=>
   aA pg (aB 45 c9) w λd0 w=>
   aG pg BI #[d0] w λd1 w=>
   aA pg (GI .not d1) w λd2 w=>
   cP d2
    (R (aLY 30) w)
    (aA pg (aB 43 SG) (dr w) λd4 w_=>w_=(dr w)/\
    aA pg (cL d4) (dr w) λd5 w_=>w_=(dr w)/\
    aA pg (aD 99 d5 0) (dr w) λd6 w_=>w_=(dr w)/\
    aA pg (aB 34 d6) (dr w) λd7 w_=>w_=(dr w)/\
    aA pg (aB 43 SG) (dr w) λd8 w_=>w_=(dr w)/\
    aA pg (cL d8) (dr w) λd9 w_=>w_=(dr w)/\
    aA pg (aD 99 d9 1) (dr w) λe0 w_=>w_=(dr w)/\
    aA pg (aB 9 e0) (dr w) λe1 w_=>w_=(dr w)/\
    aA pg (aE .add 9 aM aM e1 (.string ⟨#[46,112,97,114,116]⟩)) (dr w) λe2 w_=>w_=(dr w)/\
    aG pg gR #[d7,e2] (dr w) λe3 S9=>
    S9=S9/\
    aA pg (aP e3 0) S9 λe4 w_=>w_=S9/\
    aA pg (aP e3 1) S9 λe5 w_=>w_=S9/\
    S9=S9/\
    S9=S9/\
    aA pg (aE .neq 31 (.tmp 36) (.const (aLY 0)) e5 (aLY 0)) S9 λe7 w=>
    cP e7
     (aA pg (aB 43 SG) w λe8 w=>
     aA pg (cL e8) w λf0 w=>
     aA pg (aD 99 f0 7) w λf1 w=>
     aA pg (aF 31 f1 e5) w λ_u w=>
     R e5 w)
     (aA pg (aB 43 SG) (dr w) λf3 w_=>w_=(dr w)/\
     aA pg (aB 43 SG) (dr w) λf4 w_=>w_=(dr w)/\
     (dr w)=(dr w)/\
     aG pg iN #[f4,e4] (dr w) λf6 aoR=>
     (aO pg (aB 43 SG) f3 aoR/\True)/\
     aA pg (cL f3) aoR λf7 w_=>w_=aoR/\
     aA pg (aD 99 f7 4) aoR λf8 w_=>w_=aoR/\
     aA pg (aF 45 f8 f6) aoR λ_u6 aIb=>
     aA pg (aB 43 SG) aIb λf9 w=>
     aA pg (cL f9) w λi0 w=>
     aA pg (aD 99 i0 4) w λi1 w=>
     aA pg (aB 45 i1) w λi2 w=>
     aG pg BI #[i2] w λi3 w=>
     aA pg (GI .not i3) w λi4 w=>
     cP i4
      (R (aLY 13) w)
      (aA pg (aB 43 SG) (dr w) λi5 w_=>w_=(dr w)/\
      aA pg (Pf (.func 48) [] [SG]) (dr w) λi6 w_=>w_=(dr w)/\
      aA pg (aB 43 SG) (dr w) λi7 w_=>w_=(dr w)/\
      aA pg (cL i7) (dr w) λi8 w_=>w_=(dr w)/\
      aA pg (aD 99 i8 0) (dr w) λi9 w_=>w_=(dr w)/\
      aA pg (aB 34 i9) (dr w) λj0 w_=>w_=(dr w)/\
      aA pg (Pf (.func 42) [j0] []) (dr w) λj1 w_=>w_=(dr w)/\
      aA pg (bB 151 2 [(0,i6),(1,j1)]) (dr w) λj2 aGq=>
      (aO pg (aB 43 SG) i5 aGq/\True)/\
      aG pg Am #[j2] aGq λj3 aoS=>
      (aO pg (aB 43 SG) i5 aoS/\True)/\
      aA pg (cL i5) aoS λj4 w_=>w_=aoS/\
      aA pg (aD 99 j4 7) aoS λj5 w_=>w_=aoS/\
      aA pg (aF 31 j5 j3) aoS λ_u11 yI=>
      aA pg (aB 43 SG) (dr yI) λj6 w_=>w_=(dr yI)/\
      aA pg (aB 43 SG) (dr yI) λj7 w_=>w_=(dr yI)/\
      aA pg (cL j7) (dr yI) λj8 w_=>w_=(dr yI)/\
      aA pg (aD 99 j8 7) (dr yI) λj9 w_=>w_=(dr yI)/\
      aA pg (aB 31 j9) (dr yI) λl0 w_=>w_=(dr yI)/\
      aA pg (aE .eql 31 (.tmp 70) (.const (aLY 0)) l0 (aLY 0)) (dr yI) λl1 w_=>w_=(dr yI)/\
      aA pg (cL j6) (dr yI) λl2 w_=>w_=(dr yI)/\
      aA pg (aD 99 l2 6) (dr yI) λl3 w_=>w_=(dr yI)/\
      aA pg (aF 4 l3 l1) (dr yI) λ_u8 aIc=>
      aA pg (aB 43 SG) aIc λl4 w=>
      aA pg (cL l4) w λl5 w=>
      aA pg (aD 99 l5 7) w λl6 w=>
      aA pg (aB 31 l6) w λl7 w=>
      R l7 w)))))
def Jf a0 w(R:K1):=
 Dv R a0 w
theorem MO{a0 w R}(h:Jf a0 w R):aG pg gD #[a0] w R:=
 jF (ann:=M5) Tryz.f13 LU [a0] P7 78 TryzM.mixed Tryz.func13 (jP h dE)
def U9:FA:=⟨gR,λi=> .leaf ([],[]) []⟩
def Yh:List ResultVar:=[.tmp 4,.tmp 5]
noncomputable def TA:Code:=bA Tryz.f14
def JV(R:K1) fG cR w:=
 aG pg kJ #[fG] w λc0 w=>
 aA pg (aE .neq 31 (.tmp 11) (.const (aLY 0)) c0 (aLY 0)) w λc2 w=>
 cP c2
  (R (.tuple #[(.slice none 0 0),c0]) w)
  (aA pg (cL fG) w λc6 w=>
  aA pg (aD 76 c6 2) w λc7 w=>
  aA pg (aB 73 c7) w λc8 w=>
  aA pg (CT 73 c8 cR true) w λd0 w=>
  aA pg (aP d0 0) w λd1 w=>
  aA pg (aP d0 1) w λd2 w=>
  aA pg (GI .not d2) w λd4 w=>
  cP d4
   (R (.tuple #[(.slice none 0 0),(aLY 21)]) w)
   (aG pg fL #[d1] w λd6 w=>
   R (.tuple #[d6,(aLY 0)]) w))
def QX a0 a1 w(R:K1):=
 JV R a0 a1 w
theorem TH{a0 a1 w R}(h:QX a0 a1 w R):aG pg gR #[a0,a1] w R:=
 jF (ann:=U9) Tryz.f14 TA [a0,a1] Yh 27 TryzM.mixed Tryz.func14 (jP h dE)
def Pt:FA:=⟨jL,λi=> .leaf ([],[]) []⟩
def SC:List ResultVar:=[.tmp 2]
noncomputable def Ng:Code:=bA Tryz.f15
def FN(R:K1) eY w:=
 aA pg (aE .eql 43 (.tmp 3) (.const (.pointer none)) eY (.pointer none)) w λb4 w=>
 cP b4
  (R (.int .u64 0) w)
  (aA pg (cL eY) w λb6 w=>
  aA pg (aD 99 b6 3) w λb7 w=>
  aA pg (aB 26 b7) w λb8 w=>
  R b8 w)
def Kk a0 w(R:K1):=
 FN R a0 w
theorem OD{a0 w R}(h:Kk a0 w R):aG pg jL #[a0] w R:=
 jF (ann:=Pt) Tryz.f15 Ng [a0] SC 9 TryzM.mixed Tryz.func15 (jP h dE)
def QE:FA:=⟨jV,λi=> .leaf ([],[]) []⟩
def T0:List ResultVar:=[.tmp 2]
noncomputable def PD:Code:=bA Tryz.f16
def GM(R:K1) eY w:=
 aA pg (aE .neq 43 (.tmp 3) (.const (.pointer none)) eY (.pointer none)) w λb4 w=>
 Gd (bG b4 true) (λK=>K eY w) w λb6 w=>
 Gd (bG b4 true) (λK=>aA pg (cL b6) w K) w λb7 w=>
 Gd (bG b4 true) (λK=>aA pg (aD 99 b7 6) w K) w λb8 w=>
 Gd (bG b4 true) (λK=>aA pg (aB 4 b8) w K) w λb9 w=>
 aA pg (cG b4 b9 (.bool false)) w λc0 w=>
 R c0 w
def MP a0 w(R:K1):=
 GM R a0 w
theorem Ql{a0 w R}(h:MP a0 w R):aG pg jV #[a0] w R:=
 jF (ann:=QE) Tryz.f16 PD [a0] T0 11 TryzM.mixed Tryz.func16 (jP h dE)
def QF:FA:=⟨mP,λi=> .leaf ([],[]) []⟩
def T1:List ResultVar:=[.tmp 2]
noncomputable def PE:Code:=bA Tryz.f17
def GN(R:K1) eY w:=
 aA pg (aE .eql 43 (.tmp 3) (.const (.pointer none)) eY (.pointer none)) w λb4 w=>
 cP b4
  (R (.slice none 0 0) w)
  (aA pg (cL eY) w λb6 w=>
  aA pg (aD 99 b6 4) w λb7 w=>
  aA pg (aB 45 b7) w λb8 w=>
  aG pg lT #[b8] w λb9 w=>
  R b9 w)
def MQ a0 w(R:K1):=
 GN R a0 w
theorem Qm{a0 w R}(h:MQ a0 w R):aG pg mP #[a0] w R:=
 jF (ann:=QF) Tryz.f17 PE [a0] T1 10 TryzM.mixed Tryz.func17 (jP h dE)
def abU:FA:=⟨uF,λi=> .leaf ([],[]) []⟩
def ajJ:List ResultVar:=[.tmp 4,.tmp 5]
noncomputable def YV:Code:=bA Tryz.f18
def qK(R:K1) n_6 w:=
 aA pg (aE .gtr 26 aM aM n_6 (.int .u64 1024)) w λd5 w=>
 cP d5
  (R (.tuple #[(aLY 0),(aLY 12)]) w)
  (aA pg (cJ 26 3 n_6) w λd7 w=>
  R (.tuple #[d7,(aLY 0)]) w)
def QI(kn:K1)(R:K1) kU cZ w:=
 aA pg (aE .lss 3 aM aM cZ (aLY 1)) w λb8 w=>
 Gd (bG b8 false) (λK=>K cZ w) w λc0 w=>
 Gd (bG b8 false) (λK=>aA pg (aE .gtr 3 aM aM c0 (aLY 65536)) w K) w λc1 w=>
 aA pg (cG b8 (.bool true) c1) w λc2 w=>
 cP c2
  (R (.tuple #[(aLY 0),(aLY 1)]) w)
  (aA pg (cJ 3 26 cZ) w λc5 w=>
  aA pg (aE .quo 26 aM aM kU c5) w λc6 w=>
  aA pg (cJ 3 26 cZ) w λc9 w=>
  aA pg (aE .rem 26 aM aM kU c9) w λd0 w=>
  aA pg (aE .gtr 26 aM aM d0 (.int .u64 0)) w λd1 w=>
  cP d1
   (aA pg (aE .add 26 aM aM c6 (.int .u64 1)) w λd3 w=>
   kn d3 w)
   (kn c6 w))
def QJ(R:K1) kU cZ w:=
 QI (qK R) R kU cZ w
def aaE a0 a1 w(R:K1):=
 QJ R a0 a1 w
theorem YU{a0 a1 w R}(h:aaE a0 a1 w R):aG pg uF #[a0,a1] w R:=
 jF (ann:=abU) Tryz.f18 YV [a0,a1] ajJ 28 TryzM.mixed Tryz.func18 (dN 4 (Ui (Mq1 (qK R) 6) h (λg w h=>aJ (jP h dE)) dE))
def agB:FA:=⟨oN,λi=> .leaf ([],[]) []⟩
def amD:List ResultVar:=[.tmp 6,.tmp 7,.tmp 8]
noncomputable def acG:Code:=bA Tryz.f19
def Ue(R:K1) kU cZ Uk w:=
 aG pg uF #[kU,cZ] w λc5 w=>
 aA pg (aP c5 0) w λc6 w=>
 aA pg (aP c5 1) w λc7 w=>
 aA pg (aE .neq 31 (.tmp 19) (.const (aLY 0)) c7 (aLY 0)) w λd0 w=>
 cP d0
  (R (.tuple #[(.int .u64 0),(aLY 0),c7]) w)
  (aA pg (aE .lss 3 aM aM Uk (aLY 0)) w λd4 w=>
  Gd (bG d4 false) (λK=>K Uk w) w λd6 w=>
  Gd (bG d4 false) (λK=>K c6 w) w λd7 w=>
  Gd (bG d4 false) (λK=>aA pg (aE .geq 3 aM aM d6 d7) w K) w λd8 w=>
  aA pg (cG d4 (.bool true) d8) w λd9 w=>
  cP d9
   (R (.tuple #[(.int .u64 0),(aLY 0),(aLY 17)]) w)
   (aA pg (cJ 3 26 cZ) w λe1 w=>
   aA pg (cJ 3 26 Uk) w λe3 w=>
   aA pg (aE .mul 26 aM aM e1 e3) w λe4 w=>
   aA pg (aE .sub 26 aM aM kU e4) w λe8 w=>
   aA pg (cJ 3 26 cZ) w λf0 w=>
   aA pg (eI .min #[26,26] 26 [e8,f0]) w λf1 w=>
   aA pg (cJ 26 3 f1) w λf2 w=>
   R (.tuple #[e4,f2,(aLY 0)]) w))
def agN a0 a1 a2 w(R:K1):=
 Ue R a0 a1 a2 w
theorem acF{a0 a1 a2 w R}(h:agN a0 a1 a2 w R):aG pg oN #[a0,a1,a2] w R:=
 jF (ann:=agB) Tryz.f19 acG [a0,a1,a2] amD 43 TryzM.mixed Tryz.func19 (jP h dE)
def abY:FA:=⟨Ag,λi=> .leaf ([],[]) []⟩
def ajP:List ResultVar:=[.cell 2 70]
noncomputable def YZ:Code:=bA Tryz.f20
def RJ(R:K1) DM w:=
 aA pg (bE 70) w λb2 w=>
 aA pg (bB 22 1 [(0,(.int .u8 0))]) w λb3 w=>
 aA pg (eI .append #[22,22] 22 [b3,DM]) w λb5 w=>
 aG pg Qr #[b5] w λb6 w=>
 aA pg (aF 70 b2 b6) w λ_u w=>
 kD pg 70 b2 w λr0=>R r0 w
def aaU a0 w(R:K1):=
 RJ R a0 w
theorem Zp{a0 w R}(h:aaU a0 w R):aG pg Ag #[a0] w R:=
 jF (ann:=abY) Tryz.f20 YZ [a0] ajP 7 TryzM.mixed Tryz.func20 (jP h dE)
def kM:FA:=⟨fK,λi=>match Nat.beq i 44 with|true=> .leaf ([11],[]) (fz 11 (ft [] []))|false=>match Nat.beq i 48 with|true=> .leaf ([2,3],[(1,2)]) (fz 2 (ft [0] (ft [] (fz 1 []))))|false=> .leaf ([],[]) []⟩
def UU:List ResultVar:=[.cell 6 40,.cell 7 47,.tmp 8]
noncomputable def jO:Code:=bA Tryz.f21
def EW(R:K1) oJ b6 b7 fO w:=
 aA pg (aB 40 oJ) w λt216 w=>
 aG pg oX #[t216] w λt217 w=>
 aA pg (aP t217 0) w λt218 w=>
 aA pg (aP t217 1) w λt219 w=>
 aA pg (aF 40 oJ t218) w λ_u w=>
 aA pg (aE .neq 31 (.tmp 220) (.const (aLY 0)) t219 (aLY 0)) w λt221 w=>
 cP t221
  (aA pg (aB 40 oJ) w λt222 w=>
  aA pg (bV 47 []) w λt223 w=>
  aA pg (aF 40 b6 t222) w λ_u w=>
  aA pg (aF 47 b7 t223) w λ_u w=>
  kD pg 40 b6 w λr0=>kD pg 47 b7 w λr1=>R (.tuple #[r0,r1,t219]) w)
  (aA pg (aB 40 oJ) (dr w) λt225 w_=>w_=(dr w)/\
  aA pg (aB 47 fO) (dr w) λt226 w_=>w_=(dr w)/\
  aA pg (aF 40 b6 t225) (dr w) λ_u2 aGt=>
  (aO pg (aB 47 fO) t226 aGt/\True)/\
  aA pg (aF 47 b7 t226) aGt λ_u3 awR=>
  awR=awR/\
  kD pg 40 b6 awR λr0=>kD pg 47 b7 awR λr1=>R (.tuple #[r0,r1,(aLY 0)]) awR)
def Lp(kn:K8) oJ b6 b7 CK fO iE uE rT w:=
 aA pg (aE .add 3 aM aM rT (aLY 1)) w λy8 w=>
 kn oJ b6 b7 CK fO iE uE y8 w
def Lq(kn:K8) oJ b6 b7 CK fO iE uE rT d2 w:=
 aA pg (aD 47 fO 3) (dr w) λt204 w_=>w_=(dr w)/\
 aA pg (aB 45 t204) (dr w) λt205 w_=>w_=(dr w)/\
 (dr w)=(dr w)/\
 (dr w)=(dr w)/\
 (dr w)=(dr w)/\
 Gd (bG d2 true) (λK=>K uE (dr w)) (dr w) λt209 w_=>w_=(dr w)/\
 Gd (bG d2 true) (λK=>K rT (dr w)) (dr w) λt210 w_=>w_=(dr w)/\
 Gd (bG d2 true) (λK=>aA pg (aR 45 t209 t210) (dr w) K) (dr w) λt211 w_=>w_=(dr w)/\
 Gd (bG d2 true) (λK=>aA pg (aB 4 t211) (dr w) K) (dr w) λt212 w_=>w_=(dr w)/\
 aA pg (cG d2 t212 (.bool false)) (dr w) λt213 w_=>w_=(dr w)/\
 aA pg (aR 45 t205 rT) (dr w) λt214 w_=>w_=(dr w)/\
 aA pg (aF 4 t214 t213) (dr w) λ_u11 aHs=>
 kn oJ b6 b7 CK fO iE uE rT aHs
def Lr(kn:K10)(k4:K9) oJ b6 b7 CK fO iE uE rT d2 acQ w:=
 aA pg (eI .len #[120] 3 [iE]) w λz1 w=>
 aA pg (aE .lss 3 aM aM acQ z1) w λz2 w=>
 cP z2
  (Gd (bG d2 false) (λK=>K iE w) w λz7 w=>
  Gd (bG d2 false) (λK=>K acQ w) w λz8 w=>
  Gd (bG d2 false) (λK=>aA pg (aR 120 z7 z8) w K) w λz9 w=>
  Gd (bG d2 false) (λK=>aA pg (aD 123 z9 0) w K) w λt190 w=>
  Gd (bG d2 false) (λK=>aA pg (aB 5 t190) w K) w λt191 w=>
  Gd (bG d2 false) (λK=>aA pg (aE .eql 5 (.tmp 191) (.const (.int .u8 2)) t191 (.int .u8 2)) w K) w λt192 w=>
  Gd (bG d2 false) (λK=>K t192 w) w λt193 w=>
  Gd (bG t193 true) (λK=>K iE w) w λt194 w=>
  Gd (bG t193 true) (λK=>K acQ w) w λt195 w=>
  Gd (bG t193 true) (λK=>aA pg (aR 120 t194 t195) w K) w λt196 w=>
  Gd (bG t193 true) (λK=>aA pg (aD 123 t196 1) w K) w λt197 w=>
  Gd (bG t193 true) (λK=>aA pg (aB 26 t197) w K) w λt198 w=>
  Gd (bG t193 true) (λK=>K rT w) w λt199 w=>
  Gd (bG t193 true) (λK=>aA pg (cJ 3 26 t199) w K) w λt200 w=>
  Gd (bG t193 true) (λK=>aA pg (aE .eql 26 (.tmp 198) (.tmp 200) t198 t200) w K) w λt201 w=>
  Gd (bG d2 false) (λK=>aA pg (cG t193 t201 (.bool false)) w K) w λt202 w=>
  aA pg (cG d2 (.bool true) t202) w λt203 w=>
  aA pg (aE .add 3 aM aM acQ (aLY 1)) w λz4 w=>
  kn oJ b6 b7 CK fO iE uE rT t203 z4 w)
  (k4 oJ b6 b7 CK fO iE uE rT d2 w)
def uJ(k4:K9) oJ b6 b7 CK fO iE uE rT d2 acQ w:=
 bM (λ(X:(aLX×aLX)->K0) (t:aLX×aLX) (w:aLW)=>Lr (λ_ _ _ _ _ _ _ _ d2 acQ w=>X (d2,acQ) w) k4 oJ b6 b7 CK fO iE uE rT t.1 t.2 w) (d2,acQ) w
theorem ZQ(k4:K9)(h4:E9 Q k4 4 3 6 7 9 11 16 20 21 22)(h:uJ k4 (g 3) (g 6) (g 7) (g 9) (g 11) (g 16) (g 20) (g 21) (g 22) (g 23) w):dM pg kM (bI (aN 1 (bK 1 (aN 1 (bI (bK 1 (aN 1 (bI (bI (aN 4 (cT (aN 1 (bK 1 (aN 4 (aN 1 (aN 15 jO)))))))))))))))) Q g w:=by
 refine EN (λg:Env=>(g 22,g 23)) (λX t w=>Lr (λ_ _ _ _ _ _ _ _ d2 acQ w=>X (d2,acQ) w) k4 (g 3) (g 6) (g 7) (g 9) (g 11) (g 16) (g 20) (g 21) t.1 t.2 w) h (λX g1 w1 ha hL=> ?_)
 rw[<-eZ 3 ha,<-eZ 6 ha,<-eZ 7 ha,<-eZ 9 ha,<-eZ 11 ha,<-eZ 16 ha,<-eZ 20 ha,<-eZ 21 ha]at hL
 exact(DT [(4,(Mq9 k4 3 6 7 9 11 16 20 21 22))] (kr:=no) (aHF (λ_ _ _ _ _ _ _ _ d2 acQ w=>X (d2,acQ) w) 3 6 7 9 11 16 20 21 22 23) hL dE Jx ⟨h4,trivial⟩)
def UP(kn:K10) oJ b6 b7 CK fO iE uE rT d2 w:=
 kn oJ b6 b7 CK fO iE uE rT d2 (aLY 0) w
def Ls(kn:K9) oJ b6 b7 CK fO iE uE rT d2 w:=
 UP (uJ kn) oJ b6 b7 CK fO iE uE rT d2 w
def Lt(kn:K8) oJ b6 b7 CK fO iE uE rT d2 w:=
 Ls (Lq kn) oJ b6 b7 CK fO iE uE rT d2 w
theorem ZR(kn:K9)(hn:N9 Q kn 3 6 7 9 11 16 20 21 22)(h:Ls kn (g 3) (g 6) (g 7) (g 9) (g 11) (g 16) (g 20) (g 21) (g 22) w):dM pg kM (bK 1 (aN 1 (bI (bK 1 (aN 1 (bI (bI (aN 4 (cT (aN 1 (bK 1 (aN 4 (aN 1 (aN 15 jO)))))))))))))) Q g w:=
 dN 1 (iK (aHF (uJ kn) 3 6 7 9 11 16 20 21 22 23) h (λg w h=>aJ (A7 4 (ZQ _ g w kn hn h))))
def Sj(kn:K9) oJ b6 b7 CK fO iE uE rT w:=
 kn oJ b6 b7 CK fO iE uE rT (.bool false) w
def IP(kn:K8) oJ b6 b7 CK fO iE uE rT w:=
 Sj (Lt kn) oJ b6 b7 CK fO iE uE rT w
def IQ(kn:K8) oJ b6 b7 CK fO iE uE rT w:=
 IP (Lp kn) oJ b6 b7 CK fO iE uE rT w
theorem XT(kn:K8)(hn:N8 Q kn 3 6 7 9 11 16 20 21)(h:IP kn (g 3) (g 6) (g 7) (g 9) (g 11) (g 16) (g 20) (g 21) w):dM pg kM (bK 1 (aN 1 (bI (bI (aN 4 (cT (aN 1 (bK 1 (aN 4 (aN 1 (aN 15 jO))))))))))) Q g w:=
 A7 3 (dN 1 (iK (Mq9 (Lt kn) 3 6 7 9 11 16 20 21 22) h (λg w h=>aJ (dN 1 (ZR _ g w (Lq kn) (λg w h=>aJ (iK _ h hn)) h)))))
def IS(kn:K8)(k2:K4) oJ b6 b7 CK fO iE uE rT w:=
 aA pg (aE .lss 3 aM aM rT CK) w λy6 w=>
 cP y6
  (kn oJ b6 b7 CK fO iE uE rT w)
  (k2 oJ b6 b7 fO w)
def CR(kn:K8)(k2:K4) oJ b6 b7 CK fO iE uE rT w:=
 IS (IQ kn) k2 oJ b6 b7 CK fO iE uE rT w
def mZ(k2:K4) oJ b6 b7 CK fO iE uE rT w:=
 bM (λ(X:aLX->K0) (t:aLX) (w:aLW)=>CR (λ_ _ _ _ _ _ _ rT w=>X rT w) k2 oJ b6 b7 CK fO iE uE t w) rT w
theorem XU(k2:K4)(h2:E4 Q k2 2 3 6 7 11)(h:mZ k2 (g 3) (g 6) (g 7) (g 9) (g 11) (g 16) (g 20) (g 21) w):dM pg kM (bI (aN 4 (cT (aN 1 (bK 1 (aN 4 (aN 1 (aN 15 jO)))))))) Q g w:=by
 refine EN (λg:Env=>g 21) (λX t w=>CR (λ_ _ _ _ _ _ _ rT w=>X rT w) k2 (g 3) (g 6) (g 7) (g 9) (g 11) (g 16) (g 20) t w) h (λX g1 w1 ha hL=> ?_)
 rw[<-eZ 3 ha,<-eZ 6 ha,<-eZ 7 ha,<-eZ 9 ha,<-eZ 11 ha,<-eZ 16 ha,<-eZ 20 ha]at hL
 exact(dN 1 (DT [(2,(Ch k2 3 6 7 11))] (kr:=no) (Mq8 (IQ (λ_ _ _ _ _ _ _ rT w=>X rT w)) 3 6 7 9 11 16 20 21) hL (λg w h=>aJ (dN 1 (XT _ g w (Lp (λ_ _ _ _ _ _ _ rT w=>X rT w)) (λg w h=>aJ (iK (Mq8 (λ_ _ _ _ _ _ _ rT w=>X rT w) 3 6 7 9 11 16 20 21) h dE)) h))) Jx ⟨h2,trivial⟩))
def Sk(kn:K8)(R:K1) oJ Iw b6 b7 CK fO iE w:=
 aA pg (aB 40 oJ) w λx0 w=>
 aA pg (aB 47 fO) w λx1 w=>
 aG pg Cb #[x0,x1] w λx2 w=>
 aA pg (aP x2 0) w λx3 w=>
 aA pg (aP x2 1) w λx4 w=>
 aA pg (aP x2 2) w λx5 w=>
 aA pg (aF 40 oJ x3) w λ_u w=>
 aA pg (aE .neq 31 (.tmp 166) (.const (aLY 0)) x5 (aLY 0)) w λx7 w=>
 cP x7
  (aA pg (aB 40 oJ) w λx8 w=>
  aA pg (bV 47 []) w λx9 w=>
  aA pg (aF 40 b6 x8) w λ_u w=>
  aA pg (aF 47 b7 x9) w λ_u w=>
  kD pg 40 b6 w λr0=>kD pg 47 b7 w λr1=>R (.tuple #[r0,r1,x5]) w)
  (aA pg (aB 44 Iw) w λy1 w=>
  aG pg qI #[y1,x4] w λy3 w=>
  kn oJ b6 b7 CK fO iE y3 (aLY 0) w)
def Sm(kn:K4)(R:K1) oJ Iw b6 b7 CK fO iE w:=
 Sk (mZ kn) R oJ Iw b6 b7 CK fO iE w
def Sn(kn:K4) oJ b6 b7 fO w:=
 kn oJ b6 b7 fO w
def IT(kn:K4)(R:K1) oJ Iw b6 b7 CK fO iE v8 w:=
 cP v8 (Sm kn R oJ Iw b6 b7 CK fO iE w) (Sn kn oJ b6 b7 fO w)
def So(kn:K8) oJ Iw b6 b7 CK fO iE w:=
 aA pg (aD 47 fO 5) w λv6 w=>
 aA pg (aB 4 v6) w λv7 w=>
 aA pg (GI .not v7) w λv8 w=>
 kn oJ Iw b6 b7 CK fO iE v8 w
def IU(kn:K4)(R:K1) oJ Iw b6 b7 CK fO iE w:=
 So (IT kn R) oJ Iw b6 b7 CK fO iE w
def CS(R:K1) oJ Iw b6 b7 CK fO iE w:=
 IU (EW R) R oJ Iw b6 b7 CK fO iE w
theorem XV(kn:K4)(R:K1)(hn:N4 Q kn 3 6 7 11)(hr:HR UU R Q)(h:IU kn R (g 3) (g 5) (g 6) (g 7) (g 9) (g 11) (g 16) w):dM pg kM (bK 1 (aN 4 (aN 1 (aN 15 jO)))) Q g w:=
 dN 1 (iK (Mq8 (IT kn R) 3 5 6 7 9 11 16 158) h (λg w h=>aJ (cdD (.tmp 158) (λh=>(dN 4 (Ui (Mq8 (mZ kn) 3 6 7 9 11 16 20 21) h (λg w h=>aJ (A7 2 (XU _ g w kn hn h))) hr))) (λh=>(iK _ h hn)) h)))
def Sp(kn:K7)(R:K1) oJ Iw b6 b7 CK fO iE gC w:=
 aA pg (aE .eql 26 (.tmp 134) (.const (.int .u64 18446744073709551615)) gC (.int .u64 18446744073709551615)) w λs5 w=>
 cP s5
  (aA pg (aB 40 oJ) w λs6 w=>
  aA pg (bV 47 []) w λs7 w=>
  aA pg (aF 40 b6 s6) w λ_u w=>
  aA pg (aF 47 b7 s7) w λ_u w=>
  kD pg 40 b6 w λr0=>kD pg 47 b7 w λr1=>R (.tuple #[r0,r1,(aLY 23)]) w)
  (aA pg (aE .add 26 aM aM gC (.int .u64 1)) w λs9 w=>
  aA pg (aD 47 fO 2) w λu0 w=>
  aA pg (aF 26 u0 s9) w λ_u w=>
  aA pg (aB 40 oJ) w λu2 w=>
  aA pg (aB 47 fO) w λu3 w=>
  aA pg (aD 47 fO 2) w λu4 w=>
  aA pg (aB 26 u4) w λu5 w=>
  aA pg (bV 123 [(0,(.int .u8 1)),(1,u5)]) w λu6 w=>
  aG pg wE #[u2,u3,u6] w λu7 w=>
  aA pg (aP u7 0) w λu8 w=>
  aA pg (aP u7 1) w λu9 w=>
  aA pg (aP u7 2) w λv0 w=>
  aA pg (aF 40 oJ u8) w λ_u w=>
  aA pg (aF 47 fO u9) w λ_u w=>
  aA pg (aE .neq 31 (.tmp 151) (.const (aLY 0)) v0 (aLY 0)) w λv2 w=>
  cP v2
   (aA pg (aB 40 oJ) w λv3 w=>
   aA pg (bV 47 []) w λv4 w=>
   aA pg (aF 40 b6 v3) w λ_u w=>
   aA pg (aF 47 b7 v4) w λ_u w=>
   kD pg 40 b6 w λr0=>kD pg 47 b7 w λr1=>R (.tuple #[r0,r1,v0]) w)
   (kn oJ Iw b6 b7 CK fO iE w))
def IV(R:K1) oJ Iw b6 b7 CK fO iE gC w:=
 Sp (CS R) R oJ Iw b6 b7 CK fO iE gC w
def IW(kn:K9) oJ Iw b6 b7 CK fO iE gC L8 w:=
 aA pg (aE .add 3 aM aM L8 (aLY 1)) w λp3 w=>
 kn oJ Iw b6 b7 CK fO iE gC p3 w
def Sq(kn:K9)(k0:K8) oJ Iw b6 b7 CK fO iE gC L8 w:=
 aA pg (eI .len #[120] 3 [iE]) w λp0 w=>
 aA pg (aE .lss 3 aM aM L8 p0) w λp1 w=>
 cP p1
  (aA pg (aR 120 iE L8) w λp6 w=>
  aA pg (aD 123 p6 0) w λp7 w=>
  aA pg (aB 5 p7) w λp8 w=>
  aA pg (aE .eql 5 (.tmp 118) (.const (.int .u8 1)) p8 (.int .u8 1)) w λp9 w=>
  Gd (bG p9 true) (λK=>K iE w) w λq1 w=>
  Gd (bG p9 true) (λK=>K L8 w) w λq2 w=>
  Gd (bG p9 true) (λK=>aA pg (aR 120 q1 q2) w K) w λq3 w=>
  Gd (bG p9 true) (λK=>aA pg (aD 123 q3 1) w K) w λq4 w=>
  Gd (bG p9 true) (λK=>aA pg (aB 26 q4) w K) w λq5 w=>
  Gd (bG p9 true) (λK=>K gC w) w λq6 w=>
  Gd (bG p9 true) (λK=>aA pg (aE .gtr 26 aM aM q5 q6) w K) w λq7 w=>
  aA pg (cG p9 q7 (.bool false)) w λq8 w=>
  cP q8
   (aA pg (aR 120 iE L8) w λs1 w=>
   aA pg (aD 123 s1 1) w λs2 w=>
   aA pg (aB 26 s2) w λs3 w=>
   kn oJ Iw b6 b7 CK fO iE s3 L8 w)
   (kn oJ Iw b6 b7 CK fO iE gC L8 w))
  (k0 oJ Iw b6 b7 CK fO iE gC w)
def IX(kn:K9)(k0:K8) oJ Iw b6 b7 CK fO iE gC L8 w:=
 Sq (IW kn) k0 oJ Iw b6 b7 CK fO iE gC L8 w
def rI(k0:K8) oJ Iw b6 b7 CK fO iE gC L8 w:=
 bM (λ(X:(aLX×aLX)->K0) (t:aLX×aLX) (w:aLW)=>IX (λ_ _ _ _ _ _ _ gC L8 w=>X (gC,L8) w) k0 oJ Iw b6 b7 CK fO iE t.1 t.2 w) (gC,L8) w
theorem XW(k0:K8)(h0:E8 Q k0 0 3 5 6 7 9 11 16 18)(h:rI k0 (g 3) (g 5) (g 6) (g 7) (g 9) (g 11) (g 16) (g 18) (g 19) w):dM pg kM (bI (aN 1 (bK 1 (aN 15 jO)))) Q g w:=by
 refine EN (λg:Env=>(g 18,g 19)) (λX t w=>IX (λ_ _ _ _ _ _ _ gC L8 w=>X (gC,L8) w) k0 (g 3) (g 5) (g 6) (g 7) (g 9) (g 11) (g 16) t.1 t.2 w) h (λX g1 w1 ha hL=> ?_)
 rw[<-eZ 3 ha,<-eZ 5 ha,<-eZ 6 ha,<-eZ 7 ha,<-eZ 9 ha,<-eZ 11 ha,<-eZ 16 ha]at hL
 exact(dN 2 (DT [(0,(Mq8 k0 3 5 6 7 9 11 16 18))] (kr:=no) (Mq9 (IW (λ_ _ _ _ _ _ _ gC L8 w=>X (gC,L8) w)) 3 5 6 7 9 11 16 18 19) hL (λg w h=>aJ (iK (Mq9 (λ_ _ _ _ _ _ _ gC L8 w=>X (gC,L8) w) 3 5 6 7 9 11 16 18 19) h dE)) Jx ⟨h0,trivial⟩))
def Sr(kn:K9) oJ Iw b6 b7 CK fO iE gC w:=
 kn oJ Iw b6 b7 CK fO iE gC (aLY 0) w
def IY(kn:K8) oJ Iw b6 b7 CK fO iE gC w:=
 Sr (rI kn) oJ Iw b6 b7 CK fO iE gC w
def IZ(R:K1) oJ Iw b6 b7 CK fO iE gC w:=
 IY (IV R) oJ Iw b6 b7 CK fO iE gC w
theorem XX(kn:K8)(hn:N8 Q kn 3 5 6 7 9 11 16 18)(h:IY kn (g 3) (g 5) (g 6) (g 7) (g 9) (g 11) (g 16) (g 18) w):dM pg kM (bK 1 (aN 15 jO)) Q g w:=
 dN 1 (iK (Mq9 (rI kn) 3 5 6 7 9 11 16 18 19) h (λg w h=>aJ (A7 0 (XW _ g w kn hn h))))
def Ss(kn:K8)(R:K1) fG cR MX w:=
 aA pg (iX 40 fG) w λoJ w=>
 aA pg (iX 44 MX) w λIw w=>
 aA pg (bE 40) w λb6 w=>
 aA pg (bE 47) w λb7 w=>
 aA pg (aE .eql 9 (.tmp 24) (.const (.string ⟨#[]⟩)) cR (.string ⟨#[]⟩)) w λd5 w=>
 Gd (bG d5 false) (λK=>K cR w) w λd7 w=>
 Gd (bG d5 false) (λK=>aA pg (eI .len #[9] 3 [d7]) w K) w λd8 w=>
 Gd (bG d5 false) (λK=>aA pg (aE .gtr 3 aM aM d8 (aLY 27)) w K) w λd9 w=>
 aA pg (cG d5 (.bool true) d9) w λe0 w=>
 cP e0
  (aA pg (aB 40 oJ) w λe1 w=>
  aA pg (bV 47 []) w λe2 w=>
  aA pg (aF 40 b6 e1) w λ_u w=>
  aA pg (aF 47 b7 e2) w λ_u w=>
  kD pg 40 b6 w λr0=>kD pg 47 b7 w λr1=>R (.tuple #[r0,r1,(aLY 1)]) w)
  (aA pg (aD 44 Iw 0) w λe4 w=>
  aA pg (aB 26 e4) w λe5 w=>
  aA pg (aD 44 Iw 1) w λe6 w=>
  aA pg (aB 27 e6) w λe7 w=>
  aA pg (cJ 27 3 e7) w λe8 w=>
  aG pg Ah #[e5,e8] w λe9 w=>
  aA pg (aP e9 0) w λf0 w=>
  aA pg (aP e9 1) w λf1 w=>
  aA pg (aE .neq 31 (.tmp 42) (.const (aLY 0)) f1 (aLY 0)) w λf3 w=>
  cP f3
   (aA pg (aB 40 oJ) w λf4 w=>
   aA pg (bV 47 []) w λf5 w=>
   aA pg (aF 40 b6 f4) w λ_u w=>
   aA pg (aF 47 b7 f5) w λ_u w=>
   kD pg 40 b6 w λr0=>kD pg 47 b7 w λr1=>R (.tuple #[r0,r1,f1]) w)
   (aA pg (aD 44 Iw 2) w λf8 w=>
   aA pg (aB 28 f8) w λf9 w=>
   aA pg (eI .len #[28] 3 [f9]) w λi0 w=>
   aA pg (aE .neq 3 (.tmp 47) (.tmp 50) f0 i0) w λi1 w=>
   cP i1
    (aA pg (aB 40 oJ) w λi2 w=>
    aA pg (bV 47 []) w λi3 w=>
    aA pg (aF 40 b6 i2) w λ_u w=>
    aA pg (aF 47 b7 i3) w λ_u w=>
    kD pg 40 b6 w λr0=>kD pg 47 b7 w λr1=>R (.tuple #[r0,r1,(aLY 11)]) w)
    (aA pg (aB 44 Iw) w λi5 w=>
    aA pg (bV 47 [(0,cR),(1,i5)]) w λi6 w=>
    aA pg (bE 47) w λfO w=>
    aA pg (aF 47 fO i6) w λ_u w=>
    aA pg (aB 40 oJ) w λi8 w=>
    aG pg sI #[i8,cR] w λj0 w=>
    aA pg (aP j0 0) w λj1 w=>
    aA pg (aP j0 1) w λj2 w=>
    aA pg (aP j0 2) w λj3 w=>
    aA pg (aE .neq 31 (.tmp 64) (.const (aLY 0)) j3 (aLY 0)) w λj5 w=>
    cP j5
     (aA pg (aB 40 oJ) w λj6 w=>
     aA pg (bV 47 []) w λj7 w=>
     aA pg (aF 40 b6 j6) w λ_u w=>
     aA pg (aF 47 b7 j7) w λ_u w=>
     kD pg 40 b6 w λr0=>kD pg 47 b7 w λr1=>R (.tuple #[r0,r1,j3]) w)
     (aA pg (aB 44 Iw) w λj9 w=>
     aG pg qI #[j9,j1] w λl1 w=>
     aA pg (aD 47 fO 3) w λl2 w=>
     aA pg (aF 45 l2 l1) w λ_u w=>
     Gd (bG j2 true) (λK=>K j1 w) w λl5 w=>
     Gd (bG j2 true) (λK=>aA pg (eI .len #[9] 3 [l5]) w K) w λl6 w=>
     Gd (bG j2 true) (λK=>aA pg (cJ 3 26 l6) w K) w λl7 w=>
     Gd (bG j2 true) (λK=>aA pg (aD 44 Iw 0) w K) w λl8 w=>
     Gd (bG j2 true) (λK=>aA pg (aB 26 l8) w K) w λl9 w=>
     Gd (bG j2 true) (λK=>aA pg (aE .eql 26 (.tmp 77) (.tmp 79) l7 l9) w K) w λm0 w=>
     aA pg (cG j2 m0 (.bool false)) w λm1 w=>
     Gd (bG m1 true) (λK=>aA pg (aD 47 fO 3) w K) w λm3 w=>
     Gd (bG m1 true) (λK=>aA pg (aB 45 m3) w K) w λm4 w=>
     Gd (bG m1 true) (λK=>aG pg BH #[m4] w K) w λm5 w=>
     aA pg (cG m1 m5 (.bool false)) w λm6 w=>
     aA pg (aD 47 fO 5) w λm7 w=>
     aA pg (aF 4 m7 m6) w λ_u w=>
     aA pg (aB 40 oJ) w λm9 w=>
     aA pg (aE .add 9 aM aM cR (.string ⟨#[46,108,111,103]⟩)) w λn1 w=>
     aG pg sI #[m9,n1] w λn2 w=>
     aA pg (aP n2 0) w λn3 w=>
     aA pg (aP n2 1) w λn4 w=>
     aA pg (aP n2 2) w λn5 w=>
     aA pg (aE .neq 31 (.tmp 96) (.const (aLY 0)) n5 (aLY 0)) w λn7 w=>
     cP n7
      (aA pg (aB 40 oJ) w λn8 w=>
      aA pg (bV 47 []) w λn9 w=>
      aA pg (aF 40 b6 n8) w λ_u w=>
      aA pg (aF 47 b7 n9) w λ_u w=>
      kD pg 40 b6 w λr0=>kD pg 47 b7 w λr1=>R (.tuple #[r0,r1,n5]) w)
      (aG pg GS #[n3] w λo3 w=>
      aA pg (aP o3 0) w λo4 w=>
      aA pg (aP o3 1) w λo5 w=>
      aA pg (aD 47 fO 4) w λo7 w=>
      aA pg (aF 3 o7 o5) w λ_u w=>
      kn oJ Iw b6 b7 f0 fO o4 (.int .u64 0) w)))))
def St(R:K1) fG cR MX w:=
 Ss (IZ R) R fG cR MX w
def aiX a0 a1 a2 w(R:K1):=
 St R a0 a1 a2 w
theorem aeG{a0 a1 a2 w R}(h:aiX a0 a1 a2 w R):aG pg fK #[a0,a1,a2] w R:=
 jF (ann:=kM) Tryz.f21 jO [a0,a1,a2] UU 227 TryzM.mixed Tryz.func21 (dN 15 (Ui (Mq8 (IZ R) 3 5 6 7 9 11 16 18) h (λg w h=>aJ (dN 1 (XX _ g w (IV R) (λg w h=>aJ (dN 4 (Ui (Mq7 (CS R) 3 5 6 7 9 11 16) h (λg w h=>aJ (dN 1 (XV _ g w (EW R) R (λg w h=>aJ (jP h dE)) dE h))) dE))) h))) dE))
def Wa:FA:=⟨dK,λi=> .leaf ([],[]) []⟩
def ZX:List ResultVar:=[.cell 2 44]
noncomputable def Vi:Code:=bA Tryz.f22
def Mc(R:K1) m_0 w:=
 aA pg (iX 30 m_0) w λm_1 w=>
 aA pg (bE 44) w λb2 w=>
 aA pg (aD 30 m_1 0) w λb3 w=>
 aA pg (aB 26 b3) w λb4 w=>
 aA pg (aD 30 m_1 1) w λb5 w=>
 aA pg (aB 27 b5) w λb6 w=>
 aA pg (aD 30 m_1 2) w λb7 w=>
 aA pg (aB 28 b7) w λb8 w=>
 aA pg (bV 44 [(0,b4),(1,b6),(2,b8)]) w λb9 w=>
 aA pg (aF 44 b2 b9) w λ_u w=>
 kD pg 44 b2 w λr0=>R r0 w
def Un a0 w(R:K1):=
 Mc R a0 w
theorem Vo{a0 w R}(h:Un a0 w R):aG pg dK #[a0] w R:=
 jF (ann:=Wa) Tryz.f22 Vi [a0] ZX 10 TryzM.mixed Tryz.func22 (jP h dE)
def Tr:FA:=⟨vJ,λi=> .leaf ([],[]) []⟩
def VD:List ResultVar:=[.tmp 2]
noncomputable def QL:Code:=bA Tryz.f23
def HY(R:K1) fG w:=
 aA pg (aE .eql 34 (.tmp 3) (.const (.pointer none)) fG (.pointer none)) w λb4 w=>
 cP b4
  (R (.slice none 0 0) w)
  (aA pg (cL fG) w λb6 w=>
  aA pg (aD 76 b6 2) w λb7 w=>
  aA pg (aB 73 b7) w λb8 w=>
  aG pg yQ #[b8] w λb9 w=>
  aG pg oY #[b9] w λc0 w=>
  R c0 w)
def OL a0 w(R:K1):=
 HY R a0 w
theorem QW{a0 w R}(h:OL a0 w R):aG pg vJ #[a0] w R:=
 jF (ann:=Tr) Tryz.f23 QL [a0] VD 11 TryzM.mixed Tryz.func23 (jP h dE)
def HG:FA:=⟨sH,λi=> .leaf ([],[]) []⟩
def amJ:List ResultVar:=[.tmp 2]
noncomputable def F1:Code:=bA Tryz.f24
def Ld(R:K1) l_3 w:=
 R l_3 w
def Le(kn:K3)(k0:K1) QU l_3 uS w:=
 aA pg (aD 40 QU 2) w λb8 w=>
 aA pg (aB 38 b8) w λb9 w=>
 aA pg (eI .len #[38] 3 [b9]) w λc0 w=>
 aA pg (aE .lss 3 aM aM uS c0) w λc1 w=>
 cP c1
  (aA pg (aD 40 QU 2) w λc5 w=>
  aA pg (aB 38 c5) w λc6 w=>
  aA pg (aR 38 c6 uS) w λc8 w=>
  aA pg (aB 96 c8) w λc9 w=>
  aG pg AY #[l_3,c9] w λd0 w=>
  aA pg (aE .add 3 aM aM uS (aLY 1)) w λc3 w=>
  kn QU d0 c3 w)
  (k0 l_3 w)
def ER(k0:K1) QU l_3 uS w:=
 bM (λ(X:(aLX×aLX)->K0) (t:aLX×aLX) (w:aLW)=>Le (λ_ l_3 uS w=>X (l_3,uS) w) k0 QU t.1 t.2 w) (l_3,uS) w
theorem ZH(k0:K1)(h0:E1 Q k0 0 3)(h:ER k0 (g 1) (g 3) (g 4) w):dM pg HG (bI (aN 1 (bK 1 (aN 2 F1)))) Q g w:=by
 refine EN (λg:Env=>(g 3,g 4)) (λX t w=>Le (λ_ l_3 uS w=>X (l_3,uS) w) k0 (g 1) t.1 t.2 w) h (λX g1 w1 ha hL=> ?_)
 rw[<-eZ 1 ha]at hL
 exact(DT [(0,(Mq1 k0 3))] (kr:=no) (Gu (λ_ l_3 uS w=>X (l_3,uS) w) 1 3 4) hL dE Jx ⟨h0,trivial⟩)
def UD(kn:K3) QU l_3 w:=
 kn QU l_3 (aLY 0) w
def Lf(kn:K1) QU l_3 w:=
 UD (ER kn) QU l_3 w
def Lg(R:K1) QU l_3 w:=
 Lf (Ld R) QU l_3 w
theorem ZI(kn:K1)(hn:N1 Q kn 3)(h:Lf kn (g 1) (g 3) w):dM pg HG (bK 1 (aN 2 F1)) Q g w:=
 dN 1 (iK (Gu (ER kn) 1 3 4) h (λg w h=>aJ (A7 0 (ZH _ g w kn hn h))))
def UE(kn:K2) fG w:=
 aA pg (iX 40 fG) w λQU w=>
 aA pg (aD 40 QU 1) w λb5 w=>
 aA pg (aB 37 b5) w λb6 w=>
 kn QU b6 w
def UF(R:K1) fG w:=
 UE (Lg R) fG w
def aiQ a0 w(R:K1):=
 UF R a0 w
theorem adZ{a0 w R}(h:aiQ a0 w R):aG pg sH #[a0] w R:=
 jF (ann:=HG) Tryz.f24 F1 [a0] amJ 22 TryzM.mixed Tryz.func24 (dN 2 (iK (Qq (Lg R) 1 3) h (λg w h=>aJ (dN 1 (ZI _ g w (Ld R) (λg w h=>aJ (jP h dE)) h)))))
def Pq:FA:=⟨pY,λi=> .leaf ([],[]) []⟩
def Sz:List ResultVar:=[.tmp 2]
noncomputable def Nc:Code:=bA Tryz.f25
def Fj(R:K1) fG w:=
 aA pg (aE .eql 34 (.tmp 3) (.const (.pointer none)) fG (.pointer none)) w λb4 w=>
 cP b4
  (R (aLY 0) w)
  (aA pg (cL fG) w λb6 w=>
  aA pg (aD 76 b6 3) w λb7 w=>
  aA pg (aB 74 b7) w λb8 w=>
  aA pg (eI .len #[74] 3 [b8]) w λb9 w=>
  R b9 w)
def JU a0 w(R:K1):=
 Fj R a0 w
theorem Nl{a0 w R}(h:JU a0 w R):aG pg pY #[a0] w R:=
 jF (ann:=Pq) Tryz.f25 Nc [a0] Sz 10 TryzM.mixed Tryz.func25 (jP h dE)
def Tv:FA:=⟨gB,λi=> .leaf ([],[]) []⟩
def VI:List ResultVar:=[.tmp 2]
noncomputable def QQ:Code:=bA Tryz.f26
def Jg(R:K1) eY w:=
 aA pg (aE .eql 43 (.tmp 3) (.const (.pointer none)) eY (.pointer none)) w λb4 w=>
 cP b4
  (R (aLY 1) w)
  (aA pg (cL eY) w λb6 w=>
  aA pg (aD 99 b6 7) w λb7 w=>
  aA pg (aB 31 b7) w λb8 w=>
  R b8 w)
def Pm a0 w(R:K1):=
 Jg R a0 w
theorem SR{a0 w R}(h:Pm a0 w R):aG pg gB #[a0] w R:=
 jF (ann:=Tv) Tryz.f26 QQ [a0] VI 9 TryzM.mixed Tryz.func26 (jP h dE)
def abX:FA:=⟨Ey,λi=> .leaf ([],[]) []⟩
def ajM:List ResultVar:=[.tmp 6]
noncomputable def YY:Code:=bA Tryz.f27
def CF(R:K1) kQ apE b8 w:=
 aA pg (dG 22 kQ (some apE) (some b8) none) w λf9 w=>
 R f9 w
def Ri(kn:K3)(R:K1) kQ cZ a_2 w:=
 aA pg (iX 54 a_2) w λa_5 w=>
 aA pg (aD 54 a_5 1) w λb9 w=>
 aA pg (aB 3 b9) w λc0 w=>
 aA pg (aE .mul 3 aM aM c0 cZ) w λc2 w=>
 aA pg (aD 54 a_5 3) w λc3 w=>
 aA pg (aB 4 c3) w λc4 w=>
 aA pg (GI .not c4) w λc5 w=>
 Gd (bG c5 false) (λK=>aA pg (aD 54 a_5 1) w K) w λc7 w=>
 Gd (bG c5 false) (λK=>aA pg (aB 3 c7) w K) w λc8 w=>
 Gd (bG c5 false) (λK=>aA pg (aE .lss 3 aM aM c8 (aLY 0)) w K) w λc9 w=>
 aA pg (cG c5 (.bool true) c9) w λd0 w=>
 Gd (bG d0 false) (λK=>K cZ w) w λd2 w=>
 Gd (bG d0 false) (λK=>aA pg (aE .lss 3 aM aM d2 (aLY 1)) w K) w λd3 w=>
 aA pg (cG d0 (.bool true) d3) w λd4 w=>
 Gd (bG d4 false) (λK=>K c2 w) w λd6 w=>
 Gd (bG d4 false) (λK=>aA pg (aE .lss 3 aM aM d6 (aLY 0)) w K) w λd7 w=>
 aA pg (cG d4 (.bool true) d7) w λd8 w=>
 Gd (bG d8 false) (λK=>K c2 w) w λe0 w=>
 Gd (bG d8 false) (λK=>K kQ w) w λe1 w=>
 Gd (bG d8 false) (λK=>aA pg (eI .len #[22] 3 [e1]) w K) w λe2 w=>
 Gd (bG d8 false) (λK=>aA pg (aE .geq 3 aM aM e0 e2) w K) w λe3 w=>
 aA pg (cG d8 (.bool true) e3) w λe4 w=>
 cP e4
  (aA pg (aD 54 a_5 2) w λe5 w=>
  aA pg (aB 22 e5) w λe6 w=>
  R e6 w)
  (aA pg (aE .add 3 aM aM c2 cZ) w λe9 w=>
  aA pg (eI .len #[22] 3 [kQ]) w λf2 w=>
  aA pg (aE .gtr 3 aM aM e9 f2) w λf3 w=>
  cP f3
   (aA pg (eI .len #[22] 3 [kQ]) w λf5 w=>
   kn kQ c2 f5 w)
   (kn kQ c2 e9 w))
def Rj(R:K1) kQ cZ a_2 w:=
 Ri (CF R) R kQ cZ a_2 w
def aaO a0 a1 a2 w(R:K1):=
 Rj R a0 a1 a2 w
theorem Zi{a0 a1 a2 w R}(h:aaO a0 a1 a2 w R):aG pg Ey #[a0,a1,a2] w R:=
 jF (ann:=abX) Tryz.f27 YY [a0,a1,a2] ajM 50 TryzM.mixed Tryz.func27 (dN 5 (Ui (Gu (CF R) 0 7 8) h (λg w h=>aJ (jP h dE)) dE))
def alD:FA:=⟨JN,λi=>match Nat.beq i 2 with|true=> .leaf ([4,5],[(1,4),(2,4),(2,5),(3,4),(3,5)]) (fz 4 (ft [0,1,2] (ft [1,2] (fz 1 []))))|false=>match Nat.beq i 4 with|true=> .leaf ([2,3],[(1,2)]) (fz 2 (ft [0] (ft [] (fz 1 []))))|false=>match Nat.beq i 6 with|true=> .leaf ([2,3],[(1,2)]) (fz 2 (ft [0] (ft [] (fz 1 []))))|false=>match Nat.beq i 9 with|true=> .leaf ([2,3],[(1,2)]) (fz 2 (ft [0] (ft [] (fz 1 []))))|false=>match Nat.beq i 24 with|true=> .leaf ([3,4],[(1,3)]) (fz 3 (ft [1] (ft [] (fz 1 []))))|false=> .leaf ([],[]) []⟩
def aqU:List ResultVar:=[.cell 8 40,.cell 9 47,.tmp 10]
noncomputable def agQ:Code:=bA Tryz.f28
def Hj(R:K1) Vk Kb b8 b9 PR w:=
 aA pg (aB 40 Vk) (dr w) λp9 w_=>w_=(dr w)/\
 aA pg (aB 47 Kb) (dr w) λq0 w_=>w_=(dr w)/\
 (dr w)=(dr w)/\
 aA pg (aF 40 b8 p9) (dr w) λ_u3 aGs=>
 (aO pg (aB 47 Kb) q0 aGs/\True)/\
 aA pg (aF 47 b9 q0) aGs λ_u4 awQ=>
 awQ=awQ/\
 kD pg 40 b8 awQ λr0=>kD pg 47 b9 awQ λr1=>R (.tuple #[r0,r1,PR]) awQ
def XY(kn:K5) Uk Vk Kb b8 b9 PR w:=
 aA pg (aD 47 Kb 6) w λo7 w=>
 aA pg (aF 31 o7 PR) w λ_u w=>
 aA pg (aE .eql 31 (.tmp 108) (.const (aLY 0)) PR (aLY 0)) w λo9 w=>
 cP o9
  (aA pg (aD 47 Kb 3) w λp1 w=>
  aA pg (aB 45 p1) w λp2 w=>
  aA pg (eI .append #[45,45] 45 [(.slice none 0 0),p2]) w λp3 w=>
  aA pg (aR 45 p3 Uk) w λp6 w=>
  aA pg (aF 4 p6 (.bool true)) w λ_u w=>
  aA pg (aD 47 Kb 3) w λp8 w=>
  aA pg (aF 45 p8 p3) w λ_u w=>
  kn Vk Kb b8 b9 PR w)
  (kn Vk Kb b8 b9 PR w)
def Hk(R:K1) Uk Vk Kb b8 b9 PR w:=
 XY (Hj R) Uk Vk Kb b8 b9 PR w
def XZ(kn:K6) Uk Vk Kb b8 b9 PR w:=
 aA pg (aE .eql 31 (.tmp 99) (.const (aLY 0)) PR (aLY 0)) w λo0 w=>
 cP o0
  (aA pg (aB 40 Vk) w λo2 w=>
  aG pg oX #[o2] w λo3 w=>
  aA pg (aP o3 0) w λo4 w=>
  aA pg (aP o3 1) w λo5 w=>
  aA pg (aF 40 Vk o4) w λ_u w=>
  kn Uk Vk Kb b8 b9 o5 w)
  (kn Uk Vk Kb b8 b9 PR w)
def Hl(R:K1) Uk Vk Kb b8 b9 PR w:=
 XZ (Hk R) Uk Vk Kb b8 b9 PR w
def X0 (kn:K6) Uk Vk Kb b8 b9 PR w:=
 aA pg (aE .eql 31 (.tmp 87) (.const (aLY 0)) PR (aLY 0)) w λm8 w=>
 cP m8
  (aA pg (aB 40 Vk) w λn0 w=>
  aA pg (aB 47 Kb) w λn1 w=>
  aA pg (cJ 3 26 Uk) w λn3 w=>
  aA pg (bV 123 [(0,(.int .u8 2)),(1,n3)]) w λn4 w=>
  aG pg wE #[n0,n1,n4] w λn5 w=>
  aA pg (aP n5 0) w λn6 w=>
  aA pg (aP n5 1) w λn7 w=>
  aA pg (aP n5 2) w λn8 w=>
  aA pg (aF 40 Vk n6) w λ_u w=>
  aA pg (aF 47 Kb n7) w λ_u w=>
  kn Uk Vk Kb b8 b9 n8 w)
  (kn Uk Vk Kb b8 b9 PR w)
def Hm(R:K1) Uk Vk Kb b8 b9 PR w:=
 X0 (Hl R) Uk Vk Kb b8 b9 PR w
def X3 (kn:K6)(R:K1) fG SG Uk iZ w:=
 aA pg (iX 40 fG) w λVk w=>
 aA pg (iX 47 SG) w λKb w=>
 aA pg (bE 40) w λb8 w=>
 aA pg (bE 47) w λb9 w=>
 aA pg (aD 47 Kb 6) w λc7 w=>
 aA pg (aB 31 c7) w λc8 w=>
 aA pg (aE .neq 31 (.tmp 18) (.const (aLY 0)) c8 (aLY 0)) w λc9 w=>
 cP c9
  (aA pg (aB 40 Vk) (dr w) λd0 w_=>w_=(dr w)/\
  aA pg (aB 47 Kb) (dr w) λd1 w_=>w_=(dr w)/\
  aA pg (aD 47 Kb 6) (dr w) λd2 w_=>w_=(dr w)/\
  aA pg (aB 31 d2) (dr w) λd3 w_=>w_=(dr w)/\
  aA pg (aF 40 b8 d0) (dr w) λ_u4 gJ=>
  (aO pg (aB 31 d2) d3 gJ/\aO pg (aD 47 Kb 6) d2 gJ/\aO pg (aB 47 Kb) d1 gJ/\True)/\
  aA pg (aF 47 b9 d1) gJ λ_u5 fP=>
  (aO pg (aB 31 d2) d3 fP/\aO pg (aD 47 Kb 6) d2 fP/\True)/\
  fP=fP/\
  kD pg 40 b8 fP λr0=>kD pg 47 b9 fP λr1=>R (.tuple #[r0,r1,d3]) fP)
  (aA pg (aE .lss 3 aM aM Uk (aLY 0)) w λd5 w=>
  Gd (bG d5 false) (λK=>K Uk w) w λd7 w=>
  Gd (bG d5 false) (λK=>aA pg (aD 47 Kb 3) w K) w λd8 w=>
  Gd (bG d5 false) (λK=>aA pg (aB 45 d8) w K) w λd9 w=>
  Gd (bG d5 false) (λK=>aA pg (eI .len #[45] 3 [d9]) w K) w λe0 w=>
  Gd (bG d5 false) (λK=>aA pg (aE .geq 3 aM aM d7 e0) w K) w λe1 w=>
  aA pg (cG d5 (.bool true) e1) w λe2 w=>
  cP e2
   (aA pg (aB 40 Vk) (dr w) λe3 w_=>w_=(dr w)/\
   aA pg (aB 47 Kb) (dr w) λe4 w_=>w_=(dr w)/\
   aA pg (aF 40 b8 e3) (dr w) λ_u2 aIi=>
   (aO pg (aB 47 Kb) e4 aIi/\True)/\
   aA pg (aF 47 b9 e4) aIi λ_u3 Hu=>
   Hu=Hu/\
   kD pg 40 b8 Hu λr0=>kD pg 47 b9 Hu λr1=>R (.tuple #[r0,r1,(aLY 17)]) Hu)
   (aA pg (aD 47 Kb 5) w λe5 w=>
   aA pg (aB 4 e5) w λe6 w=>
   Gd (bG e6 false) (λK=>aA pg (aD 47 Kb 3) w K) w λe8 w=>
   Gd (bG e6 false) (λK=>aA pg (aB 45 e8) w K) w λe9 w=>
   Gd (bG e6 false) (λK=>K Uk w) w λf0 w=>
   Gd (bG e6 false) (λK=>aA pg (aR 45 e9 f0) w K) w λf1 w=>
   Gd (bG e6 false) (λK=>aA pg (aB 4 f1) w K) w λf2 w=>
   aA pg (cG e6 (.bool true) f2) w λf3 w=>
   cP f3
    (aA pg (aB 40 Vk) (dr w) λf4 w_=>w_=(dr w)/\
    aA pg (aB 47 Kb) (dr w) λf5 w_=>w_=(dr w)/\
    aA pg (aF 40 b8 f4) (dr w) λ_u2 aIm=>
    (aO pg (aB 47 Kb) f5 aIm/\True)/\
    aA pg (aF 47 b9 f5) aIm λ_u3 aEy=>
    aEy=aEy/\
    kD pg 40 b8 aEy λr0=>kD pg 47 b9 aEy λr1=>R (.tuple #[r0,r1,(aLY 0)]) aEy)
    (aA pg (aD 47 Kb 1) w λf6 w=>
    aA pg (aB 44 f6) w λf7 w=>
    aG pg Ak #[f7,Uk,iZ] w λi0 w=>
    aA pg (GI .not i0) w λi2 w=>
    cP i2
     (aA pg (aB 40 Vk) (dr w) λi3 w_=>w_=(dr w)/\
     aA pg (aB 47 Kb) (dr w) λi4 w_=>w_=(dr w)/\
     aA pg (aF 40 b8 i3) (dr w) λ_u2 aIo=>
     (aO pg (aB 47 Kb) i4 aIo/\True)/\
     aA pg (aF 47 b9 i4) aIo λ_u3 awS=>
     awS=awS/\
     kD pg 40 b8 awS λr0=>kD pg 47 b9 awS λr1=>R (.tuple #[r0,r1,(aLY 13)]) awS)
     (aA pg (aD 47 Kb 1) w λi6 w=>
     aA pg (aD 44 i6 0) w λi7 w=>
     aA pg (aB 26 i7) w λi8 w=>
     aA pg (aD 47 Kb 1) w λi9 w=>
     aA pg (aD 44 i9 1) w λj0 w=>
     aA pg (aB 27 j0) w λj1 w=>
     aA pg (cJ 27 3 j1) w λj2 w=>
     aG pg yR #[i8,j2,Uk] w λj4 w=>
     aA pg (aP j4 0) w λj5 w=>
     aA pg (aP j4 1) w λj6 w=>
     aA pg (aP j4 2) w λj7 w=>
     aA pg (aB 40 Vk) w λj9 w=>
     aA pg (aD 47 Kb 0) w λl0 w=>
     aA pg (aB 9 l0) w λl1 w=>
     aA pg (aE .add 9 aM aM l1 (.string ⟨#[46,112,97,114,116]⟩)) w λl2 w=>
     aA pg (cJ 26 3 j5) w λl4 w=>
     aA pg (bV 96 [(1,l2),(3,l4),(4,iZ)]) w λl6 w=>
     aG pg gX #[j9,l6] w λl7 w=>
     aA pg (aP l7 0) w λl8 w=>
     aA pg (aP l7 1) w λl9 w=>
     aA pg (aF 40 Vk l8) w λ_u w=>
     aA pg (aE .eql 31 (.tmp 80) (.const (aLY 0)) l9 (aLY 0)) w λm1 w=>
     cP m1
      (aA pg (aB 40 Vk) w λm3 w=>
      aG pg oX #[m3] w λm4 w=>
      aA pg (aP m4 0) w λm5 w=>
      aA pg (aP m4 1) w λm6 w=>
      aA pg (aF 40 Vk m5) w λ_u w=>
      kn Uk Vk Kb b8 b9 m6 w)
      (kn Uk Vk Kb b8 b9 l9 w)))))
def X4 (R:K1) fG SG Uk iZ w:=
 X3 (Hm R) R fG SG Uk iZ w
def aoC a0 a1 a2 a3 w(R:K1):=
 X4 R a0 a1 a2 a3 w
theorem aiY{a0 a1 a2 a3 w R}(h:aoC a0 a1 a2 a3 w R):aG pg JN #[a0,a1,a2,a3] w R:=
 jF (ann:=alD) Tryz.f28 agQ [a0,a1,a2,a3] aqU 122 TryzM.mixed Tryz.func28 (dN 9 (Ui (Mq6 (Hm R) 2 4 5 8 9 15) h (λg w h=>aJ (dN 1 (iK (Mq6 (Hl R) 2 4 5 8 9 15) h (λg w h=>aJ (dN 1 (iK (Mq6 (Hk R) 2 4 5 8 9 15) h (λg w h=>aJ (dN 2 (iK (YG (Hj R) 4 5 8 9 15) h (λg w h=>aJ (jP h dE))))))))))) dE))
def YP:FA:=⟨Ca,λi=>match Nat.beq i 2 with|true=> .leaf ([4,5],[(1,4),(2,4),(2,5),(3,4),(3,5)]) (fz 4 (ft [0,1,2] (ft [1,2] (fz 1 []))))|false=>match Nat.beq i 5 with|true=> .leaf ([2,3],[(1,2)]) (fz 2 (ft [0] (ft [] (fz 1 []))))|false=>match Nat.beq i 9 with|true=> .leaf ([3,4],[(1,3)]) (fz 3 (ft [1] (ft [] (fz 1 []))))|false=>match Nat.beq i 13 with|true=> .leaf ([2,3],[(1,2)]) (fz 2 (ft [0] (ft [] (fz 1 []))))|false=>match Nat.beq i 19 with|true=> .leaf ([3,4],[(1,3)]) (fz 3 (ft [1] (ft [] (fz 1 []))))|false=> .leaf ([],[]) []⟩
def aeN:List ResultVar:=[.cell 4 40,.cell 5 47,.tmp 6]
noncomputable def Wg:Code:=bA Tryz.f29
def AR(R:K1) pX Ay b4 b5 e_9 w:=
 aA pg (aD 47 Ay 6) w λl4 w=>
 aA pg (aF 31 l4 e_9) w λ_u w=>
 aA pg (aE .eql 31 (.tmp 75) (.const (aLY 0)) e_9 (aLY 0)) w λl6 w=>
 aA pg (aD 47 Ay 5) w λl7 w=>
 aA pg (aF 4 l7 l6) w λ_u w=>
 aA pg (aB 40 pX) (dr w) λl8 w_=>w_=(dr w)/\
 aA pg (aB 47 Ay) (dr w) λl9 w_=>w_=(dr w)/\
 (dr w)=(dr w)/\
 aA pg (aF 40 b4 l8) (dr w) λ_u3 aGr=>
 (aO pg (aB 47 Ay) l9 aGr/\True)/\
 aA pg (aF 47 b5 l9) aGr λ_u4 awO=>
 awO=awO/\
 kD pg 40 b4 awO λr0=>kD pg 47 b5 awO λr1=>R (.tuple #[r0,r1,e_9]) awO
def O7 (kn:K5)(R:K1) fG SG w:=
 aA pg (iX 40 fG) w λpX w=>
 aA pg (iX 47 SG) w λAy w=>
 aA pg (bE 40) w λb4 w=>
 aA pg (bE 47) w λb5 w=>
 aA pg (aD 47 Ay 6) w λc0 w=>
 aA pg (aB 31 c0) w λc1 w=>
 aA pg (aE .neq 31 (.tmp 11) (.const (aLY 0)) c1 (aLY 0)) w λc2 w=>
 Gd (bG c2 false) (λK=>aA pg (aD 47 Ay 5) w K) w λc4 w=>
 Gd (bG c2 false) (λK=>aA pg (aB 4 c4) w K) w λc5 w=>
 aA pg (cG c2 (.bool true) c5) w λc6 w=>
 cP c6
  (aA pg (aB 40 pX) (dr w) λc7 w_=>w_=(dr w)/\
  aA pg (aB 47 Ay) (dr w) λc8 w_=>w_=(dr w)/\
  aA pg (aD 47 Ay 6) (dr w) λc9 w_=>w_=(dr w)/\
  aA pg (aB 31 c9) (dr w) λd0 w_=>w_=(dr w)/\
  aA pg (aF 40 b4 c7) (dr w) λ_u4 gJ=>
  (aO pg (aB 31 c9) d0 gJ/\aO pg (aD 47 Ay 6) c9 gJ/\aO pg (aB 47 Ay) c8 gJ/\True)/\
  aA pg (aF 47 b5 c8) gJ λ_u5 fP=>
  (aO pg (aB 31 c9) d0 fP/\aO pg (aD 47 Ay 6) c9 fP/\True)/\
  fP=fP/\
  kD pg 40 b4 fP λr0=>kD pg 47 b5 fP λr1=>R (.tuple #[r0,r1,d0]) fP)
  (aA pg (aD 47 Ay 3) w λd1 w=>
  aA pg (aB 45 d1) w λd2 w=>
  aG pg BH #[d2] w λd3 w=>
  aA pg (GI .not d3) w λd5 w=>
  cP d5
   (aA pg (aB 40 pX) (dr w) λd6 w_=>w_=(dr w)/\
   aA pg (aB 47 Ay) (dr w) λd7 w_=>w_=(dr w)/\
   aA pg (aF 40 b4 d6) (dr w) λ_u2 aIj=>
   (aO pg (aB 47 Ay) d7 aIj/\True)/\
   aA pg (aF 47 b5 d7) aIj λ_u3 YC=>
   YC=YC/\
   kD pg 40 b4 YC λr0=>kD pg 47 b5 YC λr1=>R (.tuple #[r0,r1,(aLY 30)]) YC)
   (aA pg (aB 40 pX) w λd9 w=>
   aA pg (aD 47 Ay 0) w λe0 w=>
   aA pg (aB 9 e0) w λe1 w=>
   aA pg (aE .add 9 aM aM e1 (.string ⟨#[46,112,97,114,116]⟩)) w λe2 w=>
   aG pg yT #[d9,e2] w λe3 w=>
   aA pg (aP e3 0) w λe4 w=>
   aA pg (aP e3 1) w λe5 w=>
   aA pg (aE .neq 31 (.tmp 36) (.const (aLY 0)) e5 (aLY 0)) w λe7 w=>
   cP e7
    (aA pg (aD 47 Ay 6) w λe9 w=>
    aA pg (aF 31 e9 e5) w λ_u w=>
    aA pg (aB 40 pX) (dr w) λf0 w_=>w_=(dr w)/\
    aA pg (aB 47 Ay) (dr w) λf1 w_=>w_=(dr w)/\
    (dr w)=(dr w)/\
    aA pg (aF 40 b4 f0) (dr w) λ_u3 awS=>
    (aO pg (aB 47 Ay) f1 awS/\True)/\
    aA pg (aF 47 b5 f1) awS λ_u4 wD=>
    wD=wD/\
    kD pg 40 b4 wD λr0=>kD pg 47 b5 wD λr1=>R (.tuple #[r0,r1,e5]) wD)
    (aA pg (aD 47 Ay 1) w λf3 w=>
    aA pg (aB 44 f3) w λf4 w=>
    aG pg qI #[f4,e4] w λf6 w=>
    aA pg (aD 47 Ay 3) w λf7 w=>
    aA pg (aF 45 f7 f6) w λ_u w=>
    aA pg (aD 47 Ay 3) w λf8 w=>
    aA pg (aB 45 f8) w λf9 w=>
    aG pg BH #[f9] w λi0 w=>
    aA pg (GI .not i0) w λi2 w=>
    cP i2
     (aA pg (aB 40 pX) (dr w) λi3 w_=>w_=(dr w)/\
     aA pg (aB 47 Ay) (dr w) λi4 w_=>w_=(dr w)/\
     aA pg (aF 40 b4 i3) (dr w) λ_u2 aGp=>
     (aO pg (aB 47 Ay) i4 aGp/\True)/\
     aA pg (aF 47 b5 i4) aGp λ_u3 awN=>
     awN=awN/\
     kD pg 40 b4 awN λr0=>kD pg 47 b5 awN λr1=>R (.tuple #[r0,r1,(aLY 13)]) awN)
     (aA pg (aB 40 pX) w λi6 w=>
     aA pg (aD 47 Ay 0) w λi7 w=>
     aA pg (aB 9 i7) w λi8 w=>
     aA pg (aE .add 9 aM aM i8 (.string ⟨#[46,112,97,114,116]⟩)) w λi9 w=>
     aA pg (aD 47 Ay 0) w λj0 w=>
     aA pg (aB 9 j0) w λj1 w=>
     aA pg (bV 96 [(0,(aLY 1)),(1,i9),(2,j1)]) w λj2 w=>
     aG pg gX #[i6,j2] w λj3 w=>
     aA pg (aP j3 0) w λj4 w=>
     aA pg (aP j3 1) w λj5 w=>
     aA pg (aF 40 pX j4) w λ_u w=>
     aA pg (aE .eql 31 (.tmp 66) (.const (aLY 0)) j5 (aLY 0)) w λj7 w=>
     cP j7
      (aA pg (aB 40 pX) w λj9 w=>
      aG pg oX #[j9] w λl0 w=>
      aA pg (aP l0 0) w λl1 w=>
      aA pg (aP l0 1) w λl2 w=>
      aA pg (aF 40 pX l1) w λ_u w=>
      kn pX Ay b4 b5 l2 w)
      (kn pX Ay b4 b5 j5 w)))))
def O8 (R:K1) fG SG w:=
 O7 (AR R) R fG SG w
def XR a0 a1 w(R:K1):=
 O8 R a0 a1 w
theorem XS{a0 a1 w R}(h:XR a0 a1 w R):aG pg Ca #[a0,a1] w R:=
 jF (ann:=YP) Tryz.f29 Wg [a0,a1] aeN 81 TryzM.mixed Tryz.func29 (dN 11 (Ui (YG (AR R) 2 3 4 5 9) h (λg w h=>aJ (jP h dE)) dE))
def Va:FA:=⟨yN,λi=> .leaf ([],[]) []⟩
def Yi:List ResultVar:=[]
noncomputable def TB:Code:=bA Tryz.f30
def JW(kn:K0) fG aEQ w:=
 aA pg (aE .neq 34 (.tmp 4) (.const (.pointer none)) fG (.pointer none)) w λb5 w=>
 cP b5
  (aA pg (eI .max #[3,3] 3 [aEQ,(aLY (-1))]) w λb8 w=>
  aA pg (cL fG) w λb9 w=>
  aA pg (aD 76 b9 4) w λc0 w=>
  aA pg (aF 3 c0 b8) w λ_u w=>
  kn w)
  (kn w)
def QY a0 a1 w(R:K1):=
 JW (λw=>R (.tuple #[]) w) a0 a1 w
theorem TI{a0 a1 w R}(h:QY a0 a1 w R):aG pg yN #[a0,a1] w R:=
 jF (ann:=Va) Tryz.f30 TB [a0,a1] Yi 11 TryzM.mixed Tryz.func30 (iK (Mq0 (λw=>R (.tuple #[]) w)) h dE)
def zN:FA:=⟨vI,λi=>match Nat.beq i 5 with|true=> .leaf ([5],[]) (fz 5 (ft [] []))|false=> .leaf ([],[]) []⟩
def VC:List ResultVar:=[]
noncomputable def wO:Code:=bA Tryz.f31
def A9 (kn:K0) fG w:=
 aA pg (cL fG) w λf0 w=>
 aA pg (aD 76 f0 1) w λf1 w=>
 aA pg (aB 73 f1) w λf2 w=>
 aG pg vL #[f2] w λf3 w=>
 aA pg (cL fG) w λf4 w=>
 aA pg (aD 76 f4 2) w λf5 w=>
 aA pg (aF 73 f5 f3) w λ_u w=>
 aA pg (cL fG) w λf6 w=>
 aA pg (aD 76 f6 3) w λf7 w=>
 aA pg (aF 74 f7 (.slice none 0 0)) w λ_u w=>
 aA pg (cL fG) w λf8 w=>
 aA pg (aD 76 f8 4) w λf9 w=>
 aA pg (aF 3 f9 (aLY (-1))) w λ_u w=>
 aA pg (cL fG) w λi0 w=>
 aA pg (aD 76 i0 5) w λi1 w=>
 aA pg (aF 4 i1 (.bool false)) w λ_u w=>
 kn w
def Ba(kn:K5) fG fC c1 c2 c3 w:=
 aA pg (aE .add 3 aM aM c3 (aLY 1)) w λe4 w=>
 kn fG fC c1 c2 e4 w
def HW(kn:K5)(k0:K1) fG fC c1 c2 c3 w:=
 aA pg (aE .lss 3 aM aM c3 c2) w λc4 w=>
 cP c4
  (aA pg (aR 74 c1 c3) w λc6 w=>
  aA pg (aB 137 c6) w λc7 w=>
  aA pg (bE 137) w λo_5 w=>
  aA pg (aF 137 o_5 c7) w λ_u w=>
  aA pg (eI .len #[45] 3 [fC]) w λd0 w=>
  aA pg (aE .lss 3 aM aM c3 d0) w λd1 w=>
  Gd (bG d1 true) (λK=>K fC w) w λd3 w=>
  Gd (bG d1 true) (λK=>K c3 w) w λd4 w=>
  Gd (bG d1 true) (λK=>aA pg (aR 45 d3 d4) w K) w λd5 w=>
  Gd (bG d1 true) (λK=>aA pg (aB 4 d5) w K) w λd6 w=>
  aA pg (cG d1 d6 (.bool false)) w λd7 w=>
  cP d7
   ((dr w)=(dr w)/\
   aA pg (cL fG) (dr w) λd9 w_=>w_=(dr w)/\
   aA pg (aD 76 d9 1) (dr w) λe0 w_=>w_=(dr w)/\
   aA pg (aB 73 e0) (dr w) λe1 w_=>w_=(dr w)/\
   aA pg (aB 137 o_5) (dr w) λe2 w_=>w_=(dr w)/\
   aG pg tS #[e1,e2] (dr w) λe3 aI8=>
   kn fG fC c1 c2 c3 aI8)
   (kn fG fC c1 c2 c3 w))
  (k0 fG w)
def Bb(kn:K5)(k0:K1) fG fC c1 c2 c3 w:=
 HW (Ba kn) k0 fG fC c1 c2 c3 w
def sQ(k0:K1) fG fC c1 c2 c3 w:=
 bM (λ(X:aLX->K0) (t:aLX) (w:aLW)=>Bb (λ_ _ _ _ c3 w=>X c3 w) k0 fG fC c1 c2 t w) c3 w
theorem PI(k0:K1)(h0:E1 Q k0 0 0)(h:sQ k0 (g 0) (g 1) (g 11) (g 12) (g 13) w):dM pg zN (bI (aN 1 (bK 1 (aN 1 wO)))) Q g w:=by
 refine EN (λg:Env=>g 13) (λX t w=>Bb (λ_ _ _ _ c3 w=>X c3 w) k0 (g 0) (g 1) (g 11) (g 12) t w) h (λX g1 w1 ha hL=> ?_)
 rw[<-eZ 0 ha,<-eZ 1 ha,<-eZ 11 ha,<-eZ 12 ha]at hL
 exact(dN 3 (DT [(0,(Mq1 k0 0))] (kr:=no) (YG (Ba (λ_ _ _ _ c3 w=>X c3 w)) 0 1 11 12 13) hL (λg w h=>aJ (iK (YG (λ_ _ _ _ c3 w=>X c3 w) 0 1 11 12 13) h dE)) Jx ⟨h0,trivial⟩))
def HX(kn:K5) fG fC w:=
 aA pg (cL fG) w λb9 w=>
 aA pg (aD 76 b9 3) w λc0 w=>
 aA pg (aB 74 c0) w λc1 w=>
 aA pg (eI .len #[74] 3 [c1]) w λc2 w=>
 kn fG fC c1 c2 (aLY 0) w
def Bc(kn:K1) fG fC w:=
 HX (sQ kn) fG fC w
def Bd(kn:K0) fG fC w:=
 Bc (A9 kn) fG fC w
theorem PJ(kn:K1)(hn:N1 Q kn 0)(h:Bc kn (g 0) (g 1) w):dM pg zN (bK 1 (aN 1 wO)) Q g w:=
 dN 1 (iK (YG (sQ kn) 0 1 11 12 13) h (λg w h=>aJ (A7 0 (PI _ g w kn hn h))))
def Gz(kn:K2)(R:K1) fG fC w:=
 aA pg (aE .eql 34 (.tmp 6) (.const (.pointer none)) fG (.pointer none)) w λb7 w=>
 cP b7
  (R (.tuple #[]) w)
  (kn fG fC w)
def GA(kn:K0)(R:K1) fG fC w:=
 Gz (Bd kn) R fG fC w
def OK a0 a1 w(R:K1):=
 GA (λw=>R (.tuple #[]) w) R a0 a1 w
theorem QV{a0 a1 w R}(h:OK a0 a1 w R):aG pg vI #[a0,a1] w R:=
 jF (ann:=zN) Tryz.f31 wO [a0,a1] VC 52 TryzM.mixed Tryz.func31 (dN 1 (Ui (Qq (Bd (λw=>R (.tuple #[]) w)) 0 1) h (λg w h=>aJ (dN 1 (PJ _ g w (A9 (λw=>R (.tuple #[]) w)) (λg w h=>aJ (iK (Mq0 (λw=>R (.tuple #[]) w)) h dE)) h))) dE))
def FW:FA:=⟨Ai,λi=>match Nat.beq i 5 with|true=> .leaf ([7,9],[]) (fz 7 (ft [] (fz 1 (ft [] []))))|false=> .leaf ([],[]) []⟩
def ajT:List ResultVar:=[.cell 4 40]
noncomputable def DQ:Code:=bA Tryz.f32
def CP(R:K1) pX b4 w:=
 aA pg (aD 40 pX 2) w λe2 w=>
 aA pg (aF 38 e2 (.slice none 0 0)) w λ_u w=>
 aA pg (aD 40 pX 4) w λe3 w=>
 aA pg (aF 4 e3 (.bool false)) w λ_u w=>
 aA pg (aD 40 pX 3) w λe4 w=>
 aA pg (aF 3 e4 (aLY (-1))) w λ_u w=>
 aA pg (aB 40 pX) w λe5 w=>
 aA pg (aF 40 b4 e5) w λ_u w=>
 kD pg 40 b4 w λr0=>R r0 w
def IJ(kn:K4) fC pX b4 vQ w:=
 aA pg (aE .add 3 aM aM vQ (aLY 1)) w λc8 w=>
 kn fC pX b4 c8 w
def Sa(kn:K4)(k0:K2) fC pX b4 vQ w:=
 aA pg (aD 40 pX 2) w λb7 w=>
 aA pg (aB 38 b7) w λb8 w=>
 aA pg (eI .len #[38] 3 [b8]) w λb9 w=>
 aA pg (aE .lss 3 aM aM vQ b9) w λc0 w=>
 Gd (bG c0 true) (λK=>K vQ w) w λc2 w=>
 Gd (bG c0 true) (λK=>K fC w) w λc3 w=>
 Gd (bG c0 true) (λK=>aA pg (eI .len #[45] 3 [c3]) w K) w λc4 w=>
 Gd (bG c0 true) (λK=>aA pg (aE .lss 3 aM aM c2 c4) w K) w λc5 w=>
 aA pg (cG c0 c5 (.bool false)) w λc6 w=>
 cP c6
  (aA pg (aR 45 fC vQ) w λd1 w=>
  aA pg (aB 4 d1) w λd2 w=>
  cP d2
   (aA pg (aD 40 pX 1) (dr w) λd3 w_=>w_=(dr w)/\
   aA pg (aB 37 d3) (dr w) λd4 w_=>w_=(dr w)/\
   aA pg (aD 40 pX 2) (dr w) λd5 w_=>w_=(dr w)/\
   aA pg (aB 38 d5) (dr w) λd6 w_=>w_=(dr w)/\
   (dr w)=(dr w)/\
   aA pg (aR 38 d6 vQ) (dr w) λd8 w_=>w_=(dr w)/\
   aA pg (aB 96 d8) (dr w) λd9 w_=>w_=(dr w)/\
   aG pg AY #[d4,d9] (dr w) λe0 aHt=>
   aA pg (aD 40 pX 1) aHt λe1 w_=>w_=aHt/\
   aA pg (aF 37 e1 e0) aHt λ_u9 aEx=>
   kn fC pX b4 vQ aEx)
   (kn fC pX b4 vQ w))
  (k0 pX b4 w)
def IK(kn:K4)(k0:K2) fC pX b4 vQ w:=
 Sa (IJ kn) k0 fC pX b4 vQ w
def CQ(k0:K2) fC pX b4 vQ w:=
 bM (λ(X:aLX->K0) (t:aLX) (w:aLW)=>IK (λ_ _ _ vQ w=>X vQ w) k0 fC pX b4 t w) vQ w
theorem XD(k0:K2)(h0:E2 Q k0 0 2 4)(h:CQ k0 (g 1) (g 2) (g 4) (g 5) w):dM pg FW (bI (aN 1 (bK 1 (aN 1 DQ)))) Q g w:=by
 refine EN (λg:Env=>g 5) (λX t w=>IK (λ_ _ _ vQ w=>X vQ w) k0 (g 1) (g 2) (g 4) t w) h (λX g1 w1 ha hL=> ?_)
 rw[<-eZ 1 ha,<-eZ 2 ha,<-eZ 4 ha]at hL
 exact(dN 2 (DT [(0,(Qq k0 2 4))] (kr:=no) (Ch (IJ (λ_ _ _ vQ w=>X vQ w)) 1 2 4 5) hL (λg w h=>aJ (iK (Ch (λ_ _ _ vQ w=>X vQ w) 1 2 4 5) h dE)) Jx ⟨h0,trivial⟩))
def Sb(kn:K4) fC pX b4 w:=
 kn fC pX b4 (aLY 0) w
def IL(kn:K2) fC pX b4 w:=
 Sb (CQ kn) fC pX b4 w
def IM(R:K1) fC pX b4 w:=
 IL (CP R) fC pX b4 w
theorem XE(kn:K2)(hn:N2 Q kn 2 4)(h:IL kn (g 1) (g 2) (g 4) w):dM pg FW (bK 1 (aN 1 DQ)) Q g w:=
 dN 1 (iK (Ch (CQ kn) 1 2 4 5) h (λg w h=>aJ (A7 0 (XD _ g w kn hn h))))
def O5 (kn:K3) fG fC w:=
 aA pg (iX 40 fG) w λpX w=>
 aA pg (bE 40) w λb4 w=>
 kn fC pX b4 w
def O6 (R:K1) fG fC w:=
 O5 (IM R) fG fC w
def abG a0 a1 w(R:K1):=
 O6 R a0 a1 w
theorem ZE{a0 a1 w R}(h:abG a0 a1 w R):aG pg Ai #[a0,a1] w R:=
 jF (ann:=FW) Tryz.f32 DQ [a0,a1] ajT 36 TryzM.mixed Tryz.func32 (dN 1 (iK (Gu (IM R) 1 2 4) h (λg w h=>aJ (dN 1 (XE _ g w (CP R) (λg w h=>aJ (jP h dE)) h)))))
def Ts:FA:=⟨gA,λi=>match Nat.beq i 9 with|true=> .leaf ([4],[(4,7),(4,8),(4,10),(4,11),(4,14),(4,15),(4,16)]) (fz 4 (ft [] (fz 2 (fu [2] (fu [3] (fz 1 (fu [5] (fu [6] (fz 2 (fu [9] (fu [10] (fu [11] (fz 2 [])))))))))))))|false=> .leaf ([],[]) []⟩
def VE:List ResultVar:=[.tmp 8]
noncomputable def QM:Code:=bA Tryz.f33
def HZ(R:K1) fG cR aCC iZ w:=
 aG pg kJ #[fG] w λc2 w=>
 aA pg (aE .neq 31 (.tmp 13) (.const (aLY 0)) c2 (aLY 0)) w λc4 w=>
 cP c4
  (R c2 w)
  (aA pg (cL fG) w λc7 w=>
  aA pg (aD 76 c7 2) w λc8 w=>
  aA pg (aB 73 c8) w λc9 w=>
  aA pg (CT 73 c9 cR false) w λd1 w=>
  aA pg (eI .len #[22] 3 [d1]) w λd2 w=>
  aG pg DI #[cR] w λd5 w=>
  aA pg (GI .not d5) w λd6 w=>
  Gd (bG d6 false) (λK=>K aCC w) w λd8 w=>
  Gd (bG d6 false) (λK=>aA pg (aE .lss 3 aM aM d8 (aLY 0)) w K) w λd9 w=>
  aA pg (cG d6 (.bool true) d9) w λe0 w=>
  cP e0
   (R (aLY 1) w)
   (aA pg (aE .gtr 3 aM aM aCC d2) w λe4 w=>
   cP e4
    (R (aLY 17) w)
    ((dr w)=(dr w)/\
    aA pg (cL fG) (dr w) λe7 w_=>w_=(dr w)/\
    aA pg (aD 76 e7 2) (dr w) λe8 w_=>w_=(dr w)/\
    aA pg (aB 73 e8) (dr w) λe9 w_=>w_=(dr w)/\
    aG pg vK #[e9] (dr w) λf0 wD=>
    wD=wD/\
    wD=wD/\
    aA pg (eI .len #[22] 3 [iZ]) wD λf3 w_=>w_=wD/\
    (aO pg (eI .len #[22] 3 [iZ]) f3 (dr w)/\True)/\
    aA pg (aE .add 3 aM aM aCC f3) wD λf4 w_=>w_=wD/\
    (aO pg (aE .add 3 aM aM aCC f3) f4 (dr w)/\True)/\
    wD=wD/\
    aA pg (aE .sub 3 aM aM f4 d2) wD λf6 w_=>w_=wD/\
    (aO pg (aE .sub 3 aM aM f4 d2) f6 (dr w)/\True)/\
    aA pg (eI .max #[3,3] 3 [f6,(aLY 0)]) wD λf7 w_=>w_=wD/\
    (aO pg (eI .max #[3,3] 3 [f6,(aLY 0)]) f7 (dr w)/\True)/\
    aA pg (aE .add 3 aM aM f0 f7) wD λf8 w_=>w_=wD/\
    wD=wD/\
    aA pg (cL fG) wD λi0 w_=>w_=wD/\
    (aO pg (cL fG) i0 (dr w)/\True)/\
    aA pg (aD 76 i0 0) wD λi1 w_=>w_=wD/\
    (aO pg (aD 76 i0 0) i1 (dr w)/\True)/\
    aA pg (aB 3 i1) wD λi2 w_=>w_=wD/\
    (aO pg (aB 3 i1) i2 (dr w)/\True)/\
    aA pg (aE .gtr 3 aM aM f8 i2) wD λi3 w_=>w_=wD/\
    wD=wD/\
    cP i3
     (R (aLY 22) wD)
     (aG pg fL #[iZ] wD λi8 w=>
     aA pg (bV 137 [(0,(aLY 0)),(1,cR),(3,aCC),(4,i8)]) w λi9 w=>
     aG pg mL #[fG,i9] w λj0 w=>
     R j0 w))))
def OM a0 a1 a2 a3 w(R:K1):=
 HZ R a0 a1 a2 a3 w
theorem Q0 {a0 a1 a2 a3 w R}(h:OM a0 a1 a2 a3 w R):aG pg gA #[a0,a1,a2,a3] w R:=
 jF (ann:=Ts) Tryz.f33 QM [a0,a1,a2,a3] VE 61 TryzM.mixed Tryz.func33 (jP h dE)
def abW:FA:=⟨pF,λi=> .leaf ([],[]) []⟩
def ajL:List ResultVar:=[.tmp 2]
noncomputable def YX:Code:=bA Tryz.f34
def Rh(R:K1) k_0 w:=
 aA pg (bB 80 4 [(0,(.string ⟨#[102]⟩)),(1,(.string ⟨#[102,46,112,97,114,116]⟩)),(2,(.string ⟨#[102,46,108,111,103]⟩)),(3,(.string ⟨#[103]⟩))]) w λb3 w=>
 aA pg (aE .and 5 aM aM k_0 (.int .u8 3)) w λb5 w=>
 aA pg (aR 80 b3 b5) w λb6 w=>
 aA pg (aB 9 b6) w λb7 w=>
 R b7 w
def aaN a0 w(R:K1):=
 Rh R a0 w
theorem Zh{a0 w R}(h:aaN a0 w R):aG pg pF #[a0] w R:=
 jF (ann:=abW) Tryz.f34 YX [a0] ajL 8 TryzM.mixed Tryz.func34 (jP h dE)
def alA:FA:=⟨gX,λi=> .leaf ([],[]) []⟩
def aqR:List ResultVar:=[.cell 4 40,.tmp 5]
noncomputable def agO:Code:=bA Tryz.f35
def XC(R:K1) fG o_1 w:=
 aA pg (iX 40 fG) w λpX w=>
 aA pg (iX 96 o_1) w λrU w=>
 aA pg (bE 40) w λb4 w=>
 aA pg (aB 40 pX) w λb9 w=>
 aA pg (aB 96 rU) w λc0 w=>
 aG pg GR #[b9,c0] w λc1 w=>
 aA pg (aE .neq 31 (.tmp 12) (.const (aLY 0)) c1 (aLY 0)) w λc3 w=>
 cP c3
  (aA pg (aB 40 pX) w λc4 w=>
  aA pg (aF 40 b4 c4) w λ_u w=>
  kD pg 40 b4 w λr0=>R (.tuple #[r0,c1]) w)
  (aA pg (aB 40 pX) w λc7 w=>
  aG pg Aj #[c7] w λc8 w=>
  aA pg (aP c8 0) w λc9 w=>
  aA pg (aP c8 1) w λd0 w=>
  aA pg (aF 40 pX c9) w λ_u w=>
  cP d0
   (aA pg (aB 40 pX) w λd2 w=>
   aA pg (aF 40 b4 d2) w λ_u w=>
   kD pg 40 b4 w λr0=>R (.tuple #[r0,(aLY 20)]) w)
   (aA pg (aD 40 pX 2) w λd4 w=>
   aA pg (aB 38 d4) w λd5 w=>
   aA pg (eI .append #[38,38] 38 [(.slice none 0 0),d5]) w λd6 w=>
   aA pg (aB 96 rU) w λd8 w=>
   aA pg (bB 38 1 [(0,d8)]) w λd9 w=>
   aA pg (eI .append #[38,38] 38 [d6,d9]) w λe0 w=>
   aA pg (aD 40 pX 2) w λe1 w=>
   aA pg (aF 38 e1 e0) w λ_u w=>
   aA pg (aB 40 pX) w λe2 w=>
   aA pg (aF 40 b4 e2) w λ_u w=>
   kD pg 40 b4 w λr0=>R (.tuple #[r0,(aLY 0)]) w))
def anY a0 a1 w(R:K1):=
 XC R a0 a1 w
theorem aiK{a0 a1 w R}(h:anY a0 a1 w R):aG pg gX #[a0,a1] w R:=
 jF (ann:=alA) Tryz.f35 agO [a0,a1] aqR 33 TryzM.mixed Tryz.func35 (jP h dE)
def Ps:FA:=⟨pZ,λi=> .leaf ([],[]) []⟩
def SB:List ResultVar:=[.tmp 2]
noncomputable def Nf:Code:=bA Tryz.f36
def Fz(R:K1) eY w:=
 aA pg (aE .eql 28 (.tmp 3) (.const (.slice none 0 0)) eY (.slice none 0 0)) w λb4 w=>
 cP b4
  (R (.slice none 0 0) w)
  (aA pg (bB 28 0 []) w λb5 w=>
  aA pg (eI .append #[28,28] 28 [b5,eY]) w λb7 w=>
  R b7 w)
def Kh a0 w(R:K1):=
 Fz R a0 w
theorem OA{a0 w R}(h:Kh a0 w R):aG pg pZ #[a0] w R:=
 jF (ann:=Ps) Tryz.f36 Nf [a0] SB 8 TryzM.mixed Tryz.func36 (jP h dE)
def QG:FA:=⟨jW,λi=> .leaf ([],[]) []⟩
def T3:List ResultVar:=[.tmp 4,.tmp 5,.tmp 6]
noncomputable def PF:Code:=bA Tryz.f37
def GO(R:K1) eY cR w:=
 aA pg (cL eY) w λc1 w=>
 aA pg (aD 99 c1 0) w λc2 w=>
 aA pg (aB 34 c2) w λc3 w=>
 aG pg gR #[c3,cR] w λc5 w=>
 aA pg (aP c5 0) w λc6 w=>
 aA pg (aP c5 1) w λc7 w=>
 aA pg (aE .eql 31 (.tmp 18) (.const (aLY 21)) c7 (aLY 21)) w λc9 w=>
 cP c9
  (R (.tuple #[(.slice none 0 0),(.bool false),(aLY 0)]) w)
  (aA pg (aE .eql 31 (.tmp 21) (.const (aLY 0)) c7 (aLY 0)) w λd2 w=>
  R (.tuple #[c6,d2,c7]) w)
def MT a0 a1 w(R:K1):=
 GO R a0 a1 w
theorem Qn{a0 a1 w R}(h:MT a0 a1 w R):aG pg jW #[a0,a1] w R:=
 jF (ann:=QG) Tryz.f37 PF [a0,a1] T3 24 TryzM.mixed Tryz.func37 (jP h dE)
def sN:FA:=⟨iN,λi=>match Nat.beq i 5 with|true=> .leaf ([12],[]) (fz 12 (ft [] (fz 7 [])))|false=> .leaf ([],[]) []⟩
def Qb:List ResultVar:=[.tmp 4]
noncomputable def qL:Code:=bA Tryz.f38
def vC(R:K1) bT w:=
 R bT w
def vD(kn:K5)(k0:K1) eY yM bT c9 d0 w:=
 aA pg (aE .lss 3 aM aM d0 c9) w λd1 w=>
 cP d1
  ((dr w)=(dr w)/\
  aA pg (cL eY) (dr w) λd5 w_=>w_=(dr w)/\
  aA pg (aD 99 d5 2) (dr w) λd6 w_=>w_=(dr w)/\
  aA pg (aD 30 d6 0) (dr w) λd7 w_=>w_=(dr w)/\
  aA pg (aB 26 d7) (dr w) λd8 w_=>w_=(dr w)/\
  (dr w)=(dr w)/\
  aA pg (cL eY) (dr w) λe0 w_=>w_=(dr w)/\
  aA pg (aD 99 e0 2) (dr w) λe1 w_=>w_=(dr w)/\
  aA pg (aD 30 e1 1) (dr w) λe2 w_=>w_=(dr w)/\
  aA pg (aB 27 e2) (dr w) λe3 w_=>w_=(dr w)/\
  aA pg (cJ 27 3 e3) (dr w) λe4 w_=>w_=(dr w)/\
  (dr w)=(dr w)/\
  aG pg oN #[d8,e4,d0] (dr w) λe6 Ju=>
  Ju=Ju/\
  aA pg (aP e6 0) Ju λe7 w_=>w_=Ju/\
  aA pg (aP e6 1) Ju λe8 w_=>w_=Ju/\
  aA pg (aP e6 2) Ju λe9 w_=>w_=Ju/\
  Ju=Ju/\
  Ju=Ju/\
  Ju=Ju/\
  aA pg (cJ 3 26 e8) Ju λf2 w=>
  aA pg (aE .add 26 aM aM e7 f2) w λf3 w=>
  aA pg (aE .eql 31 (.tmp 46) (.const (aLY 0)) e9 (aLY 0)) w λf7 w=>
  Gd (bG f7 true) (λK=>K f3 w) w λf9 w=>
  Gd (bG f7 true) (λK=>K yM w) w λi0 w=>
  Gd (bG f7 true) (λK=>aA pg (eI .len #[22] 3 [i0]) w K) w λi1 w=>
  Gd (bG f7 true) (λK=>aA pg (cJ 3 26 i1) w K) w λi2 w=>
  Gd (bG f7 true) (λK=>aA pg (aE .leq 26 aM aM f9 i2) w K) w λi3 w=>
  aA pg (cG f7 i3 (.bool false)) w λi4 w=>
  Gd (bG i4 true) (λK=>K eY w) w λi6 w=>
  Gd (bG i4 true) (λK=>K d0 w) w λi7 w=>
  Gd (bG i4 true) (λK=>K yM w) w λi8 w=>
  Gd (bG i4 true) (λK=>K e7 w) w λi9 w=>
  Gd (bG i4 true) (λK=>K f3 w) w λj0 w=>
  Gd (bG i4 true) (λK=>aA pg (dG 22 i8 (some i9) (some j0) none) w K) w λj1 w=>
  Gd (bG i4 true) (λK=>aG pg lN #[i6,i7,j1] w K) w λj2 w=>
  aA pg (cG i4 j2 (.bool false)) w λj3 w=>
  aA pg (aR 45 bT d0) w λj4 w=>
  aA pg (aF 4 j4 j3) w λ_u w=>
  aA pg (aE .add 3 aM aM d0 (aLY 1)) w λj5 w=>
  kn eY yM bT c9 j5 w)
  (k0 bT w)
def nM(k0:K1) eY yM bT c9 d0 w:=
 bM (λ(X:aLX->K0) (t:aLX) (w:aLW)=>vD (λ_ _ _ _ d0 w=>X d0 w) k0 eY yM bT c9 t w) d0 w
theorem LC(k0:K1)(h0:E1 Q k0 0 5)(h:nM k0 (g 0) (g 1) (g 5) (g 19) (g 20) w):dM pg sN (bI (aN 1 (bK 1 (aN 2 qL)))) Q g w:=by
 refine EN (λg:Env=>g 20) (λX t w=>vD (λ_ _ _ _ d0 w=>X d0 w) k0 (g 0) (g 1) (g 5) (g 19) t w) h (λX g1 w1 ha hL=> ?_)
 rw[<-eZ 0 ha,<-eZ 1 ha,<-eZ 5 ha,<-eZ 19 ha]at hL
 exact(DT [(0,(Mq1 k0 5))] (kr:=no) (YG (λ_ _ _ _ d0 w=>X d0 w) 0 1 5 19 20) hL dE Jx ⟨h0,trivial⟩)
def DC(kn:K5) eY yM bT w:=
 aA pg (eI .len #[45] 3 [bT]) w λc9 w=>
 kn eY yM bT c9 (aLY 0) w
def vF(kn:K1) eY yM bT w:=
 DC (nM kn) eY yM bT w
def vG(R:K1) eY yM bT w:=
 vF (vC R) eY yM bT w
theorem LD(kn:K1)(hn:N1 Q kn 5)(h:vF kn (g 0) (g 1) (g 5) w):dM pg sN (bK 1 (aN 2 qL)) Q g w:=
 dN 1 (iK (YG (nM kn) 0 1 5 19 20) h (λg w h=>aJ (A7 0 (LC _ g w kn hn h))))
def DD(kn:K3) eY yM w:=
 aA pg (cL eY) w λc2 w=>
 aA pg (aD 99 c2 2) w λc3 w=>
 aA pg (aD 30 c3 2) w λc4 w=>
 aA pg (aB 28 c4) w λc5 w=>
 aA pg (eI .len #[28] 3 [c5]) w λc6 w=>
 aA pg (xP 45 c6 c6) w λc7 w=>
 kn eY yM c7 w
def DE(R:K1) eY yM w:=
 DD (vG R) eY yM w
def Jm a0 a1 w(R:K1):=
 DE R a0 a1 w
theorem MV{a0 a1 w R}(h:Jm a0 a1 w R):aG pg iN #[a0,a1] w R:=
 jF (ann:=sN) Tryz.f38 qL [a0,a1] Qb 67 TryzM.mixed Tryz.func38 (dN 2 (iK (Gu (vG R) 0 1 5) h (λg w h=>aJ (dN 1 (LD _ g w (vC R) (λg w h=>aJ (jP h dE)) h)))))
def alE:FA:=⟨BI,λi=> .leaf ([],[]) []⟩
def aqV:List ResultVar:=[.tmp 2]
noncomputable def agR:Code:=bA Tryz.f39
def Yw(R:K1) iD w:=
 aG pg sJ #[iD,(.bool false)] w λb4 w=>
 aA pg (GI .not b4) w λb5 w=>
 R b5 w
def aoN a0 w(R:K1):=
 Yw R a0 w
theorem akO{a0 w R}(h:aoN a0 w R):aG pg BI #[a0] w R:=
 jF (ann:=alE) Tryz.f39 agR [a0] aqV 6 TryzM.mixed Tryz.func39 (jP h dE)
def M6:FA:=⟨kK,λi=> .leaf ([],[]) []⟩
def P8:List ResultVar:=[.tmp 2,.tmp 3]
noncomputable def LV:Code:=bA Tryz.f40
def Dw(R:K1) eY w:=
 aA pg (cL eY) w λc4 w=>
 aA pg (aD 99 c4 1) w λc5 w=>
 aA pg (aB 9 c5) w λc6 w=>
 aA pg (aE .add 9 aM aM c6 (.string ⟨#[46,108,111,103]⟩)) w λc7 w=>
 aG pg jW #[eY,c7] w λc8 w=>
 aA pg (aP c8 0) w λc9 w=>
 aA pg (aP c8 1) w λd0 w=>
 aA pg (aP c8 2) w λd1 w=>
 aA pg (aE .neq 31 (.tmp 22) (.const (aLY 0)) d1 (aLY 0)) w λd3 w=>
 cP d3
  (R (.tuple #[(.slice none 0 0),d1]) w)
  (aG pg fV #[c9] w λd7 w=>
  aA pg (aP d7 0) w λd8 w=>
  aA pg (aP d7 1) w λd9 w=>
  aG pg Ez #[d8,(.int .u8 1)] w λe2 w=>
  aA pg (aP e2 0) w λe3 w=>
  aA pg (aP e2 1) w λe4 w=>
  aA pg (aE .eql 26 (.tmp 35) (.const (.int .u64 18446744073709551615)) e3 (.int .u64 18446744073709551615)) w λe6 w=>
  cP e6
   (R (.tuple #[(.slice none 0 0),(aLY 23)]) w)
   (aA pg (aE .add 26 aM aM e3 (.int .u64 1)) w λf0 w=>
   aA pg (cL eY) w λf2 w=>
   aA pg (aD 99 f2 3) w λf3 w=>
   aA pg (aF 26 f3 f0) w λ_u w=>
   aA pg (cL eY) w λf4 w=>
   aA pg (aD 99 f4 5) w λf5 w=>
   aA pg (aF 3 f5 d9) w λ_u w=>
   aA pg (cL eY) w λf9 w=>
   aA pg (aD 99 f9 3) w λi0 w=>
   aA pg (aB 26 i0) w λi1 w=>
   aA pg (bV 109 [(0,(.int .u8 1)),(1,i1)]) w λi2 w=>
   aG pg kL #[eY,i2] w λi3 w=>
   R (.tuple #[d8,i3]) w))
def Jj a0 w(R:K1):=
 Dw R a0 w
theorem MR{a0 w R}(h:Jj a0 w R):aG pg kK #[a0] w R:=
 jF (ann:=M6) Tryz.f40 LV [a0] P8 54 TryzM.mixed Tryz.func40 (jP h dE)
def M7:FA:=⟨oZ,λi=>match Nat.beq i 5 with|true=> .leaf ([9],[]) (fz 9 (ft [] (fz 1 [])))|false=>match Nat.beq i 11 with|true=> .leaf ([13,14],[(2,13),(3,13),(4,13),(6,13),(7,13),(8,13),(9,13),(11,13)]) (fz 13 (ft [1,3,4,5,6,8,9,10] (ft [] (fz 2 []))))|false=> .leaf ([],[]) []⟩
def P9:List ResultVar:=[.tmp 2,.tmp 3]
noncomputable def LW:Code:=bA Tryz.f41
def nL(R:K1) eY b_4 b5 w:=
 aA pg (cL eY) w λf6 w=>
 aA pg (aD 99 f6 2) w λf7 w=>
 aA pg (aD 30 f7 0) w λf8 w=>
 aA pg (aB 26 f8) w λf9 w=>
 aA pg (cJ 26 3 f9) w λi0 w=>
 aA pg (eI .len #[22] 3 [b_4]) w λi2 w=>
 aA pg (aE .sub 3 aM aM i0 i2) w λi3 w=>
 aA pg (aE .gtr 3 aM aM i3 (aLY 0)) w λi5 w=>
 Gd (bG i5 false) (λK=>K b5 w) w λi7 w=>
 Gd (bG i5 false) (λK=>aA pg (GI .not i7) w K) w λi8 w=>
 aA pg (cG i5 (.bool true) i8) w λi9 w=>
 cP i9
  ((dr w)=(dr w)/\
  (dr w)=(dr w)/\
  aA pg (cL eY) (dr w) λj2 w_=>w_=(dr w)/\
  aA pg (aD 99 j2 0) (dr w) λj3 w_=>w_=(dr w)/\
  aA pg (aB 34 j3) (dr w) λj4 w_=>w_=(dr w)/\
  (dr w)=(dr w)/\
  aA pg (cL eY) (dr w) λj6 w_=>w_=(dr w)/\
  aA pg (aD 99 j6 1) (dr w) λj7 w_=>w_=(dr w)/\
  aA pg (aB 9 j7) (dr w) λj8 w_=>w_=(dr w)/\
  aA pg (aE .add 9 aM aM j8 (.string ⟨#[46,112,97,114,116]⟩)) (dr w) λj9 w_=>w_=(dr w)/\
  (dr w)=(dr w)/\
  aA pg (eI .len #[22] 3 [b_4]) (dr w) λl1 w_=>w_=(dr w)/\
  (dr w)=(dr w)/\
  aA pg (xP 22 i3 i3) (dr w) λl3 Js=>
  (aO pg (eI .len #[22] 3 [b_4]) l1 Js/\aO pg (aE .add 9 aM aM j8 (.string ⟨#[46,112,97,114,116]⟩)) j9 Js/\aO pg (aB 9 j7) j8 Js/\aO pg (aD 99 j6 1) j7 Js/\aO pg (cL eY) j6 Js/\aO pg (aB 34 j3) j4 Js/\aO pg (aD 99 j2 0) j3 Js/\aO pg (cL eY) j2 Js/\True)/\
  aG pg gA #[j4,j9,l1,l3] Js λl4 akS=>
  akS=akS/\
  akS=akS/\
  R (.tuple #[b_4,l4]) akS)
  (R (.tuple #[b_4,(aLY 0)]) w)
def Dx(kn:K3)(R:K1) eY w:=
 aA pg (cL eY) w λc2 w=>
 aA pg (aD 99 c2 1) w λc3 w=>
 aA pg (aB 9 c3) w λc4 w=>
 aA pg (aE .add 9 aM aM c4 (.string ⟨#[46,112,97,114,116]⟩)) w λc5 w=>
 aG pg jW #[eY,c5] w λc6 w=>
 aA pg (aP c6 0) w λc7 w=>
 aA pg (aP c6 1) w λc8 w=>
 aA pg (aP c6 2) w λc9 w=>
 aA pg (aE .neq 31 (.tmp 20) (.const (aLY 0)) c9 (aLY 0)) w λd1 w=>
 cP d1
  (R (.tuple #[(.slice none 0 0),c9]) w)
  (aA pg (eI .len #[22] 3 [c7]) w λd4 w=>
  aA pg (cJ 3 26 d4) w λd5 w=>
  aA pg (cL eY) w λd7 w=>
  aA pg (aD 99 d7 2) w λd8 w=>
  aA pg (aD 30 d8 0) w λd9 w=>
  aA pg (aB 26 d9) w λe0 w=>
  aA pg (aE .gtr 26 aM aM d5 e0) w λe1 w=>
  cP e1
   ((dr w)=(dr w)/\
   aA pg (cL eY) (dr w) λe3 w_=>w_=(dr w)/\
   aA pg (aD 99 e3 0) (dr w) λe4 w_=>w_=(dr w)/\
   aA pg (aB 34 e4) (dr w) λe5 w_=>w_=(dr w)/\
   (dr w)=(dr w)/\
   aA pg (cL eY) (dr w) λe7 w_=>w_=(dr w)/\
   aA pg (aD 99 e7 1) (dr w) λe8 w_=>w_=(dr w)/\
   aA pg (aB 9 e8) (dr w) λe9 w_=>w_=(dr w)/\
   aA pg (aE .add 9 aM aM e9 (.string ⟨#[46,112,97,114,116]⟩)) (dr w) λf0 w_=>w_=(dr w)/\
   aG pg sE #[e5,f0] (dr w) λf1 aEx=>
   aEx=aEx/\
   aA pg (aE .neq 31 (.tmp 42) (.const (aLY 0)) f1 (aLY 0)) aEx λf3 w=>
   cP f3
    (R (.tuple #[(.slice none 0 0),f1]) w)
    (kn eY (.slice none 0 0) (.bool false) w))
   (kn eY c7 c8 w))
def Dy(R:K1) eY w:=
 Dx (nL R) R eY w
def Jk a0 w(R:K1):=
 Dy R a0 w
theorem MS{a0 w R}(h:Jk a0 w R):aG pg oZ #[a0] w R:=
 jF (ann:=M7) Tryz.f41 LW [a0] P9 76 TryzM.mixed Tryz.func41 (dN 4 (Ui (Gu (nL R) 0 4 5) h (λg w h=>aJ (jP h dE)) dE))
def Vb:FA:=⟨dQ,λi=> .leaf ([],[]) []⟩
def Yj:List ResultVar:=[.tmp 2]
noncomputable def TC:Code:=bA Tryz.f42
def JX(R:K1) fG w:=
 aG pg kJ #[fG] w λb5 w=>
 aA pg (aE .neq 31 (.tmp 6) (.const (aLY 0)) b5 (aLY 0)) w λb7 w=>
 cP b7
  (R b5 w)
  (aG pg oU #[fG] w λc0 w=>
  cP c0
   (R (aLY 20) w)
   (aA pg (cL fG) w λc4 w=>
   aA pg (aD 76 c4 2) w λc5 w=>
   aA pg (aB 73 c5) w λc6 w=>
   aG pg vL #[c6] w λc7 w=>
   aA pg (cL fG) w λc8 w=>
   aA pg (aD 76 c8 1) w λc9 w=>
   aA pg (aF 73 c9 c7) w λ_u w=>
   aA pg (cL fG) w λd0 w=>
   aA pg (aD 76 d0 3) w λd1 w=>
   aA pg (aF 74 d1 (.slice none 0 0)) w λ_u w=>
   R (aLY 0) w))
def QZ a0 w(R:K1):=
 JX R a0 w
theorem TJ{a0 w R}(h:QZ a0 w R):aG pg dQ #[a0] w R:=
 jF (ann:=Vb) Tryz.f42 TC [a0] Yj 22 TryzM.mixed Tryz.func42 (jP h dE)
end Go.Proofs.YteelnmpbnaohpaaGreatDoor

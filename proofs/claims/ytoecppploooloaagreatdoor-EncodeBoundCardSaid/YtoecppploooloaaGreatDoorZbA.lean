/- Parts of the proof of EncodeBound: merged and given short names by a program of ours. -/
import Derived.Orders
import Derived.Below
import Derived.KernelRfl
import Derived.Eval
import Derived.RangeFuncRecord
import Derived.Laws.Sem
import Derived.Scope
import Derived.Test.YtoecppploooloaaGreatDoorRows
set_option linter.unusedVariables false
set_option linter.unusedSimpArgs false
open Array renaming getElem?_eq_getElem → aL0, getD_eq_getD_getElem? → aLI, getElem?_eq_none → aMC, all_eq_true' → aMW, getElem?_setIfInBounds_self_of_lt → aMe, getElem?_setIfInBounds_ne → aMr, getElem?_toList → aNO, length_toList → aNq, mem_of_getElem? → aOa
open Bool renaming false_eq_true → aLC, and_eq_true → aLM, or_eq_true → aM4, not_true → aMv, or_eq_false_iff → aNR, not_eq_true' → aNe
open List renaming mem_map → aL1, map_cons → aL3, drop_eq_getElem_cons → aL4, mem_cons_self → aL6, length_eq_zero_iff → aL8, mem_cons → aL9, getElem?_eq_none → aLD, mem_cons_of_mem → aLJ, length_cons → aLO, getElem_of_mem → aLU, getElem?_eq_getElem → aLp, getElem?_cons_succ → aLs, getD_eq_getElem?_getD → aLv, toList_toArray → aMR, mem_of_getElem? → aMi, all_eq_true → aMj, mem_append → aMm, mem_range → aMo, map_congr_left → aMz, range'_succ → aN9, mem_append_right → aNP, mem_filter → aNW, length_erase_of_mem → aNY, map_nil → aNZ, mem_append_left → aNo
open Nat renaming zero_add → aLE, lt_or_ge → aLH, le_refl → aLw, add_assoc → aMI, eq_of_beq_eq_true → aMf, le_trans → aMq, blt_eq → aNH, mod_lt → aNI, le_of_ble_eq_true → aNm, lt_of_lt_of_le → aNn, lt_trichotomy → aNp, le_total → aOf
open Option renaming map_some → aL2, getD_some → aNs
open Option.some renaming inj → aLS, injEq → aNN
namespace Go.En
open Go
abbrev aOi:=World
abbrev aOj:=Value
abbrev Env:=Nat->aOj
def put(g:Env)(d:Option Tmp)(v:aOj):Env:=
 match d with
 |some d=>λi=>match Nat.beq i d with|true=>v|false=>g i
 |none=>g
def ev(g:Env):Operand->aOj
 | .tmp t=>g t
 | .const v=>v
 | .global b=> .pointer (some ⟨b,0,none⟩)
 | .func f=> .func (.func f) #[] #[]
def Ret(P:Program)(f:FuncId)(args:Array aOj)(w:aOi)(v:aOj)(w':aOi):Prop:=
 Calls P f args w λe w''=>e= .returned v/\w''=w'
def aK(P:Program)(f:FuncId)(args:Array aOj)(w:aOi)(R:aOj->aOi->Prop):Prop:=
 ∃v w',Ret P f args w v w'/\R v w'
theorem aK.mono {P:Program}{f:FuncId}{args:Array aOj}{w:aOi}{R R':aOj->aOi->Prop}(h:aK P f args w R)
 (hr:∀v w',R v w'->R' v w'):aK P f args w R':=
 let⟨v,w',a,b⟩:=h;⟨v,w',a,hr _ _ b⟩
def aJj(P:Program)(l:Nat)(f:FuncId)(tmps:Array aOj)(aLn bd:Code)(w:aOi)(v:aOj)(w':aOi):Prop:=
 RoundIn Fence.wide 0 P l f tmps aLn bd w λe w''=>e= .returned v/\w''=w'
def alV(P:Program)(l:Nat)(f:FuncId)(tmps:Array aOj)(aLn bd:Code)(w:aOi)(R:aOj->aOi->Prop):Prop:=
 ∃v w',aJj P l f tmps aLn bd w v w'/\R v w'
def avI(P:Program)(r:Result Next)(K:aOj->aOi->Prop):Prop:=
 match r with
 | .ok (.value v) w=>K v w
 | .ok .skip w=>K undef w
 | .ok (.enter f args) w=>aK P f args w K
 | .ok (.round l f tmps aLn bd) w=>alV P l f tmps aLn bd w K
 |_=>False
theorem aF(P:Program)(v:aOj)(w:aOi)(K:aOj->aOi->Prop):avI P (.ok (.value v) w) K=K v w:=Eq.trans rfl rfl
theorem stepR_skip(P:Program)(w:aOi)(K:aOj->aOi->Prop):avI P (.ok .skip w) K=K undef w:=Eq.trans rfl rfl
theorem GB(P:Program)(f:FuncId)(args:Array aOj)(w:aOi)(K:aOj->aOi->Prop):avI P (.ok (.enter f args) w) K=aK P f args w K:=Eq.trans rfl rfl
theorem avJ(P:Program)(l:Nat)(f:FuncId)(tmps:Array aOj)(aLn bd:Code)(w:aOi)(K:aOj->aOi->Prop):
 avI P (.ok (.round l f tmps aLn bd) w) K=alV P l f tmps aLn bd w K:=Eq.trans rfl rfl
def aA(P:Program)(s:Sem Next)(w:aOi)(K:aOj->aOi->Prop):Prop:=avI P (s.run P w) K
def dR(P:Program)(s:Sem Next)(v:aOj)(w:aOi):Prop:=s.run P w= .ok (.value v) w
def Gd(b:Bool)(s:(aOj->aOi->Prop)->Prop)(w:aOi)(K:aOj->aOi->Prop):Prop:=
 match b with
 |true=>s K
 |false=>K undef w
def asB(v:aOj):Option Bool:=match v with| .bool b=>some b|_=>none
def bK(v:aOj)(want:Bool):Bool:=asB v==some want
def bQ(v:aOj)(A B:Prop):Prop:=
 match v with
 | .bool b=>(match b with|true=>A|false=>B)
 |_=>False
def EN(ops:Array Oper)(j:Nat):Option Tmp:=(ops[j]?).bind (·.dst)
def Bg(g:Env)(t:Option Tmp)(want:Bool):Bool:=match t with|some t=>bK (g t) want|none=>false
def V(s:Sem aOj):Sem Next:=do pure (.value (<-s))
def U(s:Sem Unit):Sem Next:=do s;pure .skip
def J2 (op:BinOp):Bool:=match op with| .eql| .neq=>true|_=>false
def aD(op:BinOp)(t:TypeId)(ox oy:Operand)(x y:aOj):Sem Next:=
 match J2 op with
 |true=>V (do eqGuard op t ox oy x y;binOp op t x y)
 |false=>V (binOp op t x y)
def dD(b:Builtin)(ats:Array TypeId)(ty:TypeId)(args:List aOj):Sem Next:=builtin b ats ty #[] args.toArray
def BF(f:aOj)(args:List aOj):Sem Next:=do let d<-Deferred.ofValue f args.toArray;invoke d.target d.args
def ajB(fn:Fn)(first captured:List aOj):Sem Next:=V (Instr.makeFunc fn first.toArray captured.toArray)
def bH(t:TypeId)(ps:List (Nat×aOj)):Sem Next:=V (Instr.build t ps.toArray)
def bT(t:TypeId)(n:Nat)(ps:List (Nat×aOj)):Sem Next:=V (Instr.buildSlice t n ps.toArray)
def Nf(g:Env)(o:Oper):Sem Next:=
 match o.op with
 | .binOp op t x y _=>aD op t x y (ev g x) (ev g y)
 | .makeFunc fn first captured=>ajB fn (first.toList.map (ev g)) (captured.toList.map (ev g))
 | .build t ps=>bH t (ps.toList.map λp=>(p.1,ev g p.2))
 | .buildSlice t n ps=>bT t n (ps.toList.map λp=>(p.1,ev g p.2))
 | .call c=>(match c.callee with
   | .builtin b=>dD b c.argTypes o.type (c.args.toList.map (ev g))
   | .value f=>BF (ev g f) (c.args.toList.map (ev g))
   |_=>execOp (ev g) o)
 |_=>execOp (ev g) o
def KG(P:Program)(g:Env)(o:Oper)(w:aOi)(K:aOj->aOi->Prop):Prop:=
 match o.op with
 | .move x=>K (ev g x) w
 | .assign x=>K (ev g x) w
 | .call c=>(match c.callee with
   | .value (.func f)=>aK P f (c.args.toList.map (ev g)).toArray w K
   |_=>aA P (Nf g o) w K)
 |_=>aA P (Nf g o) w K
def Jk(P:Program)(ops:Array Oper)(g:Env)(o:Oper)(w:aOi)(K:aOj->aOi->Prop):Prop:=
 match o.guard with
 |none=>KG P g o w K
 |some (j,want)=>Gd (Bg g (EN ops j) want) (KG P g o w) w K
def agZ(P:Program)(ops:Array Oper):List Oper->Env->aOi->(Env->aOi->Prop)->Prop
 |[],g,w,K=>K g w
 |o::rest,g,w,K=>Jk P ops g o w λv w'=>agZ P ops rest (put g o.dst v) w' K
structure Rec where
 heavy:Bool
 o:Oper
 g:Env
 w:aOi
 v:aOj
def gOf(ops:Array Oper)(o:Oper)(g:Env):Bool:=match o.guard with|none=>true|some (j,want)=>Bg g (EN ops j) want
def Gs(b:Bool)(p:Prop):Prop:=match b with|true=>p|false=>True
def VZ(P:Program)(ops:Array Oper)(q:Rec)(o:Oper)(g:Env)(w':aOi)(v:aOj):Prop:=
 match q.heavy with
 |true=>Gs (gOf ops o g) (dR P (Nf g o) v q.w)
 |false=>Gs (gOf ops q.o q.g) (dR P (Nf q.g q.o) q.v w')
def aiD(i j:Nat):List (Nat×Nat)->Bool
 |[]=>false
 |(a,b)::r=>match Nat.beq a i with
  |true=>(match Nat.beq b j with|true=>true|false=>aiD i j r)
  |false=>aiD i j r
def oR(i:Nat):List Nat->Bool
 |[]=>false
 |a::r=>match Nat.beq a i with|true=>true|false=>oR i r
def auB:List Rec->Nat->Option Rec
 |[],_=>none
 |q::_,0=>some q
 |_::r,n+1=>auB r n
def aFR(P:Program)(ops:Array Oper)(o:Oper)(g:Env)(w':aOi)(v:aOj)(hist:List Rec):List Nat->Prop
 |[]=>True
 |k::ks=>(match auB hist k with
  |some q=>VZ P ops q o g w' v
  |none=>False)/\aFR P ops o g w' v hist ks
abbrev Ann:=List Nat×List (Nat×Nat)
abbrev arM:=List (Bool×List Nat)
def rF(P:Program)(ops:Array Oper):List Oper->arM->List Rec->Env->aOi->(Env->aOi->Prop)->Prop
 |[],_,_,g,w,K=>K g w
 |_::_,[],_,_,_,_=>False
 |o::rest,(hv,ks)::pl,hist,g,w,K=>
  Jk P ops g o w λv w'=>
   match hv,ks with
   |true,[]=>rF P ops rest pl (⟨true,o,g,w,v⟩::hist) (put g o.dst v) w' K
   |true,k::ks=>aFR P ops o g w' v hist (k::ks)/\rF P ops rest pl (⟨true,o,g,w,v⟩::hist) (put g o.dst v) w' K
   |false,[]=>w'=w/\rF P ops rest pl (⟨false,o,g,w,v⟩::hist) (put g o.dst v) w K
   |false,k::ks=>w'=w/\aFR P ops o g w v hist (k::ks)/\rF P ops rest pl (⟨false,o,g,w,v⟩::hist) (put g o.dst v) w K
def aX{α:Type}(F:(α->aOi->Prop)->α->aOi->Prop)(g:α)(w:aOi):Prop:=
 ∃I:Nat->α->aOi->Prop,(∃n,I n g w)/\∀n g w,I n g w->F (λg' w'=>∃m,m<n/\I m g' w') g w
def Ci(K:Env->aOi->Prop)(Q:Exit->Env->aOi->Prop):Exit->Env->aOi->Prop:=
 λe g w=>(λ(_:Program->Sem Next->aOi->(aOj->aOi->Prop)->Prop)=>match e with| .normal=>K g w|e=>Q e g w) aA
def blk(id:Nat)(Q:Exit->Env->aOi->Prop):Exit->Env->aOi->Prop:=
 λe g w=>(λ(_:Program->Sem Next->aOi->(aOj->aOi->Prop)->Prop)=>match e with| .exit i=>(match Nat.beq i id with|true=>Q .normal g w|false=>Q (.exit i) g w)|e=>Q e g w) aA
inductive HT where
 |leaf (an:Ann) (pl:arM)
 |perm (π:List Nat) (es:List (Nat×Nat)) (an:Ann) (pl:arM)
 |split(a b:Nat) (x y:HT)
structure FA where
 f:FuncId
 t:Nat->HT
def yN:List Nat->Nat->Nat
 |[],_=>0
 |a::r,i=>match Nat.beq a i with|true=>0|false=>yN r i+1
def H4 (π:List Nat)(i:Nat):List (Nat×Nat)->List Edge
 |[]=>[]
 |(a,b)::r=>match Nat.beq b i with|true=>⟨yN π a,.data⟩::H4 π i r|false=>H4 π i r
def LO(π:List Nat)(es:List (Nat×Nat))(i:Nat)(o:Oper):Oper:=
 {dst:=o.dst,op:=o.op,type:=o.type,pos:=o.pos,after:=(o.after.toList.map (λe=>(⟨yN π e.on,e.ground⟩:Edge))++H4 π i es).toArray,
  guard:=match o.guard with|none=>none|some (j,b)=>some (yN π j,b)}
def YF(π:List Nat)(es:List (Nat×Nat))(l:List Oper):List Nat->List Oper
 |[]=>[]
 |i::r=>match l[i]? with|some o=>LO π es i o::YF π es l r|none=>YF π es l r
def nY(π:List Nat)(es:List (Nat×Nat))(ops:Array Oper):Array Oper:=(YF π es ops.toList π).toArray
def apU(f:FuncId)(id:Nat)(ops:Array Oper)(a b:Nat)(w:aOi):Bool:=
 Nat.ble ((Region.schedule true ops (w.tape w.drawn (.order f id))).idxOf a) ((Region.schedule true ops (w.tape w.drawn (.order f id))).idxOf b)
def Ord(b:Bool)(A B:Prop):Prop:=match b with|true=>A|false=>B
def asK(P:Program)(f:FuncId)(id:Nat)(ops:Array Oper):HT->Env->aOi->aOi->(Env->aOi->Prop)->Prop
 | .leaf _ pl,g,_,w,K=>rF P ops ops.toList pl [] g w K
 | .perm π es _ pl,g,_,w,K=>rF P (nY π es ops) (nY π es ops).toList pl [] g w K
 | .split a b x y,g,w0,w,K=>Ord (apU f id ops a b w0) (asK P f id ops x g w0 w K) (asK P f id ops y g w0 w K)
def DS:Nat:=1000003
def asL:aOj->List Deferred
 | .pointer (some a)=>[{target:= .collected a.block,args:= #[]}]
 |_=>[]
def noMark:aOj->Bool
 | .pointer _=>false
 |_=>true
def tmpsOf(N:Nat)(g:Env):Array aOj:=Array.ofFn (n:=N) λi=>g i.val
def aaL(P:Program)(f:FuncId):Nat:=match P.funcs[f]? with|some fn=>fn.ntmps|none=>0
def aHU(Q:Exit->Env->aOi->Prop)(g:Env):Option Code->aOi->Prop
 |none,w=>Q .normal g w
 |some .ret,w=>Q .ret g w
 |some (.exit i),w=>Q (.exit i) g w
 |_,_=>False
def aDe(l:Nat)(Q:Exit->Env->aOi->Prop)(g:Env)(w:aOi):Prop:=
 ∃r:Loop,w.heap[l]?=some (.loop r)/\r.state≠.busy/\aHU Q g r.pending (w.putObj l (.loop {r with state:= .exhausted}))
def rfW(f:FuncId)(N:Nat)(ps:Array Tmp)(aLn bd:Code)(g:Env)(w:aOi):aOi:=
 (w.alloc (.deferred (some []))).alloc (.loop {state:= .ready,pending:=none,fn:=f,tmps:=tmpsOf N g,params:=ps,assign:=aLn,body:=bd,defers:=w.heap.size})
def aJY(P:Program)(r:Result Next)(K:aOj->aOi->Prop):Prop:=
 match r with
 | .ok (.enter f args) w=>aK P f args w K
 |_=>False
def JU(l:Nat):aOj:= .func (.yield l) #[] #[]
def RF(P:Program)(f:FuncId)(gf:Operand)(ps:Array Tmp)(aLn bd:Code)(Q:Exit->Env->aOi->Prop)(g:Env)(w:aOi):Prop:=
 match noMark (g DS)with
 |true=>aJY P ((BF (ev g gf) [JU (w.heap.size+1)]).run P (rfW f (aaL P f) ps aLn bd g w)) λ_ w3=>
  aDe (w.heap.size+1) Q (put g (some DS) (.pointer (some ⟨w.heap.size,0,none⟩))) w3
 |false=>False
def cP(P:Program)(ann:FA):Code->(Exit->Env->aOi->Prop)->Env->aOi->Prop
 | .skip,Q,g,w=>Q .normal g w
 | .region id ops draw,Q,g,w=>match draw with
   |false=>agZ P ops ops.toList g w (Q .normal)
   |true=>asK P ann.f id ops (ann.t id) g w {w with drawn:=w.drawn+1} (Q .normal)
 | .seq x y,Q,g,w=>cP P ann x (Ci (λg w=>cP P ann y Q g w) Q) g w
 | .cond c x y,Q,g,w=>bQ (ev g c) (cP P ann x Q g w) (cP P ann y Q g w)
 | .block id c,Q,g,w=>cP P ann c (blk id Q) g w
 | .loop c,Q,g,w=>aX (λX g w=>cP P ann c (Ci X Q) g w) g w
 | .scope c,Q,g,w=>cP P ann c Q g w
 | .label _,Q,g,w=>Q .normal g w
 | .exit id,Q,g,w=>Q (.exit id) g w
 | .ret,Q,g,w=>Q .ret g w
 | .rangeFunc gf ps aLn bd,Q,g,w=>RF P ann.f gf ps aLn bd Q g w
 |_,_,_,_=>False
def aAw(N:Nat)(o:Oper):Bool:=match o.dst with|some d=>Nat.blt d N|none=>true
def bef(b:Array Nat)(i j:Nat):Bool:=(b.getD j 0).testBit i
def looks(ops:Array Oper)(o:Oper):List Tmp:=
 (o.op.operands.toList.filterMap λ| .tmp t=>some t|_=>none)++(match o.guard with|some (j,_)=>(EN ops j).toList|none=>[])
def aDu(ops:Array Oper)(x y:Oper):Bool:=
 (match x.dst with|some d=>(looks ops y).contains d||y.dst==some d|none=>false)||
 (match y.dst with|some d=>(looks ops x).contains d|none=>false)
def acJ(o:Oper):Bool:=match o.op with| .select .. =>true|_=>false
def aD5 (o:Oper):Bool:=match o.op with| .call {callee:= .value (.func _),.. }=>true|_=>false
def amQ(o:Oper):Bool:=match o.op with| .defer .. =>true|_=>false
def anC:Operand->Bool| .tmp t=>Nat.blt t DS|_=>true
def afN(P:Program)(o:Oper):Bool:=
 match o.op with
 | .call c=>(match c.callee with
   | .value (.func f)=>(match P.funcs[f]? with|some fn=>fn.body.isSome&& !(fn.name== "runtime.NumGoroutine")|none=>false)
   | .builtin b=>(match b with| .print| .println=>false|_=>true)
   |_=>true)
 |_=>true
def CH(P:Program)(o:Oper):Bool:=afN P o&&(o.op.operands.toList.all anC&&(!acJ o&& !amQ o))
def OG(o:Oper):Bool:=match o.op with| .move _| .assign _=>true|_=>false
def SD(ops:Array Oper)(b:Array Nat)(an:Ann)(i j:Nat)(x y:Oper):Bool:=
 bef b i j||
 (!aDu ops x y&&
   match oR i an.1,oR j an.1 with
   |true,true=>false
   |false,false=>true
   |true,false=>OG y||aiD i j an.2
   |false,true=>OG x||aiD i j an.2)
def arU(ops:Array Oper)(b:Array Nat)(an:Ann):Bool:=
 (List.range ops.size).all λj=>(List.range j).all λi=>
  match ops[i]?,ops[j]? with
  |some x,some y=>SD ops b an i j x y
  |_,_=>false
def amI(ops:Array Oper):Bool:=
 (List.range ops.size).all λi=>match ops[i]? with
  |some o=>o.after.all λe=> !Region.binds .any e||Nat.blt e.on i
  |none=>false
def alZ(ops:Array Oper)(b:Array Nat):Bool:=
 (List.range ops.size).all λj=>(List.range ops.size).all λi=>
  !bef b i j||(match ops[j]? with
   |some o=>o.after.any λe=>Region.binds .any e&&(Nat.beq e.on i||bef b i e.on)
   |none=>false)
def ahA(ops:Array Oper)(an:Ann):Bool:=
 amI ops&&alZ ops (Region.before ops)&&arU ops (Region.before ops) an&&(ops.all λo=> !acJ o)&&
  (List.range ops.size).all λi=>match ops[i]? with|some o=> !aD5 o||oR i an.1|none=>false
def aiQ(n:Nat)(an:Ann)(pl:arM):Bool:=
 (List.range n).all λi=>match pl[i]? with
  |some (h,ks)=>h==oR i an.1&&an.2.all λp=> !Nat.beq p.2 i||(Nat.blt p.1 i&&ks.contains (i-1-p.1))
  |none=>false
def ayO(π:List Nat)(ops:Array Oper):Bool:=
 Nat.beq π.length ops.size&&((List.range ops.size).all λk=>match π[k]? with|some i=>Nat.beq (yN π i) k&&Nat.blt i ops.size|none=>false)&&
  ((List.range ops.size).all λi=>match π[yN π i]? with|some j=>Nat.beq j i|none=>false)&&
  ((List.range ops.size).all λi=>match ops[i]? with
    |some o=>(o.after.all λe=>Nat.blt e.on ops.size)&&(match o.guard with|some (j,_)=>Nat.blt j ops.size|none=>true)
    |none=>false)
def WS(P:Program)(N:Nat)(ops:Array Oper):List (Nat×Nat)->HT->Bool
 |_,.leaf an pl=>ahA ops an&&aiQ ops.size an pl
 |path,.perm π es an pl=>(es.all λp=>aiD p.1 p.2 path&&Nat.blt p.1 ops.size)&&ayO π ops&&(nY π es ops).all (aAw N)&&(nY π es ops).all (CH P)&&
  ahA (nY π es ops) an&&aiQ (nY π es ops).size an pl
 |path,.split a b x y=> !Nat.beq a b&&WS P N ops ((a,b)::path) x&&WS P N ops ((b,a)::path) y
def codeOk(P:Program)(N:Nat)(ann:FA):Code->Bool
 | .skip| .exit _| .ret| .label _=>true
 | .scope c=>codeOk P N ann c
 | .region id ops draw=>ops.all (aAw N)&&ops.all (CH P)&&(!draw||WS P N ops [] (ann.t id))
 | .seq x y=>codeOk P N ann x&&codeOk P N ann y
 | .cond c x y=>anC c&&(codeOk P N ann x&&codeOk P N ann y)
 | .block _ c=>codeOk P N ann c
 | .loop c=>codeOk P N ann c
 | .rangeFunc gf _ _ _=>anC gf
 |_=>false
def sJ:Code->Bool
 | .seq x y=>sJ x&&sJ y
 | .cond _ x y=>sJ x&&sJ y
 | .block _ c=>sJ c
 | .loop c=>sJ c
 | .scope c=>sJ c
 | .rangeFunc .. =>false
 |_=>true
def anG:ResultVar->Bool
 | .tmp t=>Nat.blt t DS
 | .cell a _=>Nat.blt a DS
theorem Ni(g:Env)(d i:Nat)(v:aOj):put g (some d) v i=if i=d then v else g i:=by
 unfold put
 by_cases h:i=d
 .subst h;simp
 .have:Nat.beq i d=false:=by
   cases hb:Nat.beq i d
   .rfl
   .exact absurd (aMf hb) h
  simp[this,h]
theorem arZ{P:Program}{o:Oper}(h:CH P o=true):afN P o=true:=by
 unfold CH at h;simp only[aLM]at h;exact h.1
theorem axA{P:Program}{o:Oper}(h:CH P o=true):∀x∈o.op.operands,anC x=true:=by
 unfold CH at h;simp only[aLM]at h
 intro x hx
 exact aMj.1 h.2.1 x (by simpa using hx)
theorem axB{P:Program}{o:Oper}(h:CH P o=true):acJ o=false:=by
 unfold CH at h;simp only[aLM,aNe]at h;exact h.2.2.1
theorem awZ{P:Program}{o:Oper}(h:CH P o=true):amQ o=false:=by
 unfold CH at h;simp only[aLM,aNe]at h;exact h.2.2.2
def VM(N:Nat)(ops:Array Oper):Prop:=∀(i:Nat) (o:Oper),ops[i]?=some o->∀t,o.dst=some t->t<N
structure Q7 (N:Nat)(g:Env)(a:Act):Prop where
 le:N<=DS
 defers:a.defers=asL (g DS)
 size:a.tmps.size=N
 at_:∀i,i≠DS->a.tmps.getD i undef=g i
theorem Q7.ev {N:Nat}{g:Env}{a:Act}(h:Q7 N g a)(x:Operand)(hx:anC x=true):a.eval x=ev g x:=by
 cases x with
 |tmp t=>
  have:t<DS:=(aNH (x:=t) (y:=DS))▸hx
  have e:=h.at_ t (Nat.ne_of_lt this)
  simp[Act.eval,En.ev,<-e]
 |_=>simp[Act.eval,En.ev]
theorem Q7.put {N:Nat}{g:Env}{a:Act}(h:Q7 N g a)(d:Option Tmp)(v:aOj)(hd:∀t,d=some t->t<N):
 Q7 N (put g d v) (a.put d v):=by
 cases d with
 |none=>exact h
 |some t=>
  obtain⟨h0,h1,h2,h3⟩:=h
  have ht:=hd t rfl
  refine⟨h0, ?_,by simp[Act.put,h2],λi hne=> ?_⟩
  .rw [Ni,if_neg (Nat.ne_of_gt (aNn ht h0))];exact h1
  .rw [Ni,<-h3 i hne]
   by_cases hi:i=t
   .subst hi;simp[Act.put,h2,ht]
   .have hi':t≠i:=λe=>hi e.symm
    simp[Act.put,hi,aMr hi']
theorem Q7.wanted {N:Nat}{g:Env}{a:Act}(h:Q7 N g a)(ops:Array Oper)(hd:VM N ops)(o:Oper):
 Region.wanted o (yielded ops a.tmps)=match o.guard with|none=>true|some (j,want)=>Bg g (EN ops j) want:=by
 unfold Region.wanted
 cases o.guard with
 |none=>rfl
 |some p=>
  obtain⟨j,want⟩:=p
  simp only[yielded,Bg,EN]
  cases ho:ops[j]? with
  |none=>simp
  |some o'=>
   cases hdd:o'.dst with
   |none=>simp[hdd]
   |some t=>
    have hlt:=hd j o' ho t hdd
    have hle:=h.le
    have h3:=h.at_ t (Nat.ne_of_lt (aNn hlt hle))
    simp only[hdd,Option.bind_some,bK,asB,<-h3]
    simp only[aLI]
    cases ht:a.tmps[t]? with
    |none=>simp[undef]
    |some v=>cases v<;>simp
def upX(P:Program)(o:Oper)(a:Act)(next:Act->aOi->Prop):Result Next->Prop
 | .ok (.value v) w'=>next (a.put o.dst v) w'
 | .ok .skip w'=>next (a.put o.dst undef) w'
 | .ok (.enter f args) w'=>∃v w'',Ret P f args w' v w''/\next (a.put o.dst v) w''
 | .ok (.round l f tmps aLn bd) w'=>∃v w'',aJj P l f tmps aLn bd w' v w''/\next (a.put o.dst v) w''
 |_=>False
def azG(P:Program)(o:Oper)(a:Act)(w:aOi)(next:Act->aOi->Prop):Prop:=amQ o=false/\upX P o a next ((execOp a.eval o).run P w)
def Tw(P:Program)(ops:Array Oper)(i:Nat)(K:Act->aOi->Prop)(a:Act)(w:aOi):Prop:=
 match ops[i]? with
 |none=>K a w
 |some o=>if Region.wanted o (yielded ops a.tmps)then azG P o a w K else K (a.put o.dst undef) w
def Fq(P:Program)(ops:Array Oper)(Q:Act->aOi->Prop):List Nat->Act->aOi->Prop
 |[],a,w=>Q a w
 |i::rest,a,w=>Tw P ops i (Fq P ops Q rest) a w
def ajQ(P:Program)(ops:Array Oper)(Q:Act->aOi->Prop):Nat->Array Bool->Act->aOi->Prop
 |0,listed,a,w=>Region.ready .any ops listed=[]/\Q a w
 |fuel+1,listed,a,w=>
  (Region.ready .any ops listed=[]->Q a w)/\∀i∈Region.ready .any ops listed,Tw P ops i (ajQ P ops Q fuel (listed.setIfInBounds i true)) a w
theorem anI{P:Program}{o:Oper}{a:Act}{w:aOi}{K K':Act->aOi->Prop}(h:∀a w,K a w->K' a w)(hh:azG P o a w K):azG P o a w K':=by
 refine⟨hh.1, ?_⟩
 have hh:=hh.2
 generalize(execOp a.eval o).run P w=r at*
 cases r with
 |ok x w'=>
  cases x<;>simp only[upX]at hh⊢<;>first|exact h _ _ hh|(obtain⟨v,w'',h1,h2⟩:=hh;exact⟨v,w'',h1,h _ _ h2⟩)|exact hh
 |halt x w'=>exact hh.elim
theorem azX{P:Program}{ops:Array Oper}{i:Nat}{a:Act}{w:aOi}{K K':Act->aOi->Prop}(h:∀a w,K a w->K' a w)(hh:Tw P ops i K a w):Tw P ops i K' a w:=by
 unfold Tw at*
 split
 .exact h _ _ (by simpa[*]using hh)
 .rename_i o ho
  simp only[ho]at hh
  split
  .rename_i hw;simp only[hw,if_true]at hh;exact anI h hh
  .rename_i hw;simp only[hw]at hh;exact h _ _ hh
def ajP(ro:Option Nat):Fence:={Fence.wide with round:=ro}
theorem aCP{P:Program}{ops:Array Oper}{Q:Act->aOi->Prop}(ro:Option Nat):∀(L:List Nat) (a:Act) (w:aOi),Fq P ops Q L a w→
 wpOpsIn (ajP ro) 0 P ops (λe a w=>e= .normal/\Q a w) L a w:=by
 intro L
 induction L with
 |nil=>intro a w h;exact⟨rfl,h⟩
 |cons i L ih=>
  intro a w h
  simp only[Fq,Tw]at h
  simp only[wpOpsIn]
  cases ho:ops[i]? with
  |none=>rw[ho]at h;exact ih _ _ h
  |some o=>
   rw[ho]at h
   simp only at h⊢
   by_cases hw:Region.wanted o (yielded ops a.tmps)=true
   .rw [if_pos hw]at h⊢
    obtain⟨hd,h⟩:=h
    refine⟨λ_ _=>trivial, ?_⟩
    rw[Oper.semAt_eq _ _ _ (λc hc=>by simp[amQ,hc]at hd)]
    generalize(execOp a.eval o).run P w=r at*
    cases r with
    |halt x w'=>exact h.elim
    |ok x w'=>
     cases x<;>simp only[upX]at h<;>simp only[Oper.uponIn]<;>try(exact h.elim)
     .exact ih _ _ h
     .exact ih _ _ h
     .obtain ⟨v,w'',h1,h2⟩:=h
      refine⟨λhn=>by simp[ajP,Fence.wide]at hn, ?_⟩
      have:=callsIn_wide (n:=0).2 h1
      refine CallsIn.mono (F:=ajP ro) (n:=0) this ?_
      rintro e w3 ⟨rfl,rfl⟩
      exact ih _ _ h2
     .obtain ⟨v,w'',h1,h2⟩:=h
      refine⟨λhn=>by simp[ajP,Fence.wide]at hn, ?_⟩
      refine RoundIn.mono (F:=ajP ro) (n:=0) h1 ?_
      rintro e w3 ⟨rfl,rfl⟩
      exact ih _ _ h2
   .rw [if_neg hw]at h⊢
    exact⟨λ_ _=>trivial,ih _ _ h⟩
section
variable{P:Program}{ops:Array Oper}
def abT(P:Program)(ops:Array Oper)(g:Env)(o:Oper)(w:aOi)(v:aOj)(w':aOi):Prop:=
 ∀K:aOj->aOi->Prop,K v w'->Jk P ops g o w K
theorem aAh{s:Sem Next}{w:aOi}{K:aOj->aOi->Prop}(h:aA P s w K):
 ∃v w',(∀K':aOj->aOi->Prop,K' v w'->aA P s w K')/\K v w':=by
 unfold aA at*
 generalize s.run P w=r at*
 match r,h with
 | .ok (.value v) w1,h=>exact⟨v,w1,λ_ h'=>h',h⟩
 | .ok .skip w1,h=>exact⟨undef,w1,λ_ h'=>h',h⟩
 | .ok (.enter f args) w1,h=>
   obtain⟨v,w',hr,hk⟩:=h
   exact⟨v,w',λ_ h'=>⟨v,w',hr,h'⟩,hk⟩
 | .ok (.round l f tmps aLn bd) w1,h=>
   obtain⟨v,w',hr,hk⟩:=h
   exact⟨v,w',λ_ h'=>⟨v,w',hr,h'⟩,hk⟩
theorem anB{g:Env}{o:Oper}{w:aOi}{K:aOj->aOi->Prop}(h:KG P g o w K):
 ∃v w',(∀K':aOj->aOi->Prop,K' v w'->KG P g o w K')/\K v w':=by
 unfold KG at*
 split at h
 .exact ⟨_,_,λ_ h'=>h',h⟩
 .exact ⟨_,_,λ_ h'=>h',h⟩
 .split at h
  .obtain ⟨v,w',a,b⟩:=h
   exact⟨v,w',λ_ h'=>⟨v,w',a,h'⟩,b⟩
  .exact aAh h
 .exact aAh h
theorem aGK(op:BinOp)(t:TypeId)(ox oy:Operand)(x y:aOj):aD op t ox oy x y=V (do eqGuard op t ox oy x y;binOp op t x y):=by
 cases op<;>simp[aD,J2,eqGuard]
theorem aEq{g:Env}{o:Oper}(ho:CH P o=true):Nf g o=execOp (ev g) o:=by
 have ho:=arZ ho
 unfold Nf
 split
 .rename_i op t x y yt hx
  simp only[execOp,hx,aGK,V]
 .rename_i fn first captured hx
  have e1:(List.map (ev g) first.toList).toArray=first.map (ev g):=by obtain⟨l⟩:=first;simp
  have e2:(List.map (ev g) captured.toList).toArray=captured.map (ev g):=by obtain⟨l⟩:=captured;simp
  simp only[execOp,hx,ajB,V,e1,e2]
 .rename_i t ps hx
  have e:(List.map (λp:Nat×Operand=>(p.1,ev g p.2)) ps.toList).toArray=ps.map (λp=>(p.1,ev g p.2)):=by obtain⟨l⟩:=ps;simp
  simp only[execOp,hx,bH,V,e]
 .rename_i t n ps hx
  have e:(List.map (λp:Nat×Operand=>(p.1,ev g p.2)) ps.toList).toArray=ps.map (λp=>(p.1,ev g p.2)):=by obtain⟨l⟩:=ps;simp
  simp only[execOp,hx,bT,V,e]
 .rename_i c hx
  split
  .rename_i b hb
   simp only[execOp,hx,resolve,hb,pure_bind,invoke,dD]
   unfold afN at ho
   simp only[hx,hb]at ho
   have e:(List.map (ev g) c.args.toList).toArray=c.args.map (ev g):=by obtain⟨l⟩:=c.args;simp
   rw[e]
   cases b<;>first|rfl|(cases ho)
  .rename_i f hb
   have e:(List.map (ev g) c.args.toList).toArray=c.args.map (ev g):=by obtain⟨l⟩:=c.args;simp
   simp only[execOp,hx,resolve,hb,BF,e]
  .rfl
 .rfl
theorem Xq{f:FuncId}{fn:Func}(hf:P.funcs[f]?=some fn)(hb:fn.body.isSome=true)(hn:(fn.name== "runtime.NumGoroutine")=false)
 (args:Array aOj) (w:aOi):(callFunc f args).run P w= .ok (.enter f args) w:=by
 unfold callFunc
 have hb':fn.body.isNone=false:=by cases h:fn.body<;>simp_all
 show Sem.run P (Sem.program λp=>_) w=_
 simp only[Sem.run]
 simp only[bind,Sem.bind,hf,hn,hb',aLC,if_false]
 rfl
theorem OR{g:Env}{o:Oper}{w:aOi}{K:aOj->aOi->Prop}(h:Jk P ops g o w K):
 ∃v w',abT P ops g o w v w'/\K v w':=by
 unfold abT
 unfold Jk at*
 split at h
 .obtain ⟨v,w',h1,h2⟩:=anB h
  exact⟨v,w',h1,h2⟩
 .rename_i j want hg
  unfold Gd at*
  cases hb:Bg g (EN ops j) want with
  |true=>
   simp only[hb]at h
   obtain⟨v,w',h1,h2⟩:=anB h
   exact⟨v,w',λK hk=>h1 K hk,h2⟩
  |false=>
   simp only[hb]at h
   exact⟨_,_,λK hk=>hk,h⟩
theorem adI{N i:Nat}{g:Env}{a:Act}{o:Oper}{w w':aOi}{v:aOj}{next:Act->aOi->Prop}
 (hi:ops[i]?=some o) (hc:CH P o=true) (hd:VM N ops) (hr:Q7 N g a) (hy:abT P ops g o w v w') (hn:next (a.put o.dst v) w'):Tw P ops i next a w:=by
 have h:=hy (λv2 w2=>v2=v/\w2=w') ⟨rfl,rfl⟩
 unfold Tw
 rw[hi]
 simp only[hr.wanted ops hd]
 have run:KG P g o w (λv2 w2=>v2=v/\w2=w')->azG P o a w next:=by
  intro h
  refine⟨awZ hc, ?_⟩
  have hevs:execOp a.eval o=execOp (ev g) o:=execOp_congr o (λcs b he=>by have:=axB hc;simp[acJ,he]at this) (λx hx=>hr.ev x (axA hc x hx))
  have stp:aA P (Nf g o) w (λv2 w2=>v2=v/\w2=w')->upX P o a next ((execOp (ev g) o).run P w):=by
   intro h
   rw[aEq hc]at h
   unfold aA at h
   generalize(execOp (ev g) o).run P w=r at*
   match r,h with
   | .ok (.value v) w1,h=>obtain⟨rfl,rfl⟩:=h;exact hn
   | .ok .skip w1,h=>obtain⟨rfl,rfl⟩:=h;exact hn
   | .ok (.enter f args) w1,h=>
     obtain⟨v2,w2,hret,rfl,rfl⟩:=h
     exact⟨_,_,hret,hn⟩
   | .ok (.round l f tmps aLn bd) w1,h=>
     obtain⟨v2,w2,hret,rfl,rfl⟩:=h
     exact⟨_,_,hret,hn⟩
  rw[hevs]
  unfold KG at h
  split at h
  .rename_i x hx
   obtain⟨rfl,rfl⟩:=h
   simp only[execOp,hx];exact hn
  .rename_i x hx
   obtain⟨rfl,rfl⟩:=h
   simp only[execOp,hx];exact hn
  .rename_i c hx
   split at h
   .rename_i f hcal
    obtain⟨v2,w2,hret,rfl,rfl⟩:=h
    have e:(execOp (ev g) o).run P w= .ok (.enter f (List.map (ev g) c.args.toList).toArray) w:=by
     have hc:=arZ hc
     unfold afN at hc
     simp only[hx,hcal]at hc
     cases hfn:P.funcs[f]? with
     |none=>rw[hfn]at hc;cases hc
     |some fn=>
      rw[hfn]at hc
      simp only[aLM,aNe]at hc
      have ea:(List.map (ev g) c.args.toList).toArray=c.args.map (ev g):=by obtain⟨l⟩:=c.args;simp
      rw[ea]
      simp only[execOp,hx,resolve,hcal,ev,Deferred.ofValue,pure_bind,invoke]
      simp only[Array.empty_append,Array.append_empty]
      exact Xq hfn hc.1 hc.2 _ w
    rw[e]
    exact⟨_,_,hret,hn⟩
   .exact stp h
  .exact stp h
 unfold Jk at h
 cases hg:o.guard with
 |none=>
  rw[hg]at h
  simp only[if_true]
  exact run h
 |some p=>
  obtain⟨j,want⟩:=p
  simp only[hg]at h
  simp only
  by_cases hb:Bg g (EN ops j) want=true
  .rw [if_pos hb]
   simp only[hb,Gd]at h
   exact run h
  .rw [if_neg hb]
   have hb':Bg g (EN ops j) want=false:=by simpa using hb
   simp only[hb',Gd]at h
   obtain⟨rfl,rfl⟩:=h
   exact hn
def W9 (P:Program)(ops:Array Oper):Prop:=∀(i:Nat) (o:Oper),ops[i]?=some o->CH P o=true
theorem aB7 {N:Nat}(hd:VM N ops)(hca:W9 P ops){Q:Act->aOi->Prop}{K:Env->aOi->Prop}
 (hQ:∀g a w,Q7 N g a->K g w->Q a w):
 ∀(l:List Oper) (k:Nat) (g:Env) (a:Act) (w:aOi),(∀j,l[j]?=ops[k+j]?)->Q7 N g a->agZ P ops l g w K→
  Fq P ops Q (List.range' k l.length) a w:=by
 intro l
 induction l with
 |nil=>intro k g a w _ hr h;exact hQ _ _ _ hr h
 |cons o l ih=>
  intro k g a w hl hr h
  have h0:ops[k]?=some o:=by have:=hl 0;simpa using this.symm
  obtain⟨v,w',hy,hk⟩:=OR h
  rw[aLO,aN9]
  show Tw P ops k (Fq P ops Q _) a w
  refine adI h0 (hca k o h0) hd hr hy ?_
  refine ih (k+1) _ _ _ (λj=> ?_) (hr.put _ _ (hd k o h0)) hk
  have:=hl (j+1)
  simp only[aLs]at this
  rw[this];congr 1;omega
def acW(an:Ann)(O:Nat->Oper)(G:Nat->Env)(W:Nat->aOi)(V:Nat->aOj)(i:Nat):Rec:=
 ⟨oR i an.1,O i,G i,W i,V i⟩
def aAs(P:Program)(ops:Array Oper)(an:Ann)(O:Nat->Oper)(G:Nat->Env)(W:Nat->aOi)(V:Nat->aOj)(i j:Nat):Prop:=
 VZ P ops (acW an O G W V i) (O j) (G j) (W (j+1)) (V j)
structure Run(P:Program)(ops:Array Oper)(an:Ann)(g0:Env)(w0:aOi)(n:Nat)(O:Nat->Oper)(G:Nat->Env)(W:Nat->aOi)(V:Nat->aOj):Prop where
 g0:G 0=g0
 w0:W 0=w0
 op:∀i,i<n->ops[i]?=some (O i)
 yld:∀i,i<n->abT P ops (G i) (O i) (W i) (V i) (W (i+1))
 light:∀i,i<n->oR i an.1=false->W (i+1)=W i
 env:∀i,i<n->G (i+1)=put (G i) (O i).dst (V i)
 chk:∀i j,i<j->j<n->aiD i j an.2=true->aAs P ops an O G W V i j
theorem asC{o:Oper}{g:Env}{w':aOi}{v:aOj}{hist:List Rec}:∀{ks:List Nat},aFR P ops o g w' v hist ks->∀k∈ks,∃q,auB hist k=some q/\VZ P ops q o g w' v:=by
 intro ks
 induction ks with
 |nil=>intro _ k hk;cases hk
 |cons a ks ih=>
  rintro⟨h1,h2⟩ k hk
  rcases aL9.1 hk with rfl|hk
  .cases hn:auB hist k with
   |none=>rw[hn]at h1;exact h1.elim
   |some q=>rw[hn]at h1;exact⟨q,rfl,h1⟩
  .exact ih h2 k hk
theorem aCd{n:Nat}{an:Ann}{pl:arM}(h:aiQ n an pl=true){i:Nat}(hi:i<n):
 ∃ks,pl[i]?=some (oR i an.1,ks)/\∀j,aiD j i an.2=true->j<i/\(i-1-j)∈ks:=by
 have:=aMj.1 h i (aMo.2 hi)
 cases hp:pl[i]? with
 |none=>rw[hp]at this;cases this
 |some p=>
  obtain⟨hv,ks⟩:=p
  rw[hp]at this
  simp only[aLM]at this
  obtain⟨h1,h2⟩:=this
  have h1:hv=oR i an.1:=by simpa using h1
  refine⟨ks,by rw[h1],λj hj=> ?_⟩
  have mm:∀(l:List (Nat×Nat)),aiD j i l=true->(j,i)∈l:=by
   intro l
   induction l with
   |nil=>intro h;cases h
   |cons q r ih=>
    obtain⟨a,b⟩:=q
    intro h
    unfold aiD at h
    cases ha:Nat.beq a j with
    |true=>
     simp only[ha]at h
     cases hb:Nat.beq b i with
     |true=>
      obtain rfl:=aMf ha
      obtain rfl:=aMf hb
      exact aL6
     |false=>simp only[hb]at h;exact aLJ _ (ih h)
    |false=>simp only[ha]at h;exact aLJ _ (ih h)
  have:=aMj.1 h2 (j,i) (mm _ hj)
  simp only[Nat.beq_refl,aMv,Bool.false_or,aLM]at this
  refine⟨?_,by simpa using this.2⟩
  have hlt:=this.1
  exact(aNH (x:=j) (y:=i))▸hlt
theorem avA{an:Ann}{pl:arM}{g0:Env}{w0:aOi}{K:Env->aOi->Prop}(hpl:aiQ ops.size an pl=true):
 ∀(l:List Oper) (m:Nat) (hist:List Rec) (O:Nat->Oper) (G:Nat->Env) (W:Nat->aOi) (V:Nat->aOj),
  (∀j,l[j]?=ops[m+j]?)->m+l.length=ops.size->Run P ops an g0 w0 m O G W V->(∀i,i<m->auB hist (m-1-i)=some (acW an O G W V i))→
  rF P ops l (pl.drop m) hist (G m) (W m) K→
  ∃(O:Nat->Oper) (G:Nat->Env) (W:Nat->aOi) (V:Nat->aOj),Run P ops an g0 w0 (m+l.length) O G W V/\K (G (m+l.length)) (W (m+l.length)):=by
 intro l
 induction l with
 |nil=>intro m hist O G W V _ _ hr _ h;exact⟨O,G,W,V,hr,by unfold rF at h;exact h⟩
 |cons o l ih=>
  intro m hist O G W V hl hlen hr hh h
  have h0:ops[m]?=some o:=by have:=hl 0;simpa using this.symm
  have hmn:m<ops.size:=by rw[aLO]at hlen;omega
  obtain⟨ks,hk1,hk2⟩:=aCd hpl hmn
  have hdrop:pl.drop m=(oR m an.1,ks)::pl.drop (m+1):=by
   have hlt:m<pl.length:=by
    rcases aLH m pl.length with h|h
    .exact h
    .rw [aLD h]at hk1;cases hk1
   rw[aL4 hlt]
   rw[aLp hlt]at hk1
   rw[aLS hk1]
  rw[hdrop]at h
  obtain⟨v,w',hy,hk⟩:=OR h
  have key:(oR m an.1=false->w'=W m)/\(∀k∈ks,∃q,auB hist k=some q/\VZ P ops q o (G m) w' v)/\
      (rF P ops l (pl.drop (m+1)) (⟨oR m an.1,o,G m,W m,v⟩::hist) (put (G m) o.dst v) w' K):=by
   have nil:∀w',∀k∈([]:List Nat),∃q,auB hist k=some q/\VZ P ops q o (G m) w' v:=λ_ k hk=>(by cases hk)
   cases hm:oR m an.1 with
   |true=>
    rw[hm]at hk
    cases ks with
    |nil=>exact⟨λe=>(by cases e),nil _,hk⟩
    |cons k ks=>exact⟨λe=>(by cases e),asC hk.1,hk.2⟩
   |false=>
    rw[hm]at hk
    cases ks with
    |nil=>obtain⟨rfl,hk⟩:=hk;exact⟨λ_=>rfl,nil _,hk⟩
    |cons k ks=>obtain⟨rfl,hc,hk⟩:=hk;exact⟨λ_=>rfl,asC hc,hk⟩
  obtain⟨kl,c1,c2⟩:=key
  let O':Nat->Oper:=λi=>if i=m then o else O i
  let V':Nat->aOj:=λi=>if i=m then v else V i
  let G':Nat->Env:=λi=>if i=m+1 then put (G m) o.dst v else G i
  let W':Nat->aOi:=λi=>if i=m+1 then w' else W i
  have eO:∀i,i<m->O' i=O i:=λi hi=>if_neg (by omega)
  have eV:∀i,i<m->V' i=V i:=λi hi=>if_neg (by omega)
  have eG:∀i,i<=m->G' i=G i:=λi hi=>if_neg (by omega)
  have eW:∀i,i<=m->W' i=W i:=λi hi=>if_neg (by omega)
  have oO:O' m=o:=if_pos rfl
  have oV:V' m=v:=if_pos rfl
  have oG:G' (m+1)=put (G m) o.dst v:=if_pos rfl
  have oW:W' (m+1)=w':=if_pos rfl
  have eR:∀i,i<m->acW an O' G' W' V' i=acW an O G W V i:=λi hi=>by
   simp only[acW,eO i hi,eV i hi,eG i (by omega),eW i (by omega)]
  have hr':Run P ops an g0 w0 (m+1) O' G' W' V':=by
   refine⟨by rw[eG 0 (by omega)];exact hr.g0,by rw[eW 0 (by omega)];exact hr.w0,λi hi=> ?_,λi hi=> ?_,λi hi hm=> ?_,λi hi=> ?_,λi j hij hj hm=> ?_⟩
   .by_cases hi':i=m
    .subst hi';rw[oO];exact h0
    .rw [eO i (by omega)];exact hr.op i (by omega)
   .by_cases hi':i=m
    .subst hi';rw[oO,oV,oW,eG i (by omega),eW i (by omega)];exact hy
    .rw [eO i (by omega),eV i (by omega),eG i (by omega),eW i (by omega),eW (i+1) (by omega)];exact hr.yld i (by omega)
   .by_cases hi':i=m
    .subst hi';rw[oW,eW i (by omega)];exact kl hm
    .rw [eW i (by omega),eW (i+1) (by omega)];exact hr.light i (by omega) hm
   .by_cases hi':i=m
    .subst hi';rw[oO,oV,oG,eG i (by omega)]
    .rw [eO i (by omega),eV i (by omega),eG i (by omega),eG (i+1) (by omega)];exact hr.env i (by omega)
   .unfold aAs
    by_cases hj':j=m
    .subst hj'
     rw[eR i (by omega),oO,oV,oW,eG j (by omega)]
     obtain⟨q,hq,hc⟩:=c1 _ (hk2 i hm).2
     rw[hh i hij]at hq
     obtain rfl:=aLS hq
     exact hc
    .rw [eR i (by omega),eO j (by omega),eV j (by omega),eG j (by omega),eW (j+1) (by omega)]
     exact hr.chk i j hij (by omega) hm
  have:=ih (m+1) (⟨oR m an.1,o,G m,W m,v⟩::hist) O' G' W' V' (λj=>by
      have:=hl (j+1)
      simp only[aLs]at this
      rw[this];congr 1;omega) (by rw[aLO]at hlen;omega) hr' (λi hi=>by
      by_cases hi':i=m
      .subst hi'
       rw[show i+1-1-i=0 from by omega]
       simp only[auB,acW,oO,oV,eG i (by omega),eW i (by omega)]
      .rw [eR i (by omega),show m+1-1-i=(m-1-i)+1 from by omega]
       exact hh i (by omega)) (by rw[oG,oW];exact c2)
  rw[aLO,show m+(l.length+1)=m+1+l.length from by omega]
  exact this
end
section
variable{P:Program}{ops:Array Oper}{an:Ann}{g0:Env}{w0:aOi}{O:Nat->Oper}{G:Nat->Env}{W:Nat->aOi}{V:Nat->aOj}
def NN(n:Nat)(O:Nat->Oper)(V:Nat->aOj)(g0:Env)(S:Nat->Prop)(g:Env):Prop:=
 ∀s,(∃j,j<n/\S j/\(O j).dst=some s/\(∀k,k<n->S k->(O k).dst=some s->k<=j)/\g s=V j)∨
  ((∀j,j<n->S j->(O j).dst≠some s)/\g s=g0 s)
theorem NN.agree {n:Nat}{S T:Nat->Prop}{g g':Env}(h:NN n O V g0 S g)(h':NN n O V g0 T g')(s:Nat)
 (hs:∀j,j<n->(O j).dst=some s->(S j↔T j)):g s=g' s:=by
 rcases h s with⟨j,h1,h2,h3,h4,h5⟩|⟨h1,h2⟩<;>rcases h' s with⟨k,k1,k2,k3,k4,k5⟩|⟨k1,k2⟩
 .have a:=h4 k k1 ((hs k k1 k3).2 k2) k3
  have b:=k4 j h1 ((hs j h1 h3).1 h2) h3
  have:j=k:=by omega
  subst this;rw[h5,k5]
 .exact absurd h3 (k1 j h1 ((hs j h1 h3).1 h2))
 .exact absurd k3 (h1 k k1 ((hs k k1 k3).2 k2))
 .rw [h2,k2]
theorem NN.step {n:Nat}{S:Nat->Prop}{g:Env}(h:NN n O V g0 S g)(i:Nat)(hi:i<n)
 (hw:∀s,(O i).dst=some s->∀j,j<n->j≠i->(O j).dst=some s->S j->j<i):
 NN n O V g0 (λj=>S j∨j=i) (put g (O i).dst (V i)):=by
 intro s
 cases hd:(O i).dst with
 |none=>
  rcases h s with⟨j,h1,h2,h3,h4,h5⟩|⟨h1,h2⟩
  .refine .inl ⟨j,h1,.inl h2,h3,λk k1 k2 k3=> ?_,h5⟩
   rcases k2 with k2|rfl
   .exact h4 k k1 k2 k3
   .rw [hd]at k3;cases k3
  .refine .inr ⟨λj h3 h4 h5=> ?_,h2⟩
   rcases h4 with h4|rfl
   .exact h1 j h3 h4 h5
   .rw [hd]at h5;cases h5
 |some t=>
  rw[Ni]
  by_cases hst:s=t
  .subst hst
   rw[if_pos rfl]
   refine .inl ⟨i,hi,.inr rfl,hd,λk k1 k2 k3=> ?_,rfl⟩
   rcases k2 with k2|rfl
   .by_cases hk:k=i
    .omega
    .have:=hw s hd k k1 hk k3 k2;omega
   .omega
  .rw [if_neg hst]
   rcases h s with⟨j,h1,h2,h3,h4,h5⟩|⟨h1,h2⟩
   .refine .inl ⟨j,h1,.inl h2,h3,λk k1 k2 k3=> ?_,h5⟩
    rcases k2 with k2|rfl
    .exact h4 k k1 k2 k3
    .rw [hd]at k3;exact absurd (aLS k3).symm hst
   .refine .inr ⟨λj h3 h4 h5=> ?_,h2⟩
    rcases h4 with h4|rfl
    .exact h1 j h3 h4 h5
    .rw [hd]at h5;exact absurd (aLS h5).symm hst
theorem Run.envFor {n:Nat}(r:Run P ops an g0 w0 n O G W V):∀i,i<=n->NN n O V g0 (λj=>j<i) (G i):=by
 intro i
 induction i with
 |zero=>intro _ s;exact .inr ⟨λj _ h=>absurd h (by omega),by rw[r.g0]⟩
 |succ i ih=>
  intro hi
  have h:=ih (by omega)
  have:=h.step (V:=V) i (by omega) (λs _ j _ _ _ hj=>hj)
  rw[<-r.env i (by omega)]at this
  intro s
  rcases this s with⟨j,h1,h2,h3,h4,h5⟩|⟨h1,h2⟩
  .exact .inl ⟨j,h1,by omega,h3,λk k1 k2 k3=>h4 k k1 (by omega) k3,h5⟩
  .exact .inr ⟨λj a b=>h1 j a (by omega),h2⟩
theorem Run.still {n:Nat}(r:Run P ops an g0 w0 n O G W V)(i:Nat):∀d,i+d<=n->(∀h,i<=h->h<i+d->oR h an.1=false)->W (i+d)=W i:=by
 intro d
 induction d with
 |zero=>intro _ _;rfl
 |succ d ih=>
  intro h1 h2
  rw[<-aMI,r.light (i+d) (by omega) (h2 _ (by omega) (by omega))]
  exact ih (by omega) (λh a b=>h2 h a (by omega))
theorem Run.still' {n:Nat}(r:Run P ops an g0 w0 n O G W V){i k:Nat}(hik:i<=k)(hk:k<=n)(hh:∀h,i<=h->h<k->oR h an.1=false):W k=W i:=by
 have:=r.still i (k-i) (by omega) (λh a b=>hh h a (by omega))
 rwa [show i+(k-i)=k from by omega]at this
theorem atL{i k:Nat}:(∃h,i<=h/\h<k/\oR h an.1=true)->∃h,i<=h/\h<k/\oR h an.1=true/\∀h',i<=h'->h'<h->oR h' an.1=false:=by
 rintro⟨h,h1,h2,h3⟩
 induction h using Nat.strongRecOn with
 |_ h ih=>
  by_cases hx:∃h',i<=h'/\h'<h/\oR h' an.1=true
  .obtain ⟨h',a,b,c⟩:=hx
   exact ih h' b a (by omega) c
  .refine ⟨h,h1,h2,h3,λh' a b=> ?_⟩
   cases hm:oR h' an.1
   .rfl
   .exact absurd ⟨h',a,b,hm⟩ hx
theorem ahN{i k:Nat}:(∃h,i<=h/\h<k/\oR h an.1=true)->∃h,i<=h/\h<k/\oR h an.1=true/\∀h',h<h'->h'<k->oR h' an.1=false:=by
 rintro⟨h,h1,h2,h3⟩
 induction hd:k-h using Nat.strongRecOn generalizing h with
 |_ d ih=>
  by_cases hx:∃h',h<h'/\h'<k/\oR h' an.1=true
  .obtain ⟨h',a,b,c⟩:=hx
   exact ih (k-h') (by omega) h' (by omega) b c rfl
  .refine ⟨h,h1,h2,h3,λh' a b=> ?_⟩
   cases hm:oR h' an.1
   .rfl
   .exact absurd ⟨h',a,b,hm⟩ hx
structure afY(ops:Array Oper)(an:Ann)(O:Nat->Oper)(b:Array Nat):Prop where
 back:∀i,i<ops.size->∀e∈(O i).after,Region.binds .any e=true->e.on<i
 closed:∀i j,i<ops.size->j<ops.size->bef b i j=true->∃e∈(O j).after,Region.binds .any e=true/\(e.on=i∨bef b i e.on=true)
 pair:∀i j,i<j->j<ops.size->SD ops b an i j (O i) (O j)=true
 sel:∀i,i<ops.size->acJ (O i)=false
 fn:∀i,i<ops.size->aD5 (O i)=true->oR i an.1=true
theorem aCC(h:ahA ops an=true)(ho:∀i,i<ops.size->ops[i]?=some (O i)):afY ops an O (Region.before ops):=by
 unfold ahA at h
 simp only[aLM]at h
 obtain⟨⟨⟨⟨h1,h2⟩,h3⟩,h5⟩,h6⟩:=h
 refine⟨λi hi e he hb=> ?_,λi j hi hj hb=> ?_,λi j hij hj=> ?_,λi hi=> ?_,λi hi hf=> ?_⟩
 .unfold amI at h1
  have:=aMj.1 h1 i (aMo.2 hi)
  rw[ho i hi]at this
  have:=aMW.1 this e he
  simp only[hb,aMv,Bool.false_or]at this
  exact(aNH (x:=e.on) (y:=i))▸this
 .unfold alZ at h2
  have:=aMj.1 (aMj.1 h2 j (aMo.2 hj)) i (aMo.2 hi)
  rw[ho j hj]at this
  simp only[hb,aMv,Bool.false_or]at this
  obtain⟨e,he,h⟩:=Array.any_eq_true'.1 this
  simp only[aLM,aM4]at h
  refine⟨e,he,h.1,h.2.imp (λh=>aMf h) id⟩
 .unfold arU at h3
  have:=aMj.1 (aMj.1 h3 j (aMo.2 hj)) i (aMo.2 hij)
  rw[ho i (by omega),ho j hj]at this
  exact this
 .have:=aMW.1 h5 (O i) (aOa (ho i hi))
  simpa using this
 .have:=aMj.1 h6 i (aMo.2 hi)
  rw[ho i hi]at this
  simpa[hf]using this
theorem aEc{i j:Nat}:∀{l:List (Nat×Nat)},aiD i j l=true->(i,j)∈l:=by
 intro l
 induction l with
 |nil=>intro h;cases h
 |cons p r ih=>
  obtain⟨a,b⟩:=p
  intro h
  unfold aiD at h
  cases ha:Nat.beq a i with
  |true=>
   simp only[ha]at h
   cases hb:Nat.beq b j with
   |true=>
    obtain rfl:=aMf ha
    obtain rfl:=aMf hb
    exact aL6
   |false=>simp only[hb]at h;exact aLJ _ (ih h)
  |false=>simp only[ha]at h;exact aLJ _ (ih h)
theorem afY.order {b:Array Nat}(st:afY ops an O b){S:Nat->Prop}{i:Nat}(hi:i<ops.size)
 (hdown:∀j k,j<ops.size->k<ops.size->S k->bef b j k=true->S j) (hbi:∀j,j<ops.size->bef b j i=true->S j) (hni:¬S i)
 {s:Nat} (hs:s∈looks ops (O i)∨(O i).dst=some s) {j:Nat} (hj:j<ops.size) (hji:j≠i) (hd:(O j).dst=some s):S j↔j<i:=by
 rcases aLH j i with h|h
 .refine ⟨λ_=>h,λ_=> ?_⟩
  have p:=st.pair j i h hi
  unfold SD at p
  simp only[aM4,aLM,aNe]at p
  rcases p with p|p
  .exact hbi j hj p
  .exfalso
   have p1:=p.1
   unfold aDu at p1
   simp only[hd,aNR]at p1
   rcases hs with hs|hs
   .have:=p1.1.1;simp[hs]at this
   .have:=p1.1.2;simp[hs]at this
 .have h':i<j:=by omega
  refine⟨λhS=> ?_,λhh=>by omega⟩
  exfalso
  have p:=st.pair i j h' hj
  unfold SD at p
  simp only[aM4,aLM,aNe]at p
  rcases p with p|p
  .exact hni (hdown i j hi hj hS p)
  .have p1:=p.1
   unfold aDu at p1
   simp only[hd,aNR]at p1
   rcases hs with hs|hs
   .have:=p1.2;simp[hs]at this
   .have:=p1.1;rw[hs]at this;simp at this
theorem MQ{g g':Env}{o:Oper}(h:∀s∈looks ops o,g s=g' s):∀x∈o.op.operands,ev g x=ev g' x:=by
 intro x hx
 cases x with
 |tmp t=>exact h t (aNo _ (List.mem_filterMap.2 ⟨.tmp t,by simpa using hx,rfl⟩))
 |_=>rfl
theorem auI{g g':Env}{o:Oper}(hs:acJ o=false)(h:∀s∈looks ops o,g s=g' s):Nf g o=Nf g' o:=by
 have e:=execOp_congr o (λcs b he=>by simp[acJ,he]at hs) (MQ h)
 have k:=MQ h
 unfold Nf
 split
 .rename_i op t x y yt hx
  rw[k x (by simp[hx,Op.operands]),k y (by simp[hx,Op.operands])]
 .rename_i fn first captured hx
  have e1:List.map (ev g) first.toList=List.map (ev g') first.toList:=aMz λp hp=>k p (by simp[hx,Op.operands];exact .inl (by simpa using hp))
  have e2:List.map (ev g) captured.toList=List.map (ev g') captured.toList:=aMz λp hp=>k p (by simp[hx,Op.operands];exact .inr (by simpa using hp))
  rw[e1,e2]
 .rename_i t ps hx
  congr 1
  refine aMz λp hp=> ?_
  rw[k p.2 (by simp[hx,Op.operands];exact⟨p.1,by simpa using hp⟩)]
 .rename_i t n ps hx
  congr 1
  refine aMz λp hp=> ?_
  rw[k p.2 (by simp[hx,Op.operands];exact⟨p.1,by simpa using hp⟩)]
 .rename_i c hx
  split
  .rename_i b hb
   congr 1
   refine aMz λp hp=> ?_
   exact k p (by simp[hx,Op.operands,Call.operands,hb];simpa using hp)
  .rename_i f hb
   have:List.map (ev g) c.args.toList=List.map (ev g') c.args.toList:=aMz λp hp=>k p (by simp[hx,Op.operands,Call.operands,hb];exact .inr (by simpa using hp))
   rw[this,k f (by simp[hx,Op.operands,Call.operands,hb])]
  .exact e
 .exact e
theorem akV{g g':Env}{o:Oper}{j:Nat}{want:Bool}(hg:o.guard=some (j,want))(h:∀s∈looks ops o,g s=g' s):
 Bg g (EN ops j) want=Bg g' (EN ops j) want:=by
 cases hs:EN ops j with
 |none=>rfl
 |some t=>
  have:=h t (aNP _ (by simp[hg,hs]))
  simp[Bg,this]
theorem YB{g g':Env}{o:Oper}{w:aOi}{K:aOj->aOi->Prop}(hs:acJ o=false)(h:∀s∈looks ops o,g s=g' s)
 (hk:Jk P ops g o w K):Jk P ops g' o w K:=by
 have e:=auI (ops:=ops) hs h
 have run:KG P g o w=KG P g' o w:=by
  funext K
  unfold KG
  split
  .rename_i x hx
   have:=MQ (ops:=ops) h x (by simp[hx,Op.operands])
   rw[this]
  .rename_i x hx
   have:=MQ (ops:=ops) h x (by simp[hx,Op.operands])
   rw[this]
  .rename_i c hx
   have k:=MQ h
   have:List.map (ev g) c.args.toList=List.map (ev g') c.args.toList:=aMz λp hp=>k p (by simp[hx,Op.operands,Call.operands];exact .inr (by simpa using hp))
   rw[this,e]
  .rw [e]
 unfold Jk at*
 cases hg:o.guard with
 |none=>rw[hg]at hk;simp only at hk⊢;rwa [<-run]
 |some p=>
  obtain⟨j,want⟩:=p
  simp only[hg]at hk⊢
  rw[<-run,<-akV hg h]
  exact hk
theorem atQ{n:Nat}(hn:n=ops.size){b:Array Nat}(r:Run P ops an g0 w0 n O G W V)(st:afY ops an O b){S:Nat->Prop}{i k:Nat}(hi:i<n)(hk:k<=n)
 (hdown:∀j k,j<ops.size->k<ops.size->S k->bef b j k=true->S j) (hbi:∀j,j<ops.size->bef b j i=true->S j) (hni:¬S i)
 (hS:∀h,h<n->oR h an.1=true->(S h↔h<k)) (hl:oR i an.1=false):
 abT P ops (G i) (O i) (W k) (V i) (W k):=by
 subst hn
 have same:Gs (gOf ops (O i) (G i)) (dR P (Nf (G i) (O i)) (V i) (W k))->OG (O i)=false->abT P ops (G i) (O i) (W k) (V i) (W k):=by
  intro hs hm K hK
  have run:dR P (Nf (G i) (O i)) (V i) (W k)->KG P (G i) (O i) (W k) K:=by
   intro hs
   unfold dR at hs
   have stp:aA P (Nf (G i) (O i)) (W k) K:=by unfold aA;rw[hs];exact hK
   unfold KG
   split
   .rename_i x hx;simp[OG,hx]at hm
   .rename_i x hx;simp[OG,hx]at hm
   .rename_i c hx
    have hf:aD5 (O i)=false:=by
     cases hh:aD5 (O i)
     .rfl
     .rw [st.fn i hi hh]at hl;cases hl
    obtain⟨cal,cargs,cats⟩:=c
    cases cal with
    |value f=>
     cases f with
     |func f=>simp[aD5,hx]at hf
     |_=>exact stp
    |_=>exact stp
   .exact stp
  have hy:=r.yld i hi (λv _=>v=V i) rfl
  unfold Jk at hy⊢
  unfold gOf at hs
  cases hg:(O i).guard with
  |none=>rw[hg]at hs;exact run hs
  |some p=>
   obtain⟨j,want⟩:=p
   rw[hg]at hs
   simp only[hg]at hs hy⊢
   cases hb:Bg (G i) (EN ops j) want with
   |true=>rw[hb]at hs;exact run hs
   |false=>
    rw[hb]at hy
    have:undef=V i:=hy
    show K undef (W k)
    rw[this];exact hK
 have moved:OG (O i)=true->abT P ops (G i) (O i) (W k) (V i) (W k):=by
  intro hm K hK
  have hy:=r.yld i hi (λv _=>v=V i) rfl
  unfold Jk at hy⊢
  have mv:∀(K':aOj->aOi->Prop) w,KG P (G i) (O i) w K'↔∃x,((O i).op= .move x∨(O i).op= .assign x)/\K' (ev (G i) x) w:=by
   intro K' w
   unfold KG
   unfold OG at hm
   split
   .rename_i x hx;constructor
    .intro h;exact⟨x,.inl hx,h⟩
    .rintro ⟨y,h|h,h'⟩
     .rw [hx]at h;cases h;exact h'
     .rw [hx]at h;cases h
   .rename_i x hx;constructor
    .intro h;exact⟨x,.inr hx,h⟩
    .rintro ⟨y,h|h,h'⟩
     .rw [hx]at h;cases h
     .rw [hx]at h;cases h;exact h'
   .rename_i c hx;simp[hx]at hm
   .rename_i h1 h2 _;split at hm
    .rename_i x hx;exact absurd hx (h1 x)
    .rename_i x hx;exact absurd hx (h2 x)
    .cases hm
  cases hg:(O i).guard with
  |none=>
   rw[hg]at hy
   simp only at hy⊢
   rw[mv]at hy⊢
   obtain⟨x,hx,h⟩:=hy
   exact⟨x,hx,h▸hK⟩
  |some p=>
   obtain⟨j,want⟩:=p
   simp only[hg]at hy⊢
   unfold Gd at*
   cases hb:Bg (G i) (EN ops j) want with
   |true=>
    simp only[hb]at hy⊢
    rw[mv]at hy⊢
    obtain⟨x,hx,h⟩:=hy
    exact⟨x,hx,h▸hK⟩
   |false=>
    simp only[hb]at hy⊢
    rwa [hy]
 rcases aOf k i with hki|hki
 .by_cases hx:∃h,k<=h/\h<i/\oR h an.1=true
  .obtain ⟨h,h1,h2,h3,h4⟩:=atL hx
   have e:W h=W k:=r.still' h1 (by omega) h4
   have p:=st.pair h i h2 hi
   unfold SD at p
   simp only[aM4,aLM,aNe]at p
   rcases p with p|p
   .have:=hbi h (by omega) p
    have:=(hS h (by omega) h3).1 this
    omega
   .have p2:=p.2
    rw[h3,hl]at p2
    simp only[aM4]at p2
    cases hmv:OG (O i)with
    |true=>exact moved hmv
    |false=>
     rcases p2 with p2|p2
     .rw [hmv]at p2;cases p2
     .refine same ?_ hmv
      have c:=r.chk h i h2 hi p2
      unfold aAs VZ acW at c
      simp only[h3]at c
      rw[<-e];exact c
  .have e:W i=W k:=r.still' hki (by omega) (λh a b=>by
    cases hm:oR h an.1
    .rfl
    .exact absurd ⟨h,a,b,hm⟩ hx)
   have hy:=r.yld i hi
   rw[r.light i hi hl,e]at hy
   exact hy
 .by_cases hx:∃h,i<=h/\h<k/\oR h an.1=true
  .obtain ⟨h,h1,h2,h3,h4⟩:=ahN hx
   have hne:h≠i:=λe=>by rw[e,hl]at h3;cases h3
   have e:W k=W (h+1):=r.still' (by omega) hk (λh' a b=>h4 h' (by omega) b)
   have p:=st.pair i h (by omega) (by omega)
   unfold SD at p
   simp only[aM4,aLM,aNe]at p
   rcases p with p|p
   .exact absurd (hdown i h (by omega) (by omega) ((hS h (by omega) h3).2 h2) p) hni
   .have p2:=p.2
    rw[h3,hl]at p2
    simp only[aM4]at p2
    cases hmv:OG (O i)with
    |true=>exact moved hmv
    |false=>
     rcases p2 with p2|p2
     .rw [hmv]at p2;cases p2
     .refine same ?_ hmv
      have c:=r.chk i h (by omega) (by omega) p2
      unfold aAs VZ acW at c
      simp only[hl]at c
      rw[e];exact c
  .have e:W k=W i:=r.still' hki hk (λh a b=>by
    cases hm:oR h an.1
    .rfl
    .exact absurd ⟨h,a,b,hm⟩ hx)
   have hy:=r.yld i hi
   rw[r.light i hi hl,<-e]at hy
   exact hy
def jV(listed:Array Bool)(i:Nat):Prop:=listed.getD i false=true
theorem aDK{N n:Nat}(hn:n=ops.size)(hd:VM N ops)(hca:W9 P ops){b:Array Nat}(r:Run P ops an g0 w0 n O G W V)(st:afY ops an O b)
 {Q:Act->aOi->Prop} (hQ:∀a,Q7 N (G n) a->Q a (W n)):
 ∀(fuel:Nat) (listed:Array Bool) (g:Env) (a:Act) (k:Nat),listed.size=n->Q7 N g a->k<=n→
  (∀j,j<n->jV listed j->∀e∈(O j).after,Region.binds .any e=true->jV listed e.on)→
  NN n O V g0 (jV listed) g->(∀h,h<n->oR h an.1=true->(jV listed h↔h<k))→
  ((List.range n).filter λi=> !listed.getD i false).length<=fuel→
  ajQ P ops Q fuel listed a (W k):=by
 subst hn
 have ready_iff:∀(listed:Array Bool),listed.size=ops.size->∀i,i∈Region.ready .any ops listed↔(i<ops.size/\¬jV listed i/\∀e∈(O i).after,Region.binds .any e=true->jV listed e.on):=by
  intro listed hsz i
  unfold Region.ready jV
  rw[aNW,aMo]
  constructor
  .rintro ⟨h1,h2⟩
   rw[r.op i h1]at h2
   simp only[aLM,aL2,aNs]at h2
   refine⟨h1, ?_,λe he hb=> ?_⟩
   .have:=h2.1
    rw[aLI]at this⊢
    rw[aL0 (by omega)]at this⊢
    simpa using this
   .have:=aMW.1 h2.2 e he
    simpa[hb]using this
  .rintro ⟨h1,h2,h3⟩
   refine⟨h1, ?_⟩
   rw[r.op i h1]
   simp only[aLM,aL2,aNs]
   refine⟨?_,aMW.2 λe he=> ?_⟩
   .rw [aLI]at h2⊢
    rw[aL0 (by omega)]at h2⊢
    simpa using h2
   .by_cases hb:Region.binds .any e=true
    .simp [hb,h3 e he hb]
    .simp [hb]
 have none_ready:∀(listed:Array Bool),listed.size=ops.size->Region.ready .any ops listed=[]->∀i,i<ops.size->jV listed i:=by
  intro listed hsz hr i
  induction i using Nat.strongRecOn with
  |_ i ih=>
   intro hi
   refine Classical.byContradiction λhl=> ?_
   have:i∈Region.ready .any ops listed:=(ready_iff listed hsz i).2 ⟨hi,hl,λe he hb=>by
    have:=st.back i hi e he hb
    exact ih e.on this (by omega)⟩
   rw[hr]at this;cases this
 have all_done:∀(listed:Array Bool) (g:Env) (a:Act) (k:Nat),Q7 N g a->k<=ops.size->NN ops.size O V g0 (jV listed) g→
     (∀h,h<ops.size->oR h an.1=true->(jV listed h↔h<k))->(∀i,i<ops.size->jV listed i)->Q a (W k):=by
  intro listed g a k hr hk he hh hall
  have e:W ops.size=W k:=r.still' hk (aLw _) (λh h1 h2=>by
   cases hm:oR h an.1
   .rfl
   .have:=(hh h h2 hm).1 (hall h h2);omega)
  have eg:g=G ops.size:=funext λs=>he.agree (r.envFor ops.size (aLw _)) s (λj hj _=>⟨λ_=>hj,λ_=>hall j hj⟩)
  rw[<-e];exact hQ a (eg▸hr)
 intro fuel
 induction fuel with
 |zero=>
  intro listed g a k hsz hr hk hdep henv hh hc
  have hall:∀i,i<ops.size->jV listed i:=by
   intro i hi
   have hnil:((List.range ops.size).filter λi=> !listed.getD i false)=[]:=aL8.1 (by omega)
   have:=List.filter_eq_nil_iff.1 hnil i (aMo.2 hi)
   unfold jV;simpa using this
  refine⟨?_,all_done listed g a k hr hk henv hh hall⟩
  rw[List.eq_nil_iff_forall_not_mem]
  intro i hi
  have:=(ready_iff listed hsz i).1 hi
  exact this.2.1 (hall i this.1)
 |succ fuel ih=>
  intro listed g a k hsz hr hk hdep henv hh hc
  refine⟨λhn=>all_done listed g a k hr hk henv hh (none_ready listed hsz hn),λi hi=> ?_⟩
  obtain⟨h1,h2,h3⟩:=(ready_iff listed hsz i).1 hi
  have hdown:∀k j,j<ops.size->k<ops.size->jV listed k->bef b j k=true->jV listed j:=by
   intro k
   induction k using Nat.strongRecOn with
   |_ k ihk=>
    intro j hj hk hl hb
    obtain⟨e,he,hbi,h⟩:=st.closed j k hj hk hb
    have hle:=hdep k hk hl e he hbi
    rcases h with h|h
    .exact h▸hle
    .have hlt:=st.back k hk e he hbi
     exact ihk e.on hlt j hj (by omega) hle h
  have hbi:∀j,j<ops.size->bef b j i=true->jV listed j:=by
   intro j hj hb
   obtain⟨e,he,hbi,h⟩:=st.closed j i hj h1 hb
   have hle:=h3 e he hbi
   rcases h with h|h
   .exact h▸hle
   .have hlt:=st.back i h1 e he hbi
    exact hdown e.on j hj (by omega) hle h
  have hdown':∀j k,j<ops.size->k<ops.size->jV listed k->bef b j k=true->jV listed j:=λj k=>hdown k j
  have hlooks:∀s∈looks ops (O i),(G i) s=g s:=λs hs=>
   (r.envFor i (by omega)).agree henv s (λj hj hd=>by
     by_cases hji:j=i
     .subst hji
      exact⟨λh=>absurd h (by omega),λh=>absurd h h2⟩
     .exact (st.order h1 hdown' hbi h2 (.inl hs) hj hji hd).symm)
  have hl':∀j,jV (listed.setIfInBounds i true) j↔(jV listed j∨j=i):=by
   intro j
   unfold jV
   rw[aLI,aLI]
   by_cases hji:j=i
   .subst hji
    rw[aMe (by omega)]
    simp
   .rw [aMr (λe=>hji e.symm)]
    simp[hji]
  have next:∀k',k'<=ops.size->(∀h,h<ops.size->oR h an.1=true->((jV listed h∨h=i)↔h<k'))->abT P ops g (O i) (W k) (V i) (W k')→
      Tw P ops i (ajQ P ops Q fuel (listed.setIfInBounds i true)) a (W k):=by
   intro k' hk' hh' hy
   refine adI (r.op i h1) (hca i _ (r.op i h1)) hd hr hy ?_
   refine ih _ (put g (O i).dst (V i)) _ k' (by simp[hsz]) (hr.put _ _ (hd i _ (r.op i h1))) hk' ?_ ?_ ?_ ?_
   .intro j hj hlj e he hb
    rw[hl']at hlj⊢
    rcases hlj with hlj|rfl
    .exact .inl (hdep j hj hlj e he hb)
    .exact .inl (h3 e he hb)
   .have:=henv.step i h1 (λs hs j hj hji hd hlj=>(st.order h1 hdown' hbi h2 (.inr hs) hj hji hd).1 hlj)
    intro s
    rcases this s with⟨j,j1,j2,j3,j4,j5⟩|⟨j1,j2⟩
    .exact .inl ⟨j,j1,(hl' j).2 j2,j3,λk k1 k2 k3=>j4 k k1 ((hl' k).1 k2) k3,j5⟩
    .exact .inr ⟨λj a b=>j1 j a ((hl' j).1 b),j2⟩
   .intro h a b;rw[hl'];exact hh' h a b
   .have hin:i∈(List.range ops.size).filter λi=> !listed.getD i false:=
     aNW.2 ⟨aMo.2 h1,by unfold jV at h2;simpa using h2⟩
    have e1:((List.range ops.size).filter λj=> !(listed.setIfInBounds i true).getD j false)=((List.range ops.size).filter λj=> !listed.getD j false).filter λj=>j !=i:=by
     rw[List.filter_filter]
     refine List.filter_congr λj _=> ?_
     have:=hl' j
     unfold jV at this
     by_cases hji:j=i
     .have hh:(listed.setIfInBounds i true).getD j false=true:=this.2 (.inr hji)
      rw[hh,hji];simp
     .have hne:(j !=i)=true:=by simpa using hji
      rw[hne,Bool.true_and]
      cases ha:listed.getD j false with
      |true=>rw[this.2 (.inl ha)]
      |false=>
       cases hb:(listed.setIfInBounds i true).getD j false with
       |false=>rfl
       |true=>rcases this.1 hb with h|h
              .rw [ha]at h;cases h
              .exact absurd h hji
    have hnd:((List.range ops.size).filter λj=> !listed.getD j false).Nodup:=List.nodup_range.filter _
    rw[e1,<-List.Nodup.erase_eq_filter hnd,aNY hin]
    omega
  cases hm:oR i an.1 with
  |true=>
   have hS:∀h,h<ops.size->oR h an.1=true->(jV listed h↔h<i):=by
    intro h hh1 hhm
    rcases aNp h i with hlt|heq|hgt
    .refine ⟨λ_=>hlt,λ_=> ?_⟩
     have p:=st.pair h i hlt h1
     unfold SD at p
     rw[hhm,hm]at p
     simp only[aM4,aLM,aLC,and_false,or_false]at p
     exact hbi h hh1 p
    .subst heq;exact⟨λhh=>absurd hh h2,λhh=>absurd hh (by omega)⟩
    .refine ⟨λhl=> ?_,λhh=>absurd hh (by omega)⟩
     have p:=st.pair i h hgt hh1
     unfold SD at p
     rw[hhm,hm]at p
     simp only[aM4,aLM,aLC,and_false,or_false]at p
     exact absurd (hdown h i h1 hh1 hl p) h2
   have eW:W k=W i:=by
    rcases aOf k i with hki|hki
    .exact (r.still' hki (by omega) (λh a b=>by
      cases hx:oR h an.1
      .rfl
      .have:=(hh h (by omega) hx).1 ((hS h (by omega) hx).2 b);omega)).symm
    .exact r.still' hki hk (λh a b=>by
      cases hx:oR h an.1
      .rfl
      .have:=(hS h (by omega) hx).1 ((hh h (by omega) hx).2 b);omega)
   refine next (i+1) (by omega) (λh a b=> ?_) ?_
   .rw [hS h a b];omega
   .rw [eW]
    intro K hK
    exact YB (ops:=ops) (st.sel i h1) hlooks (r.yld i h1 K hK)
  |false=>
   refine next k hk (λh a b=> ?_) ?_
   .rw [<-hh h a b]
    constructor
    .rintro (h'|rfl)
     .exact h'
     .rw [hm]at b;cases b
    .exact .inl
   .intro K hK
    exact YB (ops:=ops) (st.sel i h1) hlooks (atQ rfl r st h1 hk hdown' hbi h2 hh hm K hK)
end
abbrev afZ(P:Program):Machine->Prop:=Machine.fenced P Fence.wide
def wpF(P:Program)(f:FuncId)(ro:Option Nat)(c:Code)(Q:Exit->Act->aOi->Prop)(a:Act)(w:aOi):Prop:=
 ∀(b:Frame) (k:List Item) (cs:List Frame),b.fn=f->b.roundOf=ro->∃e a' w',Q e a' w'/\ArrivesIn (afZ P) P (lone (b.atR a (.code c::k)) cs w) b k cs e a' w'
section
variable{P:Program}{f:FuncId}{ro:Option Nat}{Q:Exit->Act->aOi->Prop}{a:Act}{w:aOi}
theorem Jj{m m1:Machine}(h:step P m= .next m1):StepsIn (afZ P) P m m1:= .one (fenced_wide P m) h
theorem PG{m m1 m2:Machine}(h:step P m= .next m1)(h':StepsIn (afZ P) P m1 m2):StepsIn (afZ P) P m m2:= .head (fenced_wide P m) h h'
theorem aFi(h:Q .normal a w):wpF P f ro .skip Q a w:=λ_ _ _ _ _=>⟨.normal,a,w,h,Jj Go.stepR_skip⟩
theorem aCM{l:Nat}(h:Q .normal a w):wpF P f ro (.label l) Q a w:=λ_ _ _ _ _=>⟨.normal,a,w,h,Jj stepR_label⟩
theorem awD{id:Nat}(h:Q (.exit id) a w):wpF P f ro (.exit id) Q a w:=
 λ_ k _ _ _=>⟨.exit id,a,w,h,λ_ hk=>Jj (stepR_exit hk),λ_ hk=>⟨k,hk,.refl _⟩⟩
theorem aBd(h:Q .ret a w):wpF P f ro .ret Q a w:=
 λ_ k _ _ _=>⟨.ret,a,w,h,λhn=>⟨_,Jj (stepR_ret hn)⟩,λ_=>⟨k,.refl _⟩⟩
theorem aGY{x y:Code}(h:wpF P f ro x (Exit.then (wpF P f ro y Q) Q) a w):wpF P f ro (.seq x y) Q a w:=by
 intro b k cs hb hro
 obtain⟨e,a1,w1,hq,har⟩:=h b (.code y::k) cs hb hro
 cases e with
 |normal=>
  obtain⟨e2,a2,w2,hq2,har2⟩:=hq b k cs hb hro
  exact⟨e2,a2,w2,hq2,.of_steps (PG stepR_seq har) har2⟩
 |_=>exact⟨_,a1,w1,hq,.of_steps (Jj stepR_seq) (.pass (x:= .code y) rfl (λ_ _=> .inl (by simp)) har)⟩
theorem aFg{c:Operand}{x y:Code}{t:Bool}(hc:a.eval c= .bool t)(h:wpF P f ro (if t then x else y) Q a w):wpF P f ro (.cond c x y) Q a w:=
 λb k cs hb hro=>let⟨e,a1,w1,q,r⟩:=h b k cs hb hro;⟨e,a1,w1,q,.of_steps (Jj (stepR_cond hc)) r⟩
theorem aCL{id:Nat}{c:Code}(h:wpF P f ro c (Exit.inBlock id Q) a w):wpF P f ro (.block id c) Q a w:=by
 intro b k cs hb hro
 obtain⟨e,a1,w1,hq,har⟩:=h b (.inBlock id::k) cs hb hro
 cases e with
 |normal=>exact⟨.normal,a1,w1,hq,PG stepR_block (StepsIn.trans har (Jj stepR_inBlock))⟩
 |exit i=>
  by_cases hid:i=id
  .simp only[Exit.inBlock,hid,if_true]at hq
   exact⟨.normal,a1,w1,hq,PG stepR_block (har.1 k (by simp[exitTo,hid]))⟩
  .simp only[Exit.inBlock,hid,if_false]at hq
   have this:(id==i)=false:=by simp;exactλh=>hid h.symm
   have hx:exitTo i (.inBlock id::k)=exitTo i k:=by simp[exitTo,this]
   exact⟨.exit i,a1,w1,hq,λk' hk=>PG stepR_block (har.1 k' (by rw[hx];exact hk)),
    λhr' hk=>let⟨k1,h1,h2⟩:=har.2 hr' (by rw[hx];exact hk);⟨k1,h1,PG stepR_block h2⟩⟩
 |goto l=>
  have hx:gotoIn l (.inBlock id::k)=gotoIn l k:=by simp[gotoIn]
  exact⟨_,a1,w1,hq,λk' hk=>PG stepR_block (har.1 k' (by rw[hx];exact hk)),
   λhr' hk=>let⟨k1,h1,h2⟩:=har.2 hr' (by rw[hx];exact hk);⟨k1,h1,PG stepR_block h2⟩⟩
 |ret=>exact⟨_,a1,w1,hq,.of_steps (Jj stepR_block) har⟩
 |panic ch=>exact⟨_,a1,w1,hq,.of_steps (Jj stepR_block) har⟩
 |outgrown=>exact⟨_,a1,w1,hq,.of_steps (Jj stepR_block) har⟩
theorem Ch{b:Frame}{k:List Item}{cs:List Frame}{c:Code}:
 step P (lone (b.atR a (.code (.scope c)::k)) cs w)= .next (lone (b.atR a (.code c:: .inScope c::k)) cs w):=
 step_lone_go (by simp[stepG,stepG.exec,Frame.atR])
theorem alQ{b:Frame}{k:List Item}{cs:List Frame}{c:Code}:
 step P (lone (b.atR a (.inScope c::k)) cs w)= .next (lone (b.atR a k) cs w):=
 step_lone_go (by simp[stepG,stepG.exec,Frame.atR])
theorem aCO{c:Code}(h:wpF P f ro c (Exit.noGoto Q) a w):wpF P f ro (.scope c) Q a w:=by
 intro b k cs hb hro
 obtain⟨e,a1,w1,hq,har⟩:=h b (.inScope c::k) cs hb hro
 cases e with
 |normal=>exact⟨.normal,a1,w1,hq,PG Ch (StepsIn.trans har (Jj alQ))⟩
 |exit id=>
  have hx:exitTo id (.inScope c::k)=exitTo id k:=by simp[exitTo]
  exact⟨.exit id,a1,w1,hq,λk' hk=>PG Ch (har.1 k' (by rw[hx];exact hk)),
   λhr' hk=>let⟨k1,h1,h2⟩:=har.2 hr' (by rw[hx];exact hk);⟨k1,h1,PG Ch h2⟩⟩
 |goto l=>exact hq.elim
 |ret=>exact⟨_,a1,w1,hq,.of_steps (Jj Ch) har⟩
 |panic ch=>exact⟨_,a1,w1,hq,.of_steps (Jj Ch) har⟩
 |outgrown=>exact⟨_,a1,w1,hq,.of_steps (Jj Ch) har⟩
theorem aFh{c:Code}(I:Act->aOi->Prop)(μ:Act->aOi->Nat)(h0:I a w)
 (round:∀a w,I a w->wpF P f ro c (Exit.then (λa' w'=>I a' w'/\μ a' w'<μ a w) Q) a w):wpF P f ro (.loop c) Q a w:=by
 intro b k cs hb hro
 have key:∀n a w,μ a w=n->I a w→
     ∃e a' w',Q e a' w'/\ArrivesIn (afZ P) P (lone (b.atR a (.code c:: .inLoop c::k)) cs w) b k cs e a' w':=by
  intro n
  induction n using Nat.strongRecOn with
  |_ n ih=>
   intro a w hn hI
   obtain⟨e,a1,w1,hq,har⟩:=round a w hI b (.inLoop c::k) cs hb hro
   cases e with
   |normal=>
    obtain⟨hI1,hlt⟩:=hq
    obtain⟨e2,a2,w2,hq2,har2⟩:=ih (μ a1 w1) (hn▸hlt) a1 w1 rfl hI1
    exact⟨e2,a2,w2,hq2,.of_steps (StepsIn.trans har (Jj stepR_inLoop)) har2⟩
   |_=>exact⟨_,a1,w1,hq,.pass (x:= .inLoop c) rfl (λ_ _=> .inl (by simp)) har⟩
 obtain⟨e,a',w',hq,har⟩:=key _ a w rfl h0
 exact⟨e,a',w',hq,.of_steps (Jj stepR_loop) har⟩
theorem aBc{ops:Array Oper}{L:List Nat}(h:Fq P ops (Q .normal) L a w)(b:Frame)(k:List Item)(cs:List Frame)(hro:b.roundOf=ro):
 ∃e a' w',Q e a' w'/\ArrivesIn (afZ P) P (lone (b.atR a (.inRegion ops L::k)) cs w) b k cs e a' w':=by
 obtain⟨e,a',w',⟨rfl,hq⟩,hs⟩:=wp_opsIn (F:=ajP ro) (n:=0) L a w (aCP ro L a w h) b k cs hro trivial (λ_ h=>by simp[ajP,Fence.wide]at h)
 exact⟨.normal,a',w',hq,hs⟩
theorem azW{id:Nat}{ops:Array Oper}(h:Fq P ops (Q .normal) (List.range ops.size) a w):wpF P f ro (.region id ops false) Q a w:=by
 intro b k cs hb hro
 obtain⟨e,a1,w1,q,r⟩:=aBc h b k cs hro
 exact⟨e,a1,w1,q,.of_steps (Jj stepR_region) r⟩
theorem afK(hm:P.follows .mixedOrders=true){id:Nat}{ops:Array Oper}
 (h:Fq P ops (Q .normal) (Region.schedule true ops (w.tape w.drawn (.order f id))) a {w with drawn:=w.drawn+1}):wpF P f ro (.region id ops true) Q a w:=by
 intro b k cs hb hro
 obtain⟨e,a1,w1,q,r⟩:=aBc h b k cs hro
 refine⟨e,a1,w1,q,.of_steps (Jj ?_) r⟩
 have:= @stepR_region_draw P b a k cs w ops id
 rw[hm,hb]at this
 exact this
def Ec(v:aOj)(w:aOi)(K:aOi->Prop):Prop:=
 match v with
 | .pointer (some a)=>w.heap[a.block]?=some (.deferred (some []))/\K (w.putObj a.block (.deferred none))
 |_=>K w
def aBo(P:Program)(fn:Func)(R:aOj->aOi->Prop):Exit->Act->aOi->Prop
 | .normal,a,w| .ret,a,w=>∃m,a.defers=asL m/\Ec m w λw'=>∃v,(results fn a.tmps).run P w'= .ok v w'/\R v w'
 |_,_,_=>False
theorem atM{fn:Func}{R:aOj->aOi->Prop}{fr:Frame}{cs:List Frame}(hm:fr.mode= .returning)(hf:P.funcs[fr.fn]?=some fn)(hk:fr.kind= .normal){m:aOj}(hd:fr.defers=asL m)
 (h:Ec m w λw'=>∃v,(results fn fr.tmps).run P w'= .ok v w'/\R v w'):
 ∃v w' fr',R v w'/\Steps P (lone fr cs w) (lone fr' cs w')/\fr'.fn=fr.fn/\fr'.leaving P w' (.returned v):=by
 have nil:fr.defers=[]->(∃v,(results fn fr.tmps).run P w= .ok v w/\R v w)→
     ∃v w' fr',R v w'/\Steps P (lone fr cs w) (lone fr' cs w')/\fr'.fn=fr.fn/\fr'.leaving P w' (.returned v):=by
  rintro hd ⟨v,hv,hR⟩
  exact⟨v,w,fr,hR,.refl _ _,rfl,hm,hd,hk,fn,hf,hv⟩
 cases m with
 |pointer p=>
  cases p with
  |none=>exact nil hd h
  |some a=>
   obtain⟨h1,v,hv,hR⟩:=h
   have hs:=step_collected (P:=P) (fr:=fr) (cs:=cs) (w:=w) (d:={target:= .collected a.block,args:= #[]}) (r:=a.block) (ds:=[]) (calls:=[])
    (by rw[hm];simp) hd rfl (run_takeDeferred h1)
   exact⟨v,_,{fr with defers:=[]},hR,.head hs (.refl _ _),rfl,hm,rfl,hk,fn,hf,hv⟩
 |_=>exact nil hd h
theorem aoA{fn:Func}{c:Code}{args:Array aOj}{w:aOi}{R:aOj->aOi->Prop}
 (hf:P.funcs[f]?=some fn) (hb:fn.body=some c)
 (h:wpF P f none c (aBo P fn R) {tmps:=args++Array.replicate (fn.ntmps-args.size) undef,defers:=[]} w):Calls P f args w λe w'=>∃v,e= .returned v/\R v w':=by
 intro cs
 let b:Frame:={(default:Frame)with fn:=f,kind:= .normal,roundOf:=none}
 have henter:Frame.enter P f args .normal=b.atR {tmps:=args++Array.replicate (fn.ntmps-args.size) undef,defers:=[]} [.code c]:=by
  simp[Frame.enter,Frame.atR,hf,hb,b]
 obtain⟨e,a',w',hq,har⟩:=h b [] cs rfl rfl
 rw[<-henter]at har
 cases e with
 |normal=>
  obtain⟨m,hd,hq⟩:=hq
  obtain⟨v,w2,fr,hR,hs,hfn,hl⟩:=atM (P:=P) (cs:=cs) (fr:={b.atR a' []with mode:= .returning}) rfl hf rfl hd hq
  exact⟨.returned v,w2,fr,⟨v,rfl,hR⟩,(StepsIn.steps har).trans (.head (stepR_end rfl) hs),hfn,hl⟩
 |ret=>
  obtain⟨m,hd,hq⟩:=hq
  obtain⟨todo,hs0⟩:=har.1 rfl
  obtain⟨v,w2,fr,hR,hs,hfn,hl⟩:=atM (P:=P) (cs:=cs) (fr:={b.atR a' todo with mode:= .returning}) rfl hf rfl hd hq
  exact⟨.returned v,w2,fr,⟨v,rfl,hR⟩,(StepsIn.steps hs0).trans hs,hfn,hl⟩
 |panic chain=>exact hq.elim
 |exit id=>exact hq.elim
 |goto l=>exact hq.elim
 |outgrown=>exact hq.elim
def aHh(P:Program)(f:FuncId)(Q:Exit->Act->aOi->Prop)(a:Act)(w:aOi):Option Code->Prop
 |none=>Q .normal a w
 |some c=>wpF P f none c Q a w
theorem aCN{gf:Operand}{ps:Array Tmp}{aLn bd:Code}{d:Deferred}{g:FuncId}{args:Array aOj}{w1:aOi}{l:Nat}{mark:List Deferred}{w2 w3:aOi}{v:aOj}
 (he:(Instr.enterLoop f a.tmps ps aLn bd none).run P w= .ok (l,mark) w1)
 (hres:(resolve a.eval (rangeCall gf l) 0).run P w1= .ok d w1) (hinv:(invoke d.target d.args).run P w1= .ok (.enter g args) w2)
 (hcall:Ret P g args w2 v w3)
 {jump:Option Code} {w4:aOi} (hend:(Instr.endLoop l).run P w3= .ok jump w4)
 (hj:aHh P f Q {a with defers:=mark++a.defers} w4 jump):
 wpF P f none (.rangeFunc gf ps aLn bd) Q a w:=by
 intro b k cs hb hro
 rw[<-hb,<-hro]at he
 have henter:=stepR_rangeFunc (P:=P) (b:=b) (a:=a) (k:=k) (cs:=cs) (w:=w) he hres hinv
 obtain⟨e,w3',fr,⟨rfl,rfl⟩,hsteps,hfn,hleave⟩:=hcall (b.atR {a with defers:=mark++a.defers} (.inRangeFunc l::k)::cs)
 have sback:StepsIn (afZ P) P (lone (b.atR a (.code (.rangeFunc gf ps aLn bd)::k)) cs w) (lone (b.atR {a with defers:=mark++a.defers} ((jump.map Item.code).toList++k)) cs w4):=by
  refine PG henter (StepsIn.trans (stepsIn_wide.2 hsteps) (PG (m1:=lone (b.atR {a with defers:=mark++a.defers} (.endRangeFunc l::k)) cs w3') ?_ (Jj (stepR_endRangeFunc hend))))
  rw[<-finish_atR_inRangeFunc l v];exact step_leave_returned hleave
 cases jump with
 |none=>exact⟨.normal,_,w4,hj,sback⟩
 |some c=>
  obtain⟨e',a'',w5,hq,harr⟩:=hj b k cs hb hro
  exact⟨e',a'',w5,hq,.of_steps sback harr⟩
def azD(P:Program)(l:Nat)(R:aOj->aOi->Prop):Exit->Act->aOi->Prop
 | .normal,_,w=>∃v w',(Instr.endRound l none).run P w= .ok v w'/\R v w'
 | .ret,_,w=>∃v w',(Instr.endRound l (some .ret)).run P w= .ok v w'/\R v w'
 | .exit id,_,w=>∃v w',(Instr.endRound l (some (.exit id))).run P w= .ok v w'/\R v w'
 |_,_,_=>False
theorem aqC{l:Nat}{tmps:Array aOj}{aLn bd:Code}{R:aOj->aOi->Prop}
 (h:wpF P f (some l) aLn (Exit.then (λa1 w1=>∃w2,(Instr.beginRound l).run P w1= .ok () w2/\wpF P f (some l) bd (azD P l R) a1 w2) (λ_ _ _=>False))
   {tmps:=tmps,defers:=[]} w):
 RoundIn Fence.wide 0 P l f tmps aLn bd w λe w'=>∃v,e= .returned v/\R v w':=by
 refine⟨trivial,λc cs _=> ?_⟩
 let b:Frame:={(default:Frame)with fn:=f,kind:= .normal,roundOf:=some l}
 have hb0:Frame.round l f tmps aLn bd .normal=b.atR {tmps:=tmps,defers:=[]} [.code aLn,.beginRound,.code bd]:=by
  simp[Frame.round,Frame.atR,b]
 obtain⟨e,a1,w1,hq,harr⟩:=h b [.beginRound,.code bd] (c::cs) rfl rfl
 rw[<-hb0]at harr
 cases e with
 |normal=>
  obtain⟨w2,hbr,hbody⟩:=hq
  have s1:=Jj (stepR_beginRound (P:=P) (b:=b) (a:=a1) (k:=[.code bd]) (cs:=c::cs) rfl hbr)
  obtain⟨e2,a2,w3,hq2,harr2⟩:=hbody b [] (c::cs) rfl rfl
  cases e2 with
  |normal=>
   obtain⟨v,w4,hend,hR⟩:=hq2
   exact⟨.returned v,w4,⟨v,rfl,hR⟩,(StepsIn.trans harr s1).trans (StepsIn.trans harr2 (Jj (stepR_round_end rfl rfl hend)))⟩
  |ret=>
   obtain⟨v,w4,hend,hR⟩:=hq2
   obtain⟨k1,hs⟩:=harr2.2 rfl
   exact⟨.returned v,w4,⟨v,rfl,hR⟩,(StepsIn.trans harr s1).trans (StepsIn.trans hs (Jj (stepR_round_ret rfl rfl hend)))⟩
  |exit id=>
   obtain⟨v,w4,hend,hR⟩:=hq2
   obtain⟨k1,hk,hs⟩:=harr2.2 rfl rfl
   exact⟨.returned v,w4,⟨v,rfl,hR⟩,(StepsIn.trans harr s1).trans (StepsIn.trans hs (Jj (stepR_round_exit rfl rfl hk hend)))⟩
  |goto t=>exact hq2.elim
  |panic chain=>exact hq2.elim
  |outgrown=>exact hq2.elim
 |exit id=>exact hq.elim
 |goto t=>exact hq.elim
 |ret=>exact hq.elim
 |panic chain=>exact hq.elim
 |outgrown=>exact hq.elim
end
def anV(ops:Array Oper):Nat->Array Bool->List Nat->Prop
 |0,_,L=>L=[]
 |_+1,listed,[]=>Region.ready .any ops listed=[]
 |n+1,listed,i::L=>i∈Region.ready .any ops listed/\anV ops n (listed.setIfInBounds i true) L
section
variable{P:Program}{ops:Array Oper}{Q:Act->aOi->Prop}
theorem aGi:∀(fuel t:Nat) (listed:Array Bool),anV ops fuel listed (Region.linearise.go .any ops fuel t listed []):=by
 intro fuel
 induction fuel with
 |zero=>intro t listed;simp[Region.linearise.go,anV]
 |succ fuel ih=>
  intro t listed
  simp only[Region.linearise.go]
  change anV ops (fuel+1) listed (match(Region.ready .any ops listed)[t%(Region.ready .any ops listed).length]? with
   |some i=>Region.linearise.go .any ops fuel (t/(Region.ready .any ops listed).length) (listed.setIfInBounds i true) [i]
   |none=>[].reverse)
  cases hi:(Region.ready .any ops listed)[t%(Region.ready .any ops listed).length]? with
  |none=>
   have:Region.ready .any ops listed=[]:=by
    cases hr:Region.ready .any ops listed with
    |nil=>rfl
    |cons x xs=>
     rw[hr]at hi
     have hlt:t%(x::xs).length<(x::xs).length:=aNI _ (by simp)
     rw[aLp hlt]at hi
     cases hi
   simpa[anV]using this
  |some i=>
   simp only[]
   rw[linearise_go_acc]
   exact⟨aMi hi,ih _ _⟩
theorem Y9:∀(fuel:Nat) (listed:Array Bool) (L:List Nat) (a:Act) (w:aOi),ajQ P ops Q fuel listed a w->anV ops fuel listed L->Fq P ops Q L a w:=by
 intro fuel
 induction fuel with
 |zero=>intro listed L a w h hL;obtain rfl:L=[]:=hL;exact h.2
 |succ fuel ih=>
  intro listed L a w h hL
  cases L with
  |nil=>exact h.1 hL
  |cons i L=>
   exact azX (λa w hh=>ih _ _ a w hh hL.2) (h.2 i hL.1)
end
structure Perm(π:List Nat)(ops:Array Oper):Prop where
 len:π.length=ops.size
 to:∀i,i<ops.size->yN π i<ops.size/\π[yN π i]?=some i
 back:∀k,k<ops.size->∃i,π[k]?=some i/\yN π i=k/\i<ops.size
 after:∀(i:Nat) (o:Oper),ops[i]?=some o->∀e∈o.after,e.on<ops.size
 guard:∀(i:Nat) (o:Oper) (j:Nat) (b:Bool),ops[i]?=some o->o.guard=some (j,b)->j<ops.size
theorem aGA{π:List Nat}{ops:Array Oper}(h:ayO π ops=true):Perm π ops:=by
 unfold ayO at h
 simp only[aLM]at h
 obtain⟨⟨⟨h1,h2⟩,h3⟩,h4⟩:=h
 have h1:=aMf h1
 have at4:∀(i:Nat) (o:Oper),ops[i]?=some o->(o.after.all λe=>Nat.blt e.on ops.size)=true/\(match o.guard with|some (j,_)=>Nat.blt j ops.size|none=>true)=true:=by
  intro i o ho
  have hi:i<ops.size:=by
   rcases aLH i ops.size with h|h
   .exact h
   .rw [aMC h]at ho;cases ho
  have:=aMj.1 h4 i (aMo.2 hi)
  rw[ho]at this
  simp only[aLM]at this
  refine⟨this.1, ?_⟩
  have h:=this.2
  revert h
  cases o.guard<;>exact id
 refine⟨h1,λi hi=> ?_,λk hk=> ?_,λi o ho e he=> ?_,λi o j b ho hg=> ?_⟩
 .have:=aMj.1 h3 i (aMo.2 hi)
  cases hp:π[yN π i]? with
  |none=>rw[hp]at this;cases this
  |some j=>
   rw[hp]at this
   obtain rfl:=aMf this
   refine⟨?_,rfl⟩
   rcases aLH (yN π j) π.length with h|h
   .omega
   .rw [aLD h]at hp;cases hp
 .have:=aMj.1 h2 k (aMo.2 hk)
  cases hp:π[k]? with
  |none=>rw[hp]at this;cases this
  |some i=>
   rw[hp]at this
   simp only[aLM]at this
   exact⟨i,rfl,aMf this.1,(aNH (x:=i) (y:=ops.size))▸this.2⟩
 .have:=aMW.1 (at4 i o ho).1 e he
  exact(aNH (x:=e.on) (y:=ops.size))▸this
 .have:=(at4 i o ho).2
  rw[hg]at this
  exact(aNH (x:=j) (y:=ops.size))▸this
theorem anD{π:List Nat}{es:List (Nat×Nat)}{l:List Oper}:∀(r:List Nat),(∀i∈r,i<l.length)->(YF π es l r).length=r.length/\∀k i:Nat,r[k]?=some i->(YF π es l r)[k]?=(l[i]?).map (LO π es i):=by
 intro r
 induction r with
 |nil=>intro _;exact⟨rfl,λk i h=>by simp at h⟩
 |cons j r ih=>
  intro h
  obtain⟨h1,h2⟩:=ih λi hi=>h i (aLJ _ hi)
  have hj:j<l.length:=h j (by simp)
  simp only[YF,aLp hj]
  refine⟨by simp[h1],λk i hk=> ?_⟩
  cases k with
  |zero=>simp at hk;subst hk;simp[aLp hj]
  |succ k=>simp at hk⊢;exact h2 k i hk
section
variable{P:Program}{ops:Array Oper}{Q:Act->aOi->Prop}{π:List Nat}{es:List (Nat×Nat)}
theorem Perm.mem (p:Perm π ops):∀i∈π,i<ops.toList.length:=by
 intro i hi
 obtain⟨k,hk,e⟩:=aLU hi
 obtain⟨j,h1,_,h2⟩:=p.back k (by rw[<-p.len];exact hk)
 rw[aLp hk]at h1
 cases h1
 rw[<-e];simpa using h2
theorem Perm.size (p:Perm π ops):(nY π es ops).size=ops.size:=by
 unfold nY
 rw[List.size_toArray,(anD (es:=es) (π:=π) π p.mem).1,p.len]
theorem Perm.get (p:Perm π ops){i:Nat}(hi:i<ops.size):(nY π es ops)[yN π i]?=(ops[i]?).map (LO π es i):=by
 unfold nY
 have:=(anD (es:=es) (π:=π) π p.mem).2 (yN π i) i (p.to i hi).2
 rw[aNO]at this
 simpa using this
theorem ayP{i:Nat}{o:Oper}{a:Act}{w:aOi}{K:Act->aOi->Prop}:azG P (LO π es i o) a w K↔azG P o a w K:=by
 unfold azG
 have h1:execOp a.eval (LO π es i o)=execOp a.eval o:=by
  obtain⟨d,op,ty,ps,af,g⟩:=o
  cases op<;>rfl
 have h2:amQ (LO π es i o)=amQ o:=rfl
 rw[h1,h2]
 generalize(execOp a.eval o).run P w=r
 cases r with
 |ok n w=>cases n<;>exact Iff.rfl
 |halt x w=>exact Iff.rfl
theorem auL(p:Perm π ops){i:Nat}{o:Oper}(ho:ops[i]?=some o)(tmps:Array aOj):
 Region.wanted (LO π es i o) (yielded (nY π es ops) tmps)=Region.wanted o (yielded ops tmps):=by
 unfold Region.wanted LO
 simp only
 cases hg:o.guard with
 |none=>rfl
 |some q=>
  obtain⟨j,b⟩:=q
  simp only
  have hj:=p.guard i o j b ho hg
  have:(nY π es ops)[yN π j]?.bind (·.dst)=(ops[j]?).bind (·.dst):=by
   rw[p.get hj]
   cases ops[j]?<;>rfl
  unfold yielded
  rw[this]
theorem azY(p:Perm π ops):∀(L:List Nat),(∀i∈L,i<ops.size)->∀(a:Act) (w:aOi),Fq P (nY π es ops) Q (L.map (yN π)) a w->Fq P ops Q L a w:=by
 intro L
 induction L with
 |nil=>intro _ a w h;exact h
 |cons i L ih=>
  intro hL a w h
  rw[aL3]at h
  simp only[Fq]at h⊢
  have hi:=hL i (by simp)
  have ih:=ih λi hi=>hL i (aLJ _ hi)
  unfold Tw at h⊢
  rw[p.get hi]at h
  rw[aL0 hi]at h⊢
  simp only[aL2]at h
  rw[auL p (aL0 hi)]at h
  simp only
  split
  .rename_i hw
   rw[if_pos hw,ayP]at h
   exact anI (λa w=>ih a w) h
  .rename_i hw
   rw[if_neg hw]at h
   exact ih _ _ h
theorem TO{ops:Array Oper}{listed:Array Bool}(hsz:listed.size=ops.size)(i:Nat):
 i∈Region.ready .any ops listed↔(i<ops.size/\listed.getD i false=false/\∀o,ops[i]?=some o->∀e∈o.after,Region.binds .any e=true->listed.getD e.on false=true):=by
 unfold Region.ready
 rw[aNW,aMo]
 constructor
 .rintro ⟨h1,h2⟩
  rw[aL0 h1]at h2
  simp only[aLM,aL2,aNs]at h2
  refine⟨h1, ?_,λo ho e he hb=> ?_⟩
  .have:=h2.1
   rw[aLI]at this⊢
   rw[aL0 (by omega)]at this⊢
   simpa using this
  .rw [aL0 h1]at ho
   cases ho
   have:=aMW.1 h2.2 e he
   simpa[hb]using this
 .rintro ⟨h1,h2,h3⟩
  refine⟨h1, ?_⟩
  rw[aL0 h1]
  simp only[aLM,aL2,aNs]
  refine⟨?_,aMW.2 λe he=> ?_⟩
  .rw [aLI]at h2⊢
   rw[aL0 (by omega)]at h2⊢
   simpa using h2
  .by_cases hb:Region.binds .any e=true
   .simp [hb,h3 _ (aL0 h1) e he hb]
   .simp [hb]
theorem aEv{π:List Nat}{i:Nat}:∀{es:List (Nat×Nat)} {e:Edge},e∈H4 π i es->∃a,(a,i)∈es/\e.on=yN π a:=by
 intro es
 induction es with
 |nil=>intro e h;simp[H4]at h
 |cons q r ih=>
  obtain⟨a,b⟩:=q
  intro e h
  simp only[H4]at h
  cases hb:Nat.beq b i with
  |true=>
   rw[hb]at h
   obtain rfl:=aMf hb
   rcases aL9.1 h with rfl|h
   .exact ⟨a,by simp,rfl⟩
   .obtain ⟨a,h1,h2⟩:=ih h;exact⟨a,aLJ _ h1,h2⟩
  |false=>rw[hb]at h;obtain⟨a,h1,h2⟩:=ih h;exact⟨a,aLJ _ h1,h2⟩
theorem aB1 (p:Perm π ops){L0:List Nat}(hes:∀q∈es,L0.idxOf q.1<=L0.idxOf q.2/\q.1≠q.2/\q.1<ops.size):
 ∀(fuel:Nat) (listed listed':Array Bool) (pre L:List Nat),L0=pre++L->listed.size=ops.size->listed'.size=ops.size→
  (∀j,j<ops.size->listed'.getD (yN π j) false=listed.getD j false)->(∀j∈pre,listed.getD j false=true)->(∀j,listed.getD j false=true->j∈pre)→
  anV ops fuel listed L->anV (nY π es ops) fuel listed' (L.map (yN π))/\∀i∈L,i<ops.size:=by
 intro fuel
 induction fuel with
 |zero=>intro listed listed' pre L _ _ _ _ _ _ h;obtain rfl:L=[]:=h;exact⟨rfl,by simp⟩
 |succ fuel ih=>
  intro listed listed' pre L hL0 hs hs' hrel hpre hpre' h
  have hsz:(nY π es ops).size=ops.size:=p.size
  cases L with
  |nil=>
   refine⟨?_,by simp⟩
   show Region.ready .any (nY π es ops) listed'=[]
   rw[List.eq_nil_iff_forall_not_mem]
   intro k hk
   obtain⟨h1,h2,h3⟩:=(TO (by omega) k).1 hk
   obtain⟨i,hi1,hi2,hi3⟩:=p.back k (by omega)
   have:i∈Region.ready .any ops listed:=by
    refine(TO hs i).2 ⟨hi3, ?_,λo ho e he hb=> ?_⟩
    .rw [<-hrel i hi3,hi2];exact h2
    .have g:=p.get (es:=es) hi3
     rw[hi2,ho]at g
     have hon:=p.after i o ho e he
     have:=h3 _ g ⟨yN π e.on,e.ground⟩ (by
      simp only[LO,List.mem_toArray,aMm,aL1]
      exact .inl ⟨e,by simpa using he,rfl⟩) (by unfold Region.binds at hb⊢;exact hb)
     rw[<-hrel e.on hon];exact this
   rw[show Region.ready .any ops listed=[]from h]at this
   cases this
  |cons i L=>
   obtain⟨h1,h2⟩:=h
   obtain⟨r1,r2,r3⟩:=(TO hs i).1 h1
   have hnot:i∉pre:=λhm=>by rw[hpre i hm]at r2;cases r2
   have hidx:L0.idxOf i=pre.length:=by
    rw[hL0,List.idxOf_append,if_neg hnot];simp
   have ready':yN π i∈Region.ready .any (nY π es ops) listed':=by
    refine(TO (by omega) _).2 ⟨by rw[hsz];exact(p.to i r1).1,by rw[hrel i r1];exact r2,λo' ho' e' he' hb=> ?_⟩
    rw[p.get r1,aL0 r1]at ho'
    simp only[aL2,aNN]at ho'
    subst ho'
    simp only[LO,List.mem_toArray,aMm,aL1]at he'
    rcases he' with⟨e,he,rfl⟩|he'
    .have ho:=aL0 r1
     have he2:e∈ops[i].after:=by simpa using he
     rw[hrel e.on (p.after i _ ho e he2)]
     exact r3 _ ho e he2 (by unfold Region.binds at hb⊢;exact hb)
    .obtain ⟨a,ha,hon⟩:=aEv he'
     obtain⟨q1,q2,q3⟩:=hes _ ha
     simp only at q1 q2 q3
     rw[hon,hrel a q3]
     refine hpre a ?_
     rw[hidx]at q1
     rw[hL0,List.idxOf_append]at q1
     by_cases hm:a∈pre
     .exact hm
     .rw [if_neg hm]at q1
      exfalso
      have hz:(i::L).idxOf a=0:=by omega
      rw[List.idxOf_cons]at hz
      cases hb:(i==a)with
      |true=>exact q2 (by simpa using(beq_iff_eq.1 hb).symm)
      |false=>rw[hb]at hz;simp at hz
   have hlen':listed'.size=ops.size:=hs'
   obtain⟨k1,k2⟩:=ih (listed.setIfInBounds i true) (listed'.setIfInBounds (yN π i) true) (pre++[i]) L (by rw[hL0];simp) (by simp[hs]) (by simp[hs'])
    (λj hj=>by
     by_cases hji:j=i
     .subst hji
      rw[aLI,aLI,aMe (by rw[hs'];exact(p.to j hj).1),aMe (by omega)]
     .have hne:yN π i≠yN π j:=λe=>by
       have a1:=(p.to i r1).2
       have a2:=(p.to j hj).2
       rw[e]at a1
       rw[a1]at a2
       exact hji (aLS a2).symm
      have:=hrel j hj
      rw[aLI,aLI]at this⊢
      rw[aMr hne,aMr (λe=>hji e.symm)]
      exact this)
    (λj hj=>by
     rw[aLI]
     rcases aMm.1 hj with hj|hj
     .by_cases hji:j=i
      .subst hji;rw[aMe (by omega)]<;>rfl
      .rw [aMr (λe=>hji e.symm),<-aLI];exact hpre j hj
     .have:j=i:=by simpa using hj
      subst this
      rw[aMe (by omega)]<;>rfl)
    (λj hj=>by
     by_cases hji:j=i
     .subst hji;simp
     .rw [aLI,aMr (λe=>hji e.symm),<-aLI]at hj
      exact aNo _ (hpre' j hj))
    h2
   exact⟨⟨ready',k1⟩,λj hj=>(aL9.1 hj).elim (λe=>e▸r1) (k2 j)⟩
end
section
variable{P:Program}{ops:Array Oper}
theorem acC{N:Nat}{an:Ann}{pl:arM}(hok:ahA ops an=true)(hpl:aiQ ops.size an pl=true)(hd:VM N ops)(hca:W9 P ops)
 {K:Env->aOi->Prop} {Q:Act->aOi->Prop} (hQ:∀g a w,Q7 N g a->K g w->Q a w) {g:Env} {a:Act} {w:aOi} (hr:Q7 N g a)
 (h:rF P ops ops.toList pl [] g w K):ajQ P ops Q ops.size (Array.replicate ops.size false) a w:=by
 have r0:Run P ops an g w 0 (λ_=>default) (λ_=>g) (λ_=>w) (λ_=>undef):=
  ⟨rfl,rfl,λi hi=>by omega,λi hi=>by omega,λi hi=>by omega,λi hi=>by omega,λi j _ hj=>by omega⟩
 obtain⟨O,G,W,V,r,hk⟩:=avA hpl ops.toList 0 [] _ _ _ _ (λj=>by simp) (by simp) r0 (λi hi=>by omega) h
 simp only[aLE,aNq]at r hk
 have st:=aCC hok r.op
 have:=aDK (Q:=Q) (n:=ops.size) rfl hd hca r st (λa hra=>hQ _ a _ hra hk) ops.size (Array.replicate ops.size false) g a 0 (by simp) hr (by omega)
  (λj hj hl=>by unfold jV at hl;simp[aLI,hj]at hl)
  (λs=> .inr ⟨λj hj hl=>by unfold jV at hl;simp[aLI,hj]at hl,rfl⟩)
  (λh hh _=>⟨λhl=>by unfold jV at hl;simp[aLI,hh]at hl,λhl=>by omega⟩)
  (aMq (List.length_filter_le _ _) (by simp))
 rw[r.w0]at this
 exact this
theorem Zl{N:Nat}{ops:Array Oper}(h:ops.all (aAw N)=true):VM N ops:=by
 intro i o ho t ht
 have:=aMW.1 h o (aOa ho)
 unfold aAw at this
 rw[ht]at this
 exact(aNH (x:=t) (y:=N))▸this
theorem agB{ops:Array Oper}(h:ops.all (CH P)=true):W9 P ops:=
 λ_ o ho=>aMW.1 h o (aOa ho)
theorem azP{N:Nat}{f:FuncId}{id:Nat}(hd:VM N ops)(hca:W9 P ops)
 {K:Env->aOi->Prop} {Q:Act->aOi->Prop} (hQ:∀g a w,Q7 N g a->K g w->Q a w) {g:Env} {a:Act} {w0 w:aOi} (hr:Q7 N g a):
 ∀(T:HT) (path:List (Nat×Nat)),WS P N ops path T=true→
  (∀q∈path,(Region.schedule true ops (w0.tape w0.drawn (.order f id))).idxOf q.1<=(Region.schedule true ops (w0.tape w0.drawn (.order f id))).idxOf q.2/\q.1≠q.2)→
  asK P f id ops T g w0 w K->Fq P ops Q (Region.schedule true ops (w0.tape w0.drawn (.order f id))) a w:=by
 have lin:anV ops ops.size (Array.replicate ops.size false) (Region.schedule true ops (w0.tape w0.drawn (.order f id))):=by
  unfold Region.schedule
  simp only[Bool.true_or,if_true]
  exact aGi _ _ _
 generalize hL:Region.schedule true ops (w0.tape w0.drawn (.order f id))=L at lin⊢
 intro T
 induction T with
 |leaf an pl=>
  intro path hok _ h
  simp only[WS,aLM]at hok
  exact Y9 _ _ _ _ _ (acC hok.1 hok.2 hd hca hQ hr h) lin
 |perm π es an pl=>
  intro path hok hpath h
  simp only[WS,aLM]at hok
  obtain⟨⟨⟨⟨⟨h1,h2⟩,h3⟩,h4⟩,h5⟩,h6⟩:=hok
  have p:=aGA h2
  have hes:∀q∈es,L.idxOf q.1<=L.idxOf q.2/\q.1≠q.2/\q.1<ops.size:=λq hq=>by
   have:=aMj.1 h1 q hq
   simp only[aLM]at this
   have hp:=hpath q (aEc this.1)
   exact⟨hp.1,hp.2,(aNH (x:=q.1) (y:=ops.size))▸this.2⟩
  obtain⟨k1,k2⟩:=aB1 (es:=es) p hes ops.size (Array.replicate ops.size false) (Array.replicate ops.size false) [] L rfl (by simp) (by simp)
   (λj hj=>by simp[aLI,hj,(p.to j hj).1]) (by simp)
   (λj hj=>by rw[aLI]at hj;by_cases hh:j<ops.size<;>simp[hh]at hj) lin
  have hw:=acC h5 h6 (Zl h3) (agB h4) hQ hr h
  rw[p.size]at hw
  exact azY (es:=es) p L k2 a w (Y9 _ _ _ _ _ hw k1)
 |split x y A B ihA ihB=>
  intro path hok hpath h
  simp only[WS,aLM]at hok
  have hne:x≠y:=by
   intro e
   have:=hok.1.1
   rw[e]at this
   simp at this
  simp only[asK]at h
  unfold Ord apU at h
  rw[hL]at h
  cases hb:Nat.ble (L.idxOf x) (L.idxOf y)with
  |true=>
   rw[hb]at h
   refine ihA _ hok.1.2 (λq hq=> ?_) h
   rcases aL9.1 hq with rfl|hq
   .exact ⟨aNm hb,hne⟩
   .exact hpath q hq
  |false=>
   rw[hb]at h
   refine ihB _ hok.2 (λq hq=> ?_) h
   rcases aL9.1 hq with rfl|hq
   .refine ⟨?_,hne.symm⟩
    simp only
    rcases aLH (L.idxOf y) (L.idxOf x)with hh|hh
    .omega
    .have:=Nat.ble_eq_true_of_le hh;rw[this]at hb;cases hb
   .exact hpath q hq
end
section
variable{P:Program}{ann:FA}
def mG:List Oper->List Nat
 |[]=>[]
 |o::r=>match o.dst with|some d=>d::mG r|none=>mG r
def T9:Code->List Nat
 | .region _ ops _=>mG ops.toList
 | .seq x y=>T9 x++T9 y
 | .cond _ x y=>T9 x++T9 y
 | .block _ c=>T9 c
 | .scope c=>T9 c
 | .loop c=>T9 c
 | .rangeFunc .. =>[DS]
 |_=>[]
def jP(l:List Nat)(g g':Env):Prop:=∀s,s∉l->g' s=g s
theorem jP.refl (l:List Nat)(g:Env):jP l g g:=λ_ _=>rfl
theorem jP.trans {l l1 l2:List Nat}{a b c:Env}(h:jP l1 a b)(k:jP l2 b c)(h1:∀s,s∈l1->s∈l)(h2:∀s,s∈l2->s∈l):jP l a c:=
 λs hs=>(k s λh=>hs (h2 s h)).trans (h s λh=>hs (h1 s h))
theorem jP.mono {l l1:List Nat}{a b:Env}(h:jP l1 a b)(h1:∀s,s∈l1->s∈l):jP l a b:=λs hs=>h s λhh=>hs (h1 s hh)
theorem jP.put {l:List Nat}{a:Env}(d:Option Tmp)(v:aOj)(h:∀t,d=some t->t∈l):jP l a (put a d v):=by
 intro s hs
 cases d with
 |none=>rfl
 |some t=>
  rw[Ni,if_neg (λe=>hs (by rw[e];exact h t rfl))]
theorem axE{ops:Array Oper}{K:Env->aOi->Prop}:∀(l:List Oper) (g:Env) (w:aOi),agZ P ops l g w K→
 ∃g' w',K g' w'/\jP (mG l) g g'/\∀K':Env->aOi->Prop,K' g' w'->agZ P ops l g w K':=by
 intro l
 induction l with
 |nil=>intro g w h;exact⟨g,w,h,jP.refl _ _,λ_ h=>h⟩
 |cons o l ih=>
  intro g w h
  obtain⟨v,w1,hy,h1⟩:=OR h
  obtain⟨g',w',hk,ha,hall⟩:=ih _ _ h1
  refine⟨g',w',hk, ?_,λK' hk'=>hy _ (hall K' hk')⟩
  refine jP.trans (jP.put o.dst v (l:=mG (o::l)) λt ht=>by simp[mG,ht]) ha (λ_ h=>h) (λs hs=> ?_)
  unfold mG
  split
  .exact aLJ _ hs
  .exact hs
theorem acB{ops:Array Oper}{K:Env->aOi->Prop}:∀(l:List Oper) (pl:arM) (hist:List Rec) (g:Env) (w:aOi),rF P ops l pl hist g w K→
 ∃g' w',K g' w'/\jP (mG l) g g'/\∀K':Env->aOi->Prop,K' g' w'->rF P ops l pl hist g w K':=by
 intro l
 induction l with
 |nil=>intro pl hist g w h;unfold rF at h;exact⟨g,w,h,jP.refl _ _,λ_ h=>(by unfold rF;exact h)⟩
 |cons o l ih=>
  intro pl hist g w h
  cases pl with
  |nil=>exact h.elim
  |cons p pl=>
   obtain⟨hv,ks⟩:=p
   obtain⟨v,w1,hy,h1⟩:=OR h
   have tail:∀(w2:aOi) (hist':List Rec),rF P ops l pl hist' (put g o.dst v) w2 K→
       ∃g' w',K g' w'/\jP (mG (o::l)) g g'/\∀K':Env->aOi->Prop,K' g' w'->rF P ops l pl hist' (put g o.dst v) w2 K':=by
    intro w2 hist' c2
    obtain⟨g',w',hk,ha,hall⟩:=ih _ _ _ _ c2
    refine⟨g',w',hk, ?_,hall⟩
    refine jP.trans (jP.put o.dst v (l:=mG (o::l)) λt ht=>by simp[mG,ht]) ha (λ_ h=>h) (λs hs=> ?_)
    unfold mG
    split
    .exact aLJ _ hs
    .exact hs
   cases hv with
   |true=>
    cases ks with
    |nil=>
     obtain⟨g',w',hk,ha,hall⟩:=tail w1 _ h1
     exact⟨g',w',hk,ha,λK' hk'=>hy _ (hall K' hk')⟩
    |cons k ks=>
     obtain⟨hc,h1⟩:=h1
     obtain⟨g',w',hk,ha,hall⟩:=tail w1 _ h1
     exact⟨g',w',hk,ha,λK' hk'=>hy _ ⟨hc,hall K' hk'⟩⟩
   |false=>
    cases ks with
    |nil=>
     obtain⟨rfl,h1⟩:=h1
     obtain⟨g',w',hk,ha,hall⟩:=tail w1 _ h1
     exact⟨g',w',hk,ha,λK' hk'=>hy _ ⟨rfl,hall K' hk'⟩⟩
    |cons k ks=>
     obtain⟨rfl,hc,h1⟩:=h1
     obtain⟨g',w',hk,ha,hall⟩:=tail w1 _ h1
     exact⟨g',w',hk,ha,λK' hk'=>hy _ ⟨rfl,hc,hall K' hk'⟩⟩
theorem Kn{l:List Oper}{s:Nat}:s∈mG l↔∃o∈l,o.dst=some s:=by
 induction l with
 |nil=>simp[mG]
 |cons o l ih=>
  unfold mG
  cases hd:o.dst with
  |none=>simp[ih,hd]
  |some d=>simp[ih,hd,eq_comm]
theorem axH{π:List Nat}{es:List (Nat×Nat)}{l:List Oper}{s:Nat}:∀(r:List Nat),s∈mG (YF π es l r)->s∈mG l:=by
 intro r
 induction r with
 |nil=>intro h;simp[YF,mG]at h
 |cons i r ih=>
  intro h
  simp only[YF]at h
  cases ho:l[i]? with
  |none=>rw[ho]at h;exact ih h
  |some o=>
   rw[ho]at h
   obtain⟨o',h1,h2⟩:=Kn.1 h
   rcases aL9.1 h1 with rfl|h1
   .exact Kn.2 ⟨o,aMi ho,h2⟩
   .exact ih (Kn.2 ⟨o',h1,h2⟩)
theorem aDG{f:FuncId}{id:Nat}{ops:Array Oper}{K:Env->aOi->Prop}{g:Env}{w0:aOi}:∀(T:HT) (w:aOi),asK P f id ops T g w0 w K→
 ∃g' w',K g' w'/\jP (mG ops.toList) g g'/\∀K':Env->aOi->Prop,K' g' w'->asK P f id ops T g w0 w K':=by
 intro T
 induction T with
 |leaf an pl=>intro w h;exact acB _ _ _ _ _ h
 |perm π es an pl=>
  intro w h
  obtain⟨g',w',a,b,c⟩:=acB _ _ _ _ _ h
  exact⟨g',w',a,b.mono (λs hs=>axH π (by simpa[nY]using hs)),c⟩
 |split x y A B ihA ihB=>
  intro w h
  simp only[asK,Ord]at h⊢
  cases hb:apU f id ops x y w0 with
  |true=>rw[hb]at h;exact ihA w h
  |false=>rw[hb]at h;exact ihB w h
theorem aX.head {α:Type}{F:(α->aOi->Prop)->α->aOi->Prop}(hmono:∀X Y g w,(∀g w,X g w->Y g w)->F X g w->F Y g w)
 {g:α} {w:aOi} (h:F (λg' w'=>aX F g' w') g w) (hdet:∃g' w',aX F g' w'/\∀X:α->aOi->Prop,X g' w'->F X g w):aX F g w:=by
 obtain⟨g1,w1,⟨I,⟨n1,h1⟩,hI⟩,hF⟩:=hdet
 refine⟨λn g' w'=>I n g' w'∨(n=n1+1/\g'=g/\w'=w),⟨n1+1,.inr ⟨rfl,rfl,rfl⟩⟩, ?_⟩
 rintro n g' w' (h|⟨rfl,rfl,rfl⟩)
 .exact hmono _ _ _ _ (λ_ _ ⟨m,hm,hh⟩=>⟨m,hm,.inl hh⟩) (hI _ _ _ h)
 .exact hF _ ⟨n1,by omega,.inl h1⟩
theorem aHF{f:FuncId}{gf:Operand}{ps:Array Tmp}{aLn bd:Code}{Q:Exit->Env->aOi->Prop}{g:Env}{w:aOi}(h:RF P f gf ps aLn bd Q g w):
 ∃e g' w',Q e g' w'/\jP [DS] g g'/\∀Q':Exit->Env->aOi->Prop,Q' e g' w'->RF P f gf ps aLn bd Q' g w:=by
 unfold RF at h⊢
 cases hn:noMark (g DS)with
 |false=>rw[hn]at h;exact h.elim
 |true=>
  rw[hn]at h
  simp only at h⊢
  generalize(BF (ev g gf) [JU (w.heap.size+1)]).run P (rfW f (aaL P f) ps aLn bd g w)=r at*
  match r,h with
  | .ok (.enter f2 args) w1,h=>
    obtain⟨v,w3,hret,r,h1,h2,h3⟩:=h
    have ha:jP [DS] g (put g (some DS) (.pointer (some ⟨w.heap.size,0,none⟩))):=jP.put _ _ (λt ht=>by cases ht;simp)
    cases hp:r.pending with
    |none=>
     rw[hp]at h3
     exact⟨.normal,_,_,h3,ha,λQ' h=>⟨v,w3,hret,r,h1,h2,by rw[hp];exact h⟩⟩
    |some c=>
     rw[hp]at h3
     cases c<;>first
      |exact h3.elim
      |exact⟨.ret,_,_,h3,ha,λQ' h=>⟨v,w3,hret,r,h1,h2,by rw[hp];exact h⟩⟩
      |exact⟨.exit _,_,_,h3,ha,λQ' h=>⟨v,w3,hret,r,h1,h2,by rw[hp];exact h⟩⟩
theorem afP:∀(c:Code) (Q:Exit->Env->aOi->Prop) (g:Env) (w:aOi),cP P ann c Q g w→
 ∃e g' w',Q e g' w'/\jP (T9 c) g g'/\∀Q':Exit->Env->aOi->Prop,Q' e g' w'->cP P ann c Q' g w:=by
 intro c
 induction c with
 |skip=>intro Q g w h;exact⟨_,_,_,h,jP.refl _ _,λ_ h=>h⟩
 |region id ops draw=>
  intro Q g w h
  cases draw with
  |false=>
   obtain⟨g',w',a,b,c⟩:=axE _ _ _ h
   exact⟨.normal,g',w',a,b,λQ' h=>c _ h⟩
  |true=>
   obtain⟨g',w',a,b,c⟩:=aDG _ _ h
   exact⟨.normal,g',w',a,b,λQ' h=>c _ h⟩
 |seq x y ihx ihy=>
  intro Q g w h
  obtain⟨e,g1,w1,a,b,c⟩:=ihx _ _ _ h
  cases e with
  |normal=>
   obtain⟨e2,g2,w2,a2,b2,c2⟩:=ihy _ _ _ a
   exact⟨e2,g2,w2,a2,b.trans b2 (λs h=>aNo _ h) (λs h=>aNP _ h),λQ' h=>c _ (c2 _ h)⟩
  |_=>exact⟨_,g1,w1,a,b.mono (λs h=>aNo _ h),λQ' h=>c _ h⟩
 |cond c x y ihx ihy=>
  intro Q g w h
  simp only[cP]at h⊢
  unfold bQ at h⊢
  cases hc:ev g c with
  |bool b=>
   rw[hc]at h
   cases b with
   |true=>
    obtain⟨e,g',w',a,b,c⟩:=ihx _ _ _ h
    exact⟨e,g',w',a,b.mono (λs h=>aNo _ h),c⟩
   |false=>
    obtain⟨e,g',w',a,b,c⟩:=ihy _ _ _ h
    exact⟨e,g',w',a,b.mono (λs h=>aNP _ h),c⟩
  |_=>rw[hc]at h;exact h.elim
 |block id c ih=>
  intro Q g w h
  obtain⟨e,g',w',a,b,c⟩:=ih _ _ _ h
  cases e with
  |exit i=>
   simp only[blk]at a
   cases hb:Nat.beq i id with
   |true=>
    simp only[hb]at a
    refine⟨.normal,g',w',a,b,λQ' h=>c _ ?_⟩
    simp only[blk,hb];exact h
   |false=>
    simp only[hb]at a
    refine⟨.exit i,g',w',a,b,λQ' h=>c _ ?_⟩
    simp only[blk,hb];exact h
  |_=>exact⟨_,g',w',a,b,λQ' h=>c _ h⟩
 |loop c ih=>
  intro Q g w h
  have hmono:∀(Q:Exit->Env->aOi->Prop) (X Y:Env->aOi->Prop) g w,(∀g w,X g w->Y g w)->cP P ann c (Ci X Q) g w->cP P ann c (Ci Y Q) g w:=by
   intro Q X Y g w hxy h
   obtain⟨e,g',w',a,_,k⟩:=ih _ _ _ h
   refine k _ ?_
   cases e with
   |normal=>exact hxy _ _ a
   |_=>exact a
  obtain⟨I,⟨n,h0⟩,hI⟩:=h
  have key:∀n g w,I n g w->∃e g' w',Q e g' w'/\jP (T9 c) g g'/\∀Q':Exit->Env->aOi->Prop,Q' e g' w'->aX (λX g w=>cP P ann c (Ci X Q') g w) g w:=by
   intro n
   induction n using Nat.strongRecOn with
   |_ n ih2=>
    intro g w hg
    obtain⟨e,g1,w1,a,b,k⟩:=ih _ _ _ (hI n g w hg)
    have once:∀(Q':Exit->Env->aOi->Prop),(∀X:Env->aOi->Prop,cP P ann c (Ci X Q') g w)->aX (λX g w=>cP P ann c (Ci X Q') g w) g w:=by
     intro Q' h
     refine⟨λn g' w'=>g'=g/\w'=w,⟨0,rfl,rfl⟩, ?_⟩
     rintro _ g' w' ⟨rfl,rfl⟩
     exact h _
    cases e with
    |normal=>
     obtain⟨m,hm,hIm⟩:=a
     obtain⟨e2,g2,w2,a2,b2,k2⟩:=ih2 m hm g1 w1 hIm
     refine⟨e2,g2,w2,a2,b.trans b2 (λ_ h=>h) (λ_ h=>h),λQ' h=> ?_⟩
     have hl:=k2 Q' h
     exact aX.head (hmono Q') (k _ hl) ⟨g1,w1,hl,λX hx=>k _ hx⟩
    |_=>exact⟨_,g1,w1,a,b,λQ' h=>once Q' λX=>k _ h⟩
  exact key n g w h0
 |exit id=>intro Q g w h;exact⟨_,_,_,h,jP.refl _ _,λ_ h=>h⟩
 |label l=>intro Q g w h;exact⟨_,_,_,h,jP.refl _ _,λ_ h=>h⟩
 |scope c ih=>intro Q g w h;exact ih Q g w h
 |ret=>intro Q g w h;exact⟨_,_,_,h,jP.refl _ _,λ_ h=>h⟩
 |rangeFunc gf ps aLn bd=>intro Q g w h;exact aHF h
 |_=>intro Q g w h;exact h.elim
theorem Gb{c:Code}{Q Q':Exit->Env->aOi->Prop}{g:Env}{w:aOi}(h:cP P ann c Q g w)
 (hq:∀e g' w',jP (T9 c) g g'->Q e g' w'->Q' e g' w'):cP P ann c Q' g w:=
 let⟨_,_,_,a,b,k⟩:=afP c Q g w h
 k _ (hq _ _ _ b a)
def noG(Q:Exit->Env->aOi->Prop):Exit->Env->aOi->Prop
 | .goto _,_,_=>False
 |e,g,w=>Q e g w
theorem axF:∀(c:Code) (Q:Exit->Env->aOi->Prop) (g:Env) (w:aOi),cP P ann c Q g w->cP P ann c (noG Q) g w:=by
 intro c
 induction c with
 |skip=>intro Q g w h;exact h
 |region id ops draw=>intro Q g w h;cases draw<;>exact h
 |seq x y ihx ihy=>
  intro Q g w h
  show cP P ann x (Ci (λg w=>cP P ann y (noG Q) g w) (noG Q)) g w
  refine Gb (ihx _ _ _ h) (λe g' w' _ hq=> ?_)
  cases e with
  |normal=>exact ihy _ _ _ hq
  |goto l=>exact hq.elim
  |_=>exact hq
 |cond c x y ihx ihy=>
  intro Q g w h
  simp only[cP]at h⊢
  unfold bQ at h⊢
  cases hc:ev g c with
  |bool b=>
   rw[hc]at h
   cases b with
   |true=>exact ihx _ _ _ h
   |false=>exact ihy _ _ _ h
  |_=>rw[hc]at h;exact h.elim
 |block id c ih=>
  intro Q g w h
  show cP P ann c (blk id (noG Q)) g w
  refine Gb (ih _ _ _ h) (λe g' w' _ hq=> ?_)
  cases e with
  |exit i=>
   simp only[noG,blk]at hq⊢
   cases hb:Nat.beq i id with
   |true=>rw[hb]at hq;exact hq
   |false=>rw[hb]at hq;exact hq
  |goto l=>exact hq.elim
  |_=>exact hq
 |loop c ih=>
  intro Q g w h
  obtain⟨I,h0,hI⟩:=h
  refine⟨I,h0,λn g w hi=> ?_⟩
  refine Gb (ih _ _ _ (hI n g w hi)) (λe g' w' _ hq=> ?_)
  cases e with
  |normal=>exact hq
  |goto l=>exact hq.elim
  |_=>exact hq
 |exit id=>intro Q g w h;exact h
 |label l=>intro Q g w h;exact h
 |scope c ih=>intro Q g w h;exact ih Q g w h
 |ret=>intro Q g w h;exact h
 |rangeFunc gf ps aLn bd=>
  intro Q g w h
  have h:RF P ann.f gf ps aLn bd Q g w:=h
  show RF P ann.f gf ps aLn bd (noG Q) g w
  unfold RF at h⊢
  cases hn:noMark (g DS)with
  |false=>rw[hn]at h;exact h.elim
  |true=>
   rw[hn]at h
   simp only at h⊢
   generalize(BF (ev g gf) [JU (w.heap.size+1)]).run P (rfW ann.f (aaL P ann.f) ps aLn bd g w)=r at*
   match r,h with
   | .ok (.enter f2 args) w1,h=>
     obtain⟨v,w3,hret,r,h1,h2,h3⟩:=h
     refine⟨v,w3,hret,r,h1,h2, ?_⟩
     cases hp:r.pending with
     |none=>rw[hp]at h3;exact h3
     |some c=>rw[hp]at h3;cases c<;>exact h3
 |_=>intro Q g w h;exact h.elim
theorem ajM{N:Nat}{g:Env}{a:Act}(h:Q7 N g a):a.tmps=tmpsOf N g:=by
 refine Array.ext (by simp[tmpsOf,h.size]) λi h1 h2=> ?_
 have hi:i<N:=by rw[<-h.size];exact h1
 have:=h.at_ i (Nat.ne_of_lt (aNn hi h.le))
 rw[aLI,aL0 h1]at this
 simp[tmpsOf]at this⊢
 exact this
theorem aDJ{v:aOj}(h:noMark v=true):asL v=[]:=by cases v<;>first|rfl|cases h
theorem ZL{N:Nat}(hm:P.follows .mixedOrders=true){ro:Option Nat}(hN:aaL P ann.f=N):∀(c:Code),codeOk P N ann c=true->ro=none∨sJ c=true→
 ∀(Q:Exit->Env->aOi->Prop) (QA:Exit->Act->aOi->Prop) (g:Env) (a:Act) (w:aOi),Q7 N g a→
  (∀e g a w,Q7 N g a->Q e g w->QA e a w)->cP P ann c Q g w->wpF P ann.f ro c QA a w:=by
 intro c
 induction c with
 |skip=>intro _ _ Q QA g a w hr hq h;exact aFi (hq _ _ _ _ hr h)
 |region id ops draw=>
  intro hok _ Q QA g a w hr hq h
  simp only[codeOk,aLM,aM4,aNe]at hok
  have hd:=Zl hok.1.1
  have hca:=agB hok.1.2
  cases draw with
  |false=>
   refine azW ?_
   have:=aB7 hd hca (P:=P) (Q:=QA .normal) (K:=Q .normal) (λg a w=>hq .normal g a w) ops.toList 0 g a w (λj=>by simp) hr h
   rw[List.range_eq_range']
   simpa using this
  |true=>
   rcases hok.2 with h1|h1
   .cases h1
   .exact afK hm (azP hd hca (λg a w=>hq .normal g a w) hr _ [] h1 (by simp) h)
 |seq x y ihx ihy=>
  intro hok hfl Q QA g a w hr hq h
  simp only[codeOk,aLM]at hok
  have hfx:ro=none∨sJ x=true:=hfl.imp id λh=>by simp only[sJ,aLM]at h;exact h.1
  have hfy:ro=none∨sJ y=true:=hfl.imp id λh=>by simp only[sJ,aLM]at h;exact h.2
  refine aGY (ihx hok.1 hfx _ _ g a w hr (λe g a w hr h=> ?_) h)
  cases e with
  |normal=>exact ihy hok.2 hfy _ _ g a w hr hq h
  |_=>exact hq _ _ _ _ hr h
 |cond c x y ihx ihy=>
  intro hok hfl Q QA g a w hr hq h
  simp only[codeOk,aLM]at hok
  have hfx:ro=none∨sJ x=true:=hfl.imp id λh=>by simp only[sJ,aLM]at h;exact h.1
  have hfy:ro=none∨sJ y=true:=hfl.imp id λh=>by simp only[sJ,aLM]at h;exact h.2
  simp only[cP]at h
  unfold bQ at h
  have he:=hr.ev c hok.1
  cases hc:ev g c with
  |bool b=>
   rw[hc]at h he
   refine aFg he ?_
   cases b with
   |true=>exact ihx hok.2.1 hfx _ _ g a w hr hq h
   |false=>exact ihy hok.2.2 hfy _ _ g a w hr hq h
  |_=>rw[hc]at h;exact h.elim
 |block id c ih=>
  intro hok hfl Q QA g a w hr hq h
  refine aCL (ih hok hfl _ _ g a w hr (λe g a w hr h=> ?_) h)
  cases e with
  |exit i=>
   unfold Exit.inBlock
   simp only[blk]at h
   by_cases hi:i=id
   .subst hi
    simp only[if_true]
    simp only[Nat.beq_refl]at h
    exact hq _ _ _ _ hr h
   .simp only[hi,if_false]
    have:Nat.beq i id=false:=by
     cases hb:Nat.beq i id
     .rfl
     .exact absurd (aMf hb) hi
    simp only[this]at h
    exact hq _ _ _ _ hr h
  |_=>exact hq _ _ _ _ hr h
 |loop c ih=>
  intro hok hfl Q QA g a w hr hq h
  obtain⟨I,h0,hround⟩:=h
  have hex:∀a w,(∃n g,Q7 N g a/\I n g w)->∃n,(∃g,Q7 N g a/\I n g w)/\∀m,(∃g,Q7 N g a/\I m g w)->n<=m:=by
   rintro a w ⟨n,hn⟩
   induction n using Nat.strongRecOn with
   |_ n ih2=>
    by_cases hx:∃m,m<n/\∃g,Q7 N g a/\I m g w
    .obtain ⟨m,hm,h⟩:=hx;exact ih2 m hm h
    .exact ⟨n,hn,λm hm=>Nat.le_of_not_lt λhlt=>hx ⟨m,hlt,hm⟩⟩
  have hdec:∀a w,Decidable (∃n g,Q7 N g a/\I n g w):=λa w=>Classical.propDecidable _
  let μ:Act->aOi->Nat:=λa w=>if hh:∃n g,Q7 N g a/\I n g w then Classical.choose (hex a w hh)else 0
  have hμ:∀a w n g,Q7 N g a->I n g w->μ a w<=n/\∃g,Q7 N g a/\I (μ a w) g w:=by
   intro a w n g hr hI
   have hh:∃n g,Q7 N g a/\I n g w:=⟨n,g,hr,hI⟩
   have e:μ a w=Classical.choose (hex a w hh):=dif_pos hh
   have s:=Classical.choose_spec (hex a w hh)
   rw[e]
   exact⟨s.2 n ⟨g,hr,hI⟩,s.1⟩
  obtain⟨n0,h0⟩:=h0
  refine aFh (λa w=>∃n g,Q7 N g a/\I n g w) μ ⟨n0,g,hr,h0⟩ ?_
  rintro a w ⟨n,g,hr,hI⟩
  obtain⟨_,g',hr',hI'⟩:=hμ a w n g hr hI
  refine ih hok hfl _ _ g' a w hr' (λe g1 a1 w1 hr1 h=> ?_) (hround _ _ _ hI')
  cases e with
  |normal=>
   obtain⟨m,hm,hIm⟩:=h
   have:=hμ a1 w1 m g1 hr1 hIm
   exact⟨⟨m,g1,hr1,hIm⟩,by omega⟩
  |_=>exact hq _ _ _ _ hr1 h
 |label l=>intro _ _ Q QA g a w hr hq h;exact aCM (hq _ _ _ _ hr h)
 |scope c ih=>
  intro hok hfl Q QA g a w hr hq h
  refine aCO (ih hok hfl (noG Q) _ g a w hr (λe g a w hr h=> ?_) (axF c _ g w h))
  cases e with
  |goto l=>exact h.elim
  |_=>exact hq _ _ _ _ hr h
 |exit id=>intro _ _ Q QA g a w hr hq h;exact awD (hq _ _ _ _ hr h)
 |ret=>intro _ _ Q QA g a w hr hq h;exact aBd (hq _ _ _ _ hr h)
 |rangeFunc gf ps aLn bd=>
  intro hok hfl Q QA g a w hr hq h
  have hro:ro=none:=hfl.resolve_right (by simp[sJ])
  subst hro
  have hok:anC gf=true:=hok
  have h:RF P ann.f gf ps aLn bd Q g w:=h
  unfold RF at h
  cases hn:noMark (g DS)with
  |false=>rw[hn]at h;exact h.elim
  |true=>
   rw[hn]at h
   simp only[hN]at h
   have ed:a.defers=[]:=by rw[hr.defers,aDJ hn]
   have er:=run_enterLoop_outer (P:=P) (w:=w) ann.f a.tmps ps aLn bd
   rw[ajM hr]at er
   have er:(Instr.enterLoop ann.f a.tmps ps aLn bd none).run P w= .ok (w.heap.size+1,[{target:= .collected w.heap.size,args:= #[]}]) (rfW ann.f N ps aLn bd g w):=by rw[ajM hr];exact er
   generalize rfW ann.f N ps aLn bd g w=w1 at*
   have ee:=hr.ev gf hok
   unfold BF at h
   have hres:resolve a.eval (rangeCall gf (w.heap.size+1)) 0=Deferred.ofValue (ev g gf) #[JU (w.heap.size+1)]:=by
    have:resolve a.eval (rangeCall gf (w.heap.size+1)) 0=Deferred.ofValue (a.eval gf) #[JU (w.heap.size+1)]:=by
     simp only[resolve,List.map_toArray,aL3,aNZ];rfl
    rw[this,ee]
   rw[show([JU (w.heap.size+1)]:List aOj).toArray= #[JU (w.heap.size+1)]from rfl,<-hres,Sem.run_bind]at h
   cases hv:(resolve a.eval (rangeCall gf (w.heap.size+1)) 0).run P w1 with
   |halt x wx=>rw[hv]at h;exact h.elim
   |ok d wx=>
    have hwx:wx=w1:=by
     rw[hres]at hv
     unfold Deferred.ofValue at hv
     split at hv<;>first|(simp only[Sem.run_pure]at hv;cases hv;rfl)|(simp[stuck]at hv)
    subst hwx
    rw[hv]at h
    simp only[Result.andThen]at h
    cases hi:(invoke d.target d.args).run P wx with
    |halt x w2=>rw[hi]at h;exact h.elim
    |ok nx w2=>
     rw[hi]at h
     cases nx<;>try(exact h.elim)
     obtain⟨v,w3,hret,r,h1,h2,h3⟩:=h
     have hrel:∀w,Q7 N (put g (some DS) (.pointer (some ⟨w,0,none⟩))) {a with defers:=[{target:= .collected w,args:= #[]}]++a.defers}:=λw=>by
      refine⟨hr.le, ?_,hr.size,λi hi=> ?_⟩
      .rw [Ni,if_pos rfl,ed]<;>rfl
      .rw [Ni,if_neg hi];exact hr.at_ i hi
     have key:∀(j:Option Code) (w5:aOi),aHU Q (put g (some DS) (.pointer (some ⟨w.heap.size,0,none⟩))) j w5→
         aHh P ann.f QA {a with defers:=[{target:= .collected w.heap.size,args:= #[]}]++a.defers} w5 j:=by
      intro j w5 h
      cases j with
      |none=>exact hq _ _ _ _ (hrel _) h
      |some c=>
       cases c<;>first
        |exact h.elim
        |exact aBd (hq _ _ _ _ (hrel _) h)
        |exact awD (hq _ _ _ _ (hrel _) h)
     exact aCN er hv hi hret (run_endLoop h1 h2) (key _ _ h3)
 |_=>intro hok;simp[codeOk]at hok
def qC(P:Program):List ResultVar->Env->aOi->(List aOj->Prop)->Prop
 |[],_,_,K=>K []
 | .tmp t::r,g,w,K=>qC P r g w λvs=>K (g t::vs)
 | .cell a t::r,g,w,K=>∃v,(do loadVar t (<-asAddr (g a)):Sem aOj).run P w= .ok v w/\qC P r g w λvs=>K (v::vs)
def tup:List aOj->aOj
 |[v]=>v
 |vs=> .tuple vs.toArray
def aJR(P:Program)(rs:List ResultVar)(R:aOj->aOi->Prop):Exit->Env->aOi->Prop
 | .normal,g,w=>qC P rs g w λvs=>R (tup vs) w
 | .ret,g,w=>qC P rs g w λvs=>R (tup vs) w
 |_,_,_=>False
theorem auW{N:Nat}{g:Env}{a:Act}{w:aOi}(hr:Q7 N g a):∀(rs:List ResultVar),rs.all anG=true->∀(K:List aOj->Prop),qC P rs g w K→
 ∃vs,K vs/\(rs.mapM λ| .tmp t=>pure (a.tmps.getD t undef)| .cell b t=>do loadVar t (<-asAddr (a.tmps.getD b undef)):Sem (List aOj)).run P w= .ok vs w:=by
 have ne:∀t:Nat,Nat.blt t DS=true->a.tmps.getD t undef=g t:=λt h=>hr.at_ t (Nat.ne_of_lt ((aNH (x:=t) (y:=DS))▸h))
 intro rs
 induction rs with
 |nil=>intro _ K h;exact⟨[],h,by simp⟩
 |cons r rs ih=>
  intro hok K h
  simp only[List.all_cons,aLM]at hok
  cases r with
  |tmp t=>
   obtain⟨vs,h1,h2⟩:=ih hok.2 _ h
   refine⟨_,h1, ?_⟩
   rw[List.mapM_cons]
   rw[pure_bind,Sem.run_bind]
   simp only[h2,Result.andThen,Sem.run_pure,ne t hok.1]
  |cell b t=>
   obtain⟨v,hv,h⟩:=h
   obtain⟨vs,h1,h2⟩:=ih hok.2 _ h
   refine⟨_,h1, ?_⟩
   rw[List.mapM_cons]
   rw[<-ne b hok.1]at hv
   rw[Sem.run_bind]
   simp only[hv,Result.andThen]
   rw[Sem.run_bind]
   simp only[h2,Result.andThen]
   rfl
theorem aIL(vs:Array aOj):(if h:vs.size=1 then vs[0]else Value.tuple vs)=tup vs.toList:=by
 obtain⟨l⟩:=vs
 match l with
 |[]=>rfl
 |[v]=>rfl
 |a::b::r=>simp[tup]
theorem avB{N:Nat}{g:Env}{a:Act}{w:aOi}(fn:Func){rs:List ResultVar}(hok:rs.all anG=true)(hrs:fn.results=rs.toArray)(hr:Q7 N g a){R:aOj->aOi->Prop}
 (h:qC P rs g w λvs=>R (tup vs) w):∃v,(results fn a.tmps).run P w= .ok v w/\R v w:=by
 obtain⟨vs,h1,h2⟩:=auW hr rs hok _ h
 refine⟨tup vs, ?_,h1⟩
 unfold results
 rw[hrs,Array.mapM_eq_mapM_toList,aMR]
 simp only[bind_assoc,map_eq_pure_bind]
 rw[Sem.run_bind]
 refine Eq.trans (congrArg (λr=>Result.andThen r _) h2) ?_
 simp only[Result.andThen]
 simp only[pure_bind,Sem.run_pure,aIL]
def acD(args:List aOj):Env:=λi=>args.getD i undef
def aIA(P:Program)(rs:List ResultVar)(R:aOj->aOi->Prop):Exit->Env->aOi->Prop
 | .normal,g,w=>Ec (g DS) w λw=>qC P rs g w λvs=>R (tup vs) w
 | .ret,g,w=>Ec (g DS) w λw=>qC P rs g w λvs=>R (tup vs) w
 |_,_,_=>False
theorem auV{g:Env}{w:aOi}:∀(rs:List ResultVar) (K:List aOj->Prop),qC P rs g w K->∃vs,K vs/\∀K':List aOj->Prop,K' vs->qC P rs g w K':=by
 intro rs
 induction rs with
 |nil=>intro K h;exact⟨_,h,λ_ h=>h⟩
 |cons r rs ih=>
  intro K h
  cases r with
  |tmp t=>
   obtain⟨vs,a,b⟩:=ih _ h
   exact⟨_,a,λK' h=>b _ h⟩
  |cell b t=>
   obtain⟨v,hv,h⟩:=h
   obtain⟨vs,a,b⟩:=ih _ h
   exact⟨_,a,λK' h=>⟨v,hv,b _ h⟩⟩
theorem anL{v:aOj}{w:aOi}{K:aOi->Prop}(h:Ec v w K):∃w',K w'/\∀K':aOi->Prop,K' w'->Ec v w K':=by
 cases v with
 |pointer p=>
  cases p with
  |none=>exact⟨_,h,λ_ h=>h⟩
  |some a=>exact⟨_,h.2,λ_ h'=>⟨h.1,h'⟩⟩
 |_=>exact⟨_,h,λ_ h=>h⟩
theorem azL{v:aOj}{w:aOi}{K K':aOi->Prop}(h:Ec v w K)(hk:∀w,K w->K' w):Ec v w K':=
 let⟨w',a,b⟩:=anL h;b _ (hk w' a)
theorem asP{args:List aOj}{N i:Nat}(hle:args.length<=N)(hi:N<=i):acD args i=undef:=by
 unfold acD
 rw[aLv,aLD (by omega)]<;>rfl
theorem XC{f:FuncId}{fn:Func}{c:Code}{args:List aOj}{w:aOi}{rs:List ResultVar}{R:aOj->aOi->Prop}(hm:P.follows .mixedOrders=true)(hAf:ann.f=f)
 (hf:P.funcs[f]?=some fn) (hb:fn.body=some c) (hrs:fn.results=rs.toArray) {N:Nat} (hN:fn.ntmps=N) (hle:args.length<=N)
 (hok:codeOk P N ann c=true) (hro:rs.all anG=true) (hND:Nat.ble N DS=true) (h:cP P ann c (aIA P rs R) (acD args) w):aK P f args.toArray w R:=by
 obtain⟨e,g',w',hq,_,hall⟩:=afP _ _ _ _ h
 have hND:=aNm hND
 have hNt:aaL P ann.f=N:=by unfold aaL;rw[hAf,hf];exact hN
 have hrv:Ec (g' DS) w' λw=>qC P rs g' w λvs=>R (tup vs) w:=by cases e<;>first|exact hq|exact hq.elim
 obtain⟨w2,hrv2,hsh⟩:=anL hrv
 obtain⟨vs,hv,hrest⟩:=auV _ _ hrv2
 refine⟨tup vs,w2, ?_,hv⟩
 have hrel:Q7 N (acD args) {tmps:=args.toArray++Array.replicate (fn.ntmps-args.toArray.size) undef,defers:=[]}:=by
  refine⟨hND,by rw[asP hle hND]<;>rfl,by simp[hN];omega,λi _=> ?_⟩
  simp only[acD,aLI,aLv]
  by_cases hi:i<args.length
  .simp [Array.getElem?_append,hi]
  .simp only[Array.getElem?_append,List.size_toArray,hi,if_false,Array.getElem?_replicate]
   rw[aLD (by omega)]
   split<;>rfl
 have key:=aoA (P:=P) (f:=f) hf hb (R:=λv3 w3=>v3=tup vs/\w3=w2) (args:=args.toArray) (w:=w)
  (hAf▸ZL hm hNt c hok (.inl rfl) (aIA P rs λv3 w3=>v3=tup vs/\w3=w2) _ _ _ _ hrel (λe g a w hr h=> ?_) (hall _ ?_))
 .refine Calls.mono key ?_
  rintro e w3 ⟨v,rfl,rfl,rfl⟩
  exact⟨rfl,rfl⟩
 .have hx:∀{w},(Ec (g DS) w λw=>qC P rs g w λvs'=>tup vs'=tup vs/\w=w2)->∃m,a.defers=asL m/\Ec m w λw'=>∃v,(results fn a.tmps).run P w'= .ok v w'/\(v=tup vs/\w'=w2):=by
   intro w h
   exact⟨_,hr.defers,azL h λw h=>avB fn hro hrs hr (R:=λv3 w3=>v3=tup vs/\w3=w2) h⟩
  cases e with
  |normal=>exact hx h
  |ret=>exact hx h
  |_=>exact h.elim
 .have:=hsh (λw=>qC P rs g' w λvs'=>tup vs'=tup vs/\w=w2) (hrest _ ⟨rfl,rfl⟩)
  cases e<;>first|exact this|exact hq.elim
theorem aF6 {N:Nat}:∀(c:Code),codeOk P N ann c=true->sJ c=true->∀s∈T9 c,s<N:=by
 intro c
 induction c with
 |region id ops draw=>
  intro hok _ s hs
  simp only[codeOk,aLM]at hok
  obtain⟨o,h1,h2⟩:=Kn.1 hs
  obtain⟨i,hi,rfl⟩:=aLU h1
  exact Zl hok.1.1 i _ (by simp at hi⊢) s h2
 |seq x y ihx ihy=>
  intro hok hfl s hs
  simp only[codeOk,sJ,aLM]at hok hfl
  rcases aMm.1 hs with hs|hs
  .exact ihx hok.1 hfl.1 s hs
  .exact ihy hok.2 hfl.2 s hs
 |cond c x y ihx ihy=>
  intro hok hfl s hs
  simp only[codeOk,sJ,aLM]at hok hfl
  rcases aMm.1 hs with hs|hs
  .exact ihx hok.2.1 hfl.1 s hs
  .exact ihy hok.2.2 hfl.2 s hs
 |block id c ih=>intro hok hfl s hs;exact ih hok hfl s hs
 |loop c ih=>intro hok hfl s hs;exact ih hok hfl s hs
 |scope c ih=>intro hok hfl s hs;exact ih hok hfl s hs
 |rangeFunc=>intro _ hfl;simp[sJ]at hfl
 |_=>intro _ _ s hs;simp[T9]at hs
theorem asM{f:FuncId}{fn:Func}{c:Code}{args:List aOj}{w:aOi}{rs:List ResultVar}{R:aOj->aOi->Prop}(hm:P.follows .mixedOrders=true)(hAf:ann.f=f)
 (hf:P.funcs[f]?=some fn) (hb:fn.body=some c) (hrs:fn.results=rs.toArray) {N:Nat} (hN:fn.ntmps=N) (hle:args.length<=N)
 (hok:codeOk P N ann c=true) (hro:rs.all anG=true) (hND:Nat.ble N DS=true) (hfl:sJ c=true) (h:cP P ann c (aJR P rs R) (acD args) w):aK P f args.toArray w R:=by
 refine XC hm hAf hf hb hrs hN hle hok hro hND (Gb h λe g' w' ha hq=> ?_)
 have hND:=aNm hND
 have:g' DS=undef:=by
  rw[ha DS (λhd=>absurd (aF6 c hok hfl DS hd) (Nat.not_lt.2 hND)),asP hle hND]
 cases e with
 |normal=>show Ec (g' DS) w' (λw=>qC P rs g' w λvs=>R (tup vs) w);rw[this];exact hq
 |ret=>show Ec (g' DS) w' (λw=>qC P rs g' w λvs=>R (tup vs) w);rw[this];exact hq
 |_=>exact hq.elim
def Qw(tmps:Array aOj):Env:=λi=>tmps.getD i undef
def aqB(l:Nat)(R:aOj->aOi->Prop):Exit->Env->aOi->Prop
 | .normal,_,w=>∃r:Loop,w.heap[l]?=some (.loop r)/\R (.bool true) (w.putObj l (.loop {r with state:= .ready,pending:=none}))
 | .ret,_,w=>∃r:Loop,w.heap[l]?=some (.loop r)/\R (.bool false) (w.putObj l (.loop {r with state:= .done,pending:=some .ret}))
 | .exit i,_,w=>∃r:Loop,w.heap[l]?=some (.loop r)/\R (.bool false) (w.putObj l (.loop {r with state:= .done,pending:=some (.exit i)}))
 |_,_,_=>False
def asQ(P:Program)(ann:FA)(l:Nat)(bd:Code)(R:aOj->aOi->Prop):Exit->Env->aOi->Prop
 | .normal,g,w=>∃r:Loop,w.heap[l]?=some (.loop r)/\r.state= .ready/\cP P ann bd (aqB l R) g (w.putObj l (.loop {r with state:= .busy}))
 |_,_,_=>False
theorem aoM{f:FuncId}{l:Nat}{tmps:Array aOj}{aLn bd:Code}{w:aOi}{R:aOj->aOi->Prop}(hm:P.follows .mixedOrders=true)(hAf:ann.f=f){N:Nat}(hN:aaL P f=N)(hND:Nat.ble N DS=true)
 (hsz:tmps.size=N) (hok1:codeOk P N ann aLn=true) (hf1:sJ aLn=true) (hok2:codeOk P N ann bd=true) (hf2:sJ bd=true)
 (h:cP P ann aLn (asQ P ann l bd R) (Qw tmps) w):alV P l f tmps aLn bd w R:=by
 subst hAf
 have hND:=aNm hND
 obtain⟨e,g1,w1,hq,ha,hall⟩:=afP _ _ _ _ h
 cases e with
 |normal=>
  obtain⟨r,h1,h2,hd⟩:=hq
  obtain⟨e2,g2,w2,hq2,ha2,hall2⟩:=afP _ _ _ _ hd
  have hx:∃v w4,R v w4/\∀R':aOj->aOi->Prop,R' v w4->aqB l R' e2 g2 w2:=by
   cases e2 with
   |normal=>obtain⟨r2,k1,k2⟩:=hq2;exact⟨_,_,k2,λR' h=>⟨r2,k1,h⟩⟩
   |ret=>obtain⟨r2,k1,k2⟩:=hq2;exact⟨_,_,k2,λR' h=>⟨r2,k1,h⟩⟩
   |exit i=>obtain⟨r2,k1,k2⟩:=hq2;exact⟨_,_,k2,λR' h=>⟨r2,k1,h⟩⟩
   |_=>exact hq2.elim
  obtain⟨v,w4,hR,hrest⟩:=hx
  refine⟨v,w4, ?_,hR⟩
  have hrel:Q7 N (Qw tmps) {tmps:=tmps,defers:=[]}:=by
   refine⟨hND, ?_,hsz,λi _=>rfl⟩
   have:Qw tmps DS=undef:=by unfold Qw;rw[aLI,aMC (by omega)]<;>rfl
   rw[this]<;>rfl
  have key:RoundIn Fence.wide 0 P l ann.f tmps aLn bd w λe w'=>∃v',e= .returned v'/\(v'=v/\w'=w4):=by
   refine aqC (ZL hm hN aLn hok1 (.inr hf1) (λe g w=>e= .normal/\g=g1/\w=w1) _ _ _ _ hrel ?_ (hall _ ⟨rfl,rfl,rfl⟩))
   rintro e g a w hra ⟨rfl,rfl,rfl⟩
   refine⟨_,run_beginRound h1 h2,ZL hm hN bd hok2 (.inr hf2) (aqB l λv' w'=>v'=v/\w'=w4) _ _ _ _ hra ?_ (hall2 _ (hrest _ ⟨rfl,rfl⟩))⟩
   intro e g a w _ h
   cases e with
   |normal=>obtain⟨r,k1,k2⟩:=h;exact⟨_,_,run_endRound none k1,k2⟩
   |ret=>obtain⟨r,k1,k2⟩:=h;exact⟨_,_,run_endRound (some .ret) k1,k2⟩
   |exit i=>obtain⟨r,k1,k2⟩:=h;exact⟨_,_,run_endRound (some (.exit i)) k1,k2⟩
   |_=>exact h.elim
  refine RoundIn.mono key ?_
  rintro e w' ⟨v',rfl,rfl,rfl⟩
  exact⟨rfl,rfl⟩
 |_=>exact hq.elim
theorem akK{f:FuncId}{args:Array aOj}{w:aOi}{R:aOj->aOi->Prop}(h:aK P f args w R):
 Calls P f args w λe w'=>∃v,e= .returned v/\R v w':=by
 obtain⟨v,w',hr,hR⟩:=h
 refine Calls.mono hr ?_
 rintro e w'' ⟨rfl,rfl⟩
 exact⟨v,rfl,hR⟩
end
def sA:Code->Code| .seq a _=>a|c=>c
def cT:Code->Code| .cond _ a _=>a|c=>c
def cE:Code->Code| .cond _ _ b=>b|c=>c
def bI:Code->Code| .block _ c=>c| .loop c=>c| .scope c=>c|c=>c
def aY(f:Func):Code:=match f.body with|some c=>c|none=> .skip
def aQ:Nat->Code->Code
 |0,c=>c
 |1,c=>sA c
 |n+1,.seq a b=> .seq a (aQ n b)
 |_,c=>c
def aI:Nat->Code->Code
 |0,c=>c
 |n+1,.seq _ b=>aI n b
 |_,c=>c
def axO:Nat->Code->Bool
 |1,.seq _ _=>true
 |n+1,.seq _ b=>axO n b
 |_,_=>false
def dr(w:aOi):aOi:={w with drawn:=w.drawn+1}
def vU(P:Program)(t:TypeId)(a:aOj)(w:aOi)(K:aOj->Prop):Prop:=∃v,(do loadVar t (<-asAddr a):Sem aOj).run P w= .ok v w/\K v
def exL:List (Nat×(Env->aOi->Prop))->Nat->Env->aOi->Prop
 |[],_,_,_=>False
 |(j,k)::r,i,g,w=>match Nat.beq i j with|true=>k g w|false=>exL r i g w
def exQ(kn kr:Env->aOi->Prop)(l:List (Nat×(Env->aOi->Prop))):Exit->Env->aOi->Prop
 | .normal,g,w=>kn g w
 | .ret,g,w=>kr g w
 | .exit i,g,w=>exL l i g w
 |_,_,_=>False
def arI(Q:Exit->Env->aOi->Prop):List (Nat×(Env->aOi->Prop))->Prop
 |[]=>True
 |(i,k)::r=>(∀g w,k g w->Q (.exit i) g w)/\arI Q r
def cD(c a b:aOj):Sem Next:=do pure (.value (if<-asBool c then a else b))
def bG(t:TypeId):Sem Next:=V (Instr.alloc t true (.tuple #[]))
def A0 (t:TypeId)(x:aOj):Sem Next:=V (Instr.box t x)
def aH(t:TypeId)(a:aOj):Sem Next:=V (Instr.loadAt t a)
def aM(t:TypeId)(a x:aOj):Sem Next:=U (Instr.storeAt t a x)
def dQ(x:aOj):Sem Next:=execOp (λ_=>x) ⟨none,.nilCheck (.tmp 0),0,default,#[],none⟩
def sUn(op:UnOp)(x:aOj):Sem Next:=V (Op.unary op x)
def cH(s d:TypeId)(x:aOj):Sem Next:=V (convert s d x)
def aGJ(t:TypeId)(x:aOj):Sem Next:=V (Instr.arrayAt t x)
def WM(t:TypeId)(x:aOj):Sem Next:=V (Instr.makeInterface t x)
def abC(t:TypeId)(r:Option aOj):Sem Next:=V (Instr.makeMap t r)
def iS(t:TypeId)(l c:aOj):Sem Next:=V (Instr.makeSlice t l c)
def bP(t:TypeId)(x:aOj)(lo hi mx:Option aOj):Sem Next:=V (Instr.sliceAt t x lo hi mx)
def aJ(t:TypeId)(x:aOj)(f:Nat):Sem Next:=V (Instr.fieldAt t x f)
def aO(t:TypeId)(x i:aOj):Sem Next:=V (Instr.indexAt t x i)
def HX(t:TypeId)(x i:aOj):Sem Next:=V (Instr.index t x i)
def avD(t:TypeId)(x i:aOj)(ok:Bool):Sem Next:=V (Instr.lookup t x i ok)
def ajA(t:TypeId)(m k x:aOj):Sem Next:=U (Instr.mapUpdate t m k x)
def aV(t:aOj)(i:Nat):Sem Next:=V (Instr.extract t i)
section
variable{P:Program}{ann:FA}
theorem aHV{Q:Exit->Env->aOi->Prop}:∀{l:List (Nat×(Env->aOi->Prop))},arI Q l->∀{i:Nat} {g:Env} {w:aOi},exL l i g w->Q (.exit i) g w:=by
 intro l
 induction l with
 |nil=>intro _ i g w h;exact h.elim
 |cons p r ih=>
  obtain⟨j,k⟩:=p
  rintro⟨h1,h2⟩ i g w h
  simp only[exL]at h
  cases hb:Nat.beq i j with
  |true=>
   simp only[hb]at h
   obtain rfl:=aMf hb
   exact h1 _ _ h
  |false=>simp only[hb]at h;exact ih h2 h
theorem aF2 {c:Code}{kn kr:Env->aOi->Prop}{l:List (Nat×(Env->aOi->Prop))}{Q:Exit->Env->aOi->Prop}{g:Env}{w:aOi}{A:Prop}
 (e:A=cP P ann c (exQ kn kr l) g w) (h:A) (hn:∀g w,kn g w->Q .normal g w) (hr:∀g w,kr g w->Q .ret g w) (hl:arI Q l):cP P ann c Q g w:=by
 rw[e]at h
 refine Gb h (λe g' w' _ hq=> ?_)
 cases e with
 |normal=>exact hn _ _ hq
 |ret=>exact hr _ _ hq
 |exit i=>exact aHV hl hq
 |_=>exact hq.elim
theorem aBz{x y z:Code}{Q:Exit->Env->aOi->Prop}{g:Env}{w:aOi}(h:cP P ann (.seq (.seq x y) z) Q g w):cP P ann (.seq x (.seq y z)) Q g w:=by
 show cP P ann x (Ci (λg w=>cP P ann y (Ci (λg w=>cP P ann z Q g w) Q) g w) Q) g w
 have h:cP P ann x (Ci (λg w=>cP P ann y (Ci (λg w=>cP P ann z Q g w) Q) g w) (Ci (λg w=>cP P ann z Q g w) Q)) g w:=h
 refine Gb h (λe g' w' _ hq=> ?_)
 cases e<;>exact hq
theorem aE{K:Env->aOi->Prop}{Q:Exit->Env->aOi->Prop}{g:Env}{w:aOi}(h:K g w):Ci K Q .normal g w:=h
theorem aBB{Q:Exit->Env->aOi->Prop}:∀(n:Nat) (c:Code) (g:Env) (w:aOi),axO n c=true->cP P ann (.seq (aQ n c) (aI n c)) Q g w->cP P ann c Q g w:=by
 intro n
 induction n with
 |zero=>intro c g w h;simp[axO]at h
 |succ n ih=>
  intro c g w h hd
  cases c with
  |seq a b=>
   cases n with
   |zero=>exact hd
   |succ n=>
    have hb:axO (n+1) b=true:=by simpa[axO]using h
    have hd':cP P ann (.seq (.seq a (aQ (n+1) b)) (aI (n+1) b)) Q g w:=hd
    have:=aBz hd'
    show cP P ann a (Ci (λg w=>cP P ann b Q g w) Q) g w
    have h2:cP P ann a (Ci (λg w=>cP P ann (.seq (aQ (n+1) b) (aI (n+1) b)) Q g w) Q) g w:=this
    refine Gb h2 (λe g' w' _ hq=> ?_)
    cases e with
    |normal=>exact ih b g' w' hb hq
    |_=>exact hq
  |_=>cases n<;>simp[axO]at h
def aHf(id:Nat):Code->Bool| .block i _=>Nat.beq i id|_=>false
def aD6:Code->Bool| .loop _=>true|_=>false
def aDy:Code->Option Operand| .cond o _ _=>some o|_=>none
theorem aF0 {Q:Exit->Env->aOi->Prop}(id:Nat)(c:Code)(g:Env)(w:aOi)(h:aHf id c=true)(hd:cP P ann (bI c) (blk id Q) g w):cP P ann c Q g w:=by
 cases c with
 |block i c=>
  obtain rfl:=aMf (show Nat.beq i id=true from h)
  exact hd
 |_=>cases h
def aHg:Code->Bool| .scope _=>true|_=>false
theorem aF3 {Q:Exit->Env->aOi->Prop}(c:Code)(g:Env)(w:aOi)(h:aHg c=true)(hd:cP P ann (bI c) Q g w):cP P ann c Q g w:=by
 cases c with
 |scope c=>exact hd
 |_=>cases h
theorem aF1 {Q:Exit->Env->aOi->Prop}(o:Operand)(c:Code)(g:Env)(w:aOi)(h:aDy c=some o)
 (hd:bQ (ev g o) (cP P ann (cT c) Q g w) (cP P ann (cE c) Q g w)):cP P ann c Q g w:=by
 cases c with
 |cond o' a b=>obtain rfl:=aLS h;exact hd
 |_=>cases h
theorem aC6 {v:aOj}{A B A' B':Prop}(ha:A->A')(hb:B->B')(h:bQ v A B):bQ v A' B':=by
 unfold bQ at*
 cases v with
 |bool b=>cases b<;>first|exact ha h|exact hb h
 |_=>exact h
theorem aDH{T:Type}(proj:Env->T)(F:(T->aOi->Prop)->T->aOi->Prop){c:Code}{Q:Exit->Env->aOi->Prop}{g:Env}{w:aOi}
 (hF:∀(X:T->aOi->Prop) g' w',jP (T9 c) g g'->F X (proj g') w'->cP P ann c (Ci (λg'' w''=>X (proj g'') w'') Q) g' w')
 (h:aX F (proj g) w):cP P ann (.loop c) Q g w:=by
 obtain⟨I,⟨n,h0⟩,hI⟩:=h
 refine⟨λn g' w'=>jP (T9 c) g g'/\I n (proj g') w',⟨n,jP.refl _ _,h0⟩, ?_⟩
 rintro n g' w' ⟨ha,hi⟩
 have:=hF _ g' w' ha (hI n _ _ hi)
 refine Gb this (λe g2 w2 ha2 hq=> ?_)
 cases e with
 |normal=>
  obtain⟨m,hm,hh⟩:=hq
  exact⟨m,hm,ha.trans ha2 (λ_ h=>h) (λ_ h=>h),hh⟩
 |_=>exact hq
theorem aBA{T:Type}(proj:Env->T)(F:(T->aOi->Prop)->T->aOi->Prop)(c:Code){Q:Exit->Env->aOi->Prop}{g:Env}{w:aOi}(hl:aD6 c=true)
 (h:aX F (proj g) w)
 (hF:∀(X:T->aOi->Prop) g' w',jP (T9 (bI c)) g g'->F X (proj g') w'->cP P ann (bI c) (Ci (λg'' w''=>X (proj g'') w'') Q) g' w'):cP P ann c Q g w:=by
 cases c with
 |loop c=>exact aDH proj F hF h
 |_=>cases hl
theorem ayF{l:List Nat}{s:Nat}(hs:oR s l=false):s∉l:=by
 induction l with
 |nil=>simp
 |cons a r ih=>
  unfold oR at hs
  cases hb:Nat.beq a s with
  |true=>simp only[hb]at hs;cases hs
  |false=>
   simp only[hb]at hs
   intro hm
   rcases aL9.1 hm with e|hm
   .subst e;simp at hb
   .exact ih hs hm
theorem aDg{l:List Nat}{g g':Env}(h:jP l g g'){s:Nat}(hs:oR s l=false):g' s=g s:=h s (ayF hs)
def Jl(id:Nat):Code->Array Oper
 | .region i ops _=>match Nat.beq i id with|true=>ops|false=> #[]
 | .seq a b=>match(Jl id a).size with|0=>Jl id b|_+1=>Jl id a
 | .cond _ a b=>match(Jl id a).size with|0=>Jl id b|_+1=>Jl id a
 | .block _ c=>Jl id c
 | .loop c=>Jl id c
 | .scope c=>Jl id c
 |_=> #[]
theorem Md{b:Bool}{A B:Prop}(ha:A)(hb:B):Ord b A B:=by cases b<;>assumption
theorem aX.rule {α:Type}{F:(α->aOi->Prop)->α->aOi->Prop}(I:Nat->α->aOi->Prop){g:α}{w:aOi}(n:Nat)(h0:I n g w)
 (hr:∀n g w,I n g w->F (λg' w'=>∃m,m<n/\I m g' w') g w):aX F g w:=⟨I,⟨n,h0⟩,hr⟩
theorem bE(A B:Prop):bQ (.bool true) A B=A:=Eq.trans rfl rfl
theorem aS(A B:Prop):bQ (.bool false) A B=B:=Eq.trans rfl rfl
theorem jE(s:(aOj->aOi->Prop)->Prop)(w:aOi)(K:aOj->aOi->Prop):Gd true s w K=s K:=Eq.trans rfl rfl
theorem gK(s:(aOj->aOi->Prop)->Prop)(w:aOi)(K:aOj->aOi->Prop):Gd false s w K=K undef w:=Eq.trans rfl rfl
theorem Kd(p:Prop):Gs true p=p:=Eq.trans rfl rfl
theorem F1 (p:Prop):Gs false p=True:=Eq.trans rfl rfl
theorem yH:bK (.bool true) true=true:=Eq.trans rfl rfl
theorem Ey:bK (.bool true) false=false:=Eq.trans rfl rfl
theorem Ai:bK (.bool false) true=false:=Eq.trans rfl rfl
theorem BD:bK (.bool false) false=true:=Eq.trans rfl rfl
def aG:Operand:= .tmp 0
theorem exD{c:Code}{kn kr:Env->aOi->Prop}{l:List (Nat×(Env->aOi->Prop))}{Q:Exit->Env->aOi->Prop}{g:Env}{w:aOi}{A:Prop}
 (h:A) (hn:∀g w,kn g w->Q .normal g w) (hr:∀g w,kr g w->Q .ret g w) (hl:arI Q l) (e:A=cP P ann c (exQ kn kr l) g w:=by kernel_rfl):cP P ann c Q g w:=aF2 e h hn hr hl
theorem bZ{Q:Exit->Env->aOi->Prop}(n:Nat){c:Code}{g:Env}{w:aOi}
 (hd:cP P ann (aQ n c) (Ci (λg w=>cP P ann (aI n c) Q g w) Q) g w) (h:axO n c=true:=by kernel_rfl):cP P ann c Q g w:=aBB n c g w h hd
theorem qM{Q:Exit->Env->aOi->Prop}(id:Nat){c:Code}{g:Env}{w:aOi}(hd:cP P ann (bI c) (blk id Q) g w)(h:aHf id c=true:=by kernel_rfl):cP P ann c Q g w:=aF0 id c g w h hd
theorem scD{Q:Exit->Env->aOi->Prop}{c:Code}{g:Env}{w:aOi}(hd:cP P ann (bI c) Q g w)(h:aHg c=true:=by kernel_rfl):cP P ann c Q g w:=aF3 c g w h hd
theorem cdD{Q:Exit->Env->aOi->Prop}(o:Operand){c:Code}{g:Env}{w:aOi}{A B:Prop}(ha:A->cP P ann (cT c) Q g w)(hb:B->cP P ann (cE c) Q g w)(hd:bQ (ev g o) A B)(h:aDy c=some o:=by kernel_rfl):cP P ann c Q g w:=
 aF1 o c g w h (aC6 ha hb hd)
theorem AL{T:Type}(proj:Env->T)(F:(T->aOi->Prop)->T->aOi->Prop){c:Code}{Q:Exit->Env->aOi->Prop}{g:Env}{w:aOi}
 (h:aX F (proj g) w)
 (hF:∀(X:T->aOi->Prop) g' w',jP (T9 (bI c)) g g'->F X (proj g') w'->cP P ann (bI c) (Ci (λg'' w''=>X (proj g'') w'') Q) g' w') (hl:aD6 c=true:=by kernel_rfl):cP P ann c Q g w:=aBA proj F c hl h hF
theorem cI{l:List Nat}{g g':Env}(s:Nat)(h:jP l g g')(hs:oR s l=false:=by kernel_rfl):g' s=g s:=aDg h hs
theorem lB{ann:FA}(fn:Func)(c:Code)(args:List aOj)(rs:List ResultVar)(N:Nat){f:FuncId}{w:aOi}{R:aOj->aOi->Prop}(hm:P.follows .mixedOrders=true)
 (hf:P.funcs[f]?=some fn) (h:cP P ann c (aJR P rs R) (acD args) w) (hAf:ann.f=f:=by kernel_rfl) (hb:fn.body=some c:=by kernel_rfl) (hrs:fn.results=rs.toArray:=by kernel_rfl) (hN:fn.ntmps=N:=by kernel_rfl) (hle:Nat.ble args.length N=true:=by kernel_rfl)
 (hok:codeOk P N ann c=true:=by kernel_rfl) (hro:rs.all anG=true:=by kernel_rfl) (hND:Nat.ble N DS=true:=by kernel_rfl) (hfl:sJ c=true:=by kernel_rfl):aK P f args.toArray w R:=
 asM hm hAf hf hb hrs hN (aNm hle) hok hro hND hfl h
def alF:Code->Option (Operand×Array Tmp×Code×Code)
 | .rangeFunc g ps aLn bd=>some (g,ps,aLn,bd)
 | .seq a b=>(match alF a with|some r=>some r|none=>alF b)
 | .cond _ a b=>(match alF a with|some r=>some r|none=>alF b)
 | .block _ c=>alF c
 | .loop c=>alF c
 | .scope c=>alF c
 |_=>none
def aEG(c:Code):Array Tmp:=match alF c with|some (_,ps,_)=>ps|none=> #[]
def aCp(c:Code):Code:=match alF c with|some (_,_,aLn,_)=>aLn|none=> .skip
def azB(c:Code):Code:=match alF c with|some (_,_,_,bd)=>bd|none=> .skip
def Rdy(l:Nat)(w:aOi)(K:aOi->Prop):Prop:=∃r:Loop,w.heap[l]?=some (.loop r)/\r.state= .ready/\K (w.putObj l (.loop {r with state:= .busy}))
def jSt:Option Code->LoopState
 |none=> .ready
 |some _=> .done
def arN(l:Nat)(j:Option Code)(R:aOj->aOi->Prop)(w:aOi):Prop:=
 ∃r:Loop,w.heap[l]?=some (.loop r)/\R (.bool j.isNone) (w.putObj l (.loop {r with state:=jSt j,pending:=j}))
def aIC:List ResultVar:=[]
theorem dsF{ann:FA}(fn:Func)(c:Code)(args:List aOj)(rs:List ResultVar)(N:Nat){f:FuncId}{w:aOi}{R:aOj->aOi->Prop}(hm:P.follows .mixedOrders=true)
 (hf:P.funcs[f]?=some fn) (h:cP P ann c (aIA P rs R) (acD args) w) (hAf:ann.f=f:=by kernel_rfl) (hb:fn.body=some c:=by kernel_rfl) (hrs:fn.results=rs.toArray:=by kernel_rfl) (hN:fn.ntmps=N:=by kernel_rfl) (hle:Nat.ble args.length N=true:=by kernel_rfl)
 (hok:codeOk P N ann c=true:=by kernel_rfl) (hro:rs.all anG=true:=by kernel_rfl) (hND:Nat.ble N DS=true:=by kernel_rfl):aK P f args.toArray w R:=
 XC hm hAf hf hb hrs hN (aNm hle) hok hro hND h
theorem dsR{ann:FA}(N:Nat){f:FuncId}{l:Nat}{tmps:Array aOj}{aLn bd:Code}{w:aOi}{R:aOj->aOi->Prop}(hm:P.follows .mixedOrders=true)(hsz:tmps.size=N)
 (h:cP P ann aLn (asQ P ann l bd R) (Qw tmps) w) (hN:aaL P f=N) (hok1:codeOk P N ann aLn=true) (hok2:codeOk P N ann bd=true) (hAf:ann.f=f:=by kernel_rfl) (hND:Nat.ble N DS=true:=by kernel_rfl)
 (hf1:sJ aLn=true:=by kernel_rfl) (hf2:sJ bd=true:=by kernel_rfl):alV P l f tmps aLn bd w R:=
 aoM hm hAf hN hND hsz hok1 hf1 hok2 hf2 h
end
end Go.En
namespace Go.Proofs.YtoecppploooloaaGreatDoor
open Go Go.En
noncomputable abbrev pg:Program:=Tryz.prog
theorem TryzM.mixed:pg.follows .mixedOrders=true:=Tryz.checked.mixed
abbrev K0:=aOi->Prop
abbrev K1:=aOj->K0
abbrev K2:=aOj->K1
abbrev K3:=aOj->K2
abbrev K4:=aOj->K3
abbrev K5:=aOj->K4
abbrev K6:=aOj->K5
abbrev K7:=aOj->K6
abbrev K8:=aOj->K7
abbrev K9:=aOj->K8
abbrev Zg:=aOj->K9
abbrev K11:=aOj->Zg
abbrev HR(rs:List ResultVar)(R:K1)(Q:Exit->Env->aOi->Prop):Prop:=∀g w,(qC pg rs g w λvs=>R (tup vs) w)->Q .ret g w
abbrev HRF(rs:List ResultVar)(R:K1)(Q:Exit->Env->aOi->Prop):Prop:=∀g w,(Ec (g DS) w λw=>qC pg rs g w λvs=>R (tup vs) w)->Q .ret g w
abbrev no:Env->aOi->Prop:=λ_ _=>False
theorem DN{Q:Env->aOi->Prop}:∀g w,no g w->Q g w:=λ_ _ h=>h.elim
def fz:Nat->List (Bool×List Nat)->List (Bool×List Nat)
 |0,l=>l
 |n+1,l=>(false,[])::fz n l
def ft(a:List Nat)(l:List (Bool×List Nat)):List (Bool×List Nat):=(true,a)::l
def fu(a:List Nat)(l:List (Bool×List Nat)):List (Bool×List Nat):=(false,a)::l
theorem cO{Q:Env->aOi->Prop}:∀g w,Q g w->Q g w:=λ_ _ h=>h
section
variable{P:Program}{ann:FA}{c:Code}{kr:Env->aOi->Prop}{Q:Exit->Env->aOi->Prop}{g:Env}{w:aOi}{A:Prop}
theorem zK(l:List (Nat×(Env->aOi->Prop)))(kn:Env->aOi->Prop)(h:A)(hn:∀g w,kn g w->Q .normal g w)(hr:∀g w,kr g w->Q .ret g w)(hl:arI Q l)(e:A=cP P ann c (exQ kn kr l) g w:=by kernel_rfl):cP P ann c Q g w:=exD h hn hr hl e
theorem Lk(kn:Env->aOi->Prop)(h:A)(hn:∀g w,kn g w->Q .normal g w)(hr:∀g w,kr g w->Q .ret g w)(e:A=cP P ann c (exQ kn kr []) g w:=by kernel_rfl):cP P ann c Q g w:=exD (l:=[]) h hn hr trivial e
theorem eL(kn:Env->aOi->Prop)(h:A)(hn:∀g w,kn g w->Q .normal g w)(e:A=cP P ann c (exQ kn no []) g w:=by kernel_rfl):cP P ann c Q g w:=exD (l:=[]) h hn DN trivial e
theorem lT(h:A)(hr:∀g w,kr g w->Q .ret g w)(e:A=cP P ann c (exQ no kr []) g w:=by kernel_rfl):cP P ann c Q g w:=exD (l:=[]) h DN hr trivial e
end
abbrev Mq0 (k:K0):Env->aOi->Prop:=λg w=>k w
abbrev TR(k:K1)(x0:Nat):Env->aOi->Prop:=λg w=>k (g x0) w
abbrev Kf(k:K2)(x0 x1:Nat):Env->aOi->Prop:=λg w=>k (g x0) (g x1) w
abbrev TE(k:K3)(x0 x1 x2:Nat):Env->aOi->Prop:=λg w=>k (g x0) (g x1) (g x2) w
abbrev AK(k:K4)(x0 x1 x2 x3:Nat):Env->aOi->Prop:=λg w=>k (g x0) (g x1) (g x2) (g x3) w
abbrev NQ(k:K5)(x0 x1 x2 x3 x4:Nat):Env->aOi->Prop:=λg w=>k (g x0) (g x1) (g x2) (g x3) (g x4) w
abbrev TS(k:K6)(x0 x1 x2 x3 x4 x5:Nat):Env->aOi->Prop:=λg w=>k (g x0) (g x1) (g x2) (g x3) (g x4) (g x5) w
abbrev JW(k:K7)(x0 x1 x2 x3 x4 x5 x6:Nat):Env->aOi->Prop:=λg w=>k (g x0) (g x1) (g x2) (g x3) (g x4) (g x5) (g x6) w
abbrev Mq8 (k:K8)(x0 x1 x2 x3 x4 x5 x6 x7:Nat):Env->aOi->Prop:=λg w=>k (g x0) (g x1) (g x2) (g x3) (g x4) (g x5) (g x6) (g x7) w
abbrev Mq9 (k:K9)(x0 x1 x2 x3 x4 x5 x6 x7 x8:Nat):Env->aOi->Prop:=λg w=>k (g x0) (g x1) (g x2) (g x3) (g x4) (g x5) (g x6) (g x7) (g x8) w
abbrev Xc(k:Zg)(x0 x1 x2 x3 x4 x5 x6 x7 x8 x9:Nat):Env->aOi->Prop:=λg w=>k (g x0) (g x1) (g x2) (g x3) (g x4) (g x5) (g x6) (g x7) (g x8) (g x9) w
abbrev aKo(k:K11)(x0 x1 x2 x3 x4 x5 x6 x7 x8 x9 x10:Nat):Env->aOi->Prop:=λg w=>k (g x0) (g x1) (g x2) (g x3) (g x4) (g x5) (g x6) (g x7) (g x8) (g x9) (g x10) w
abbrev Aa:FuncId:=3
abbrev Fu:FuncId:=8
abbrev lL:FuncId:=9
abbrev rQ:FuncId:=10
abbrev Fv:FuncId:=11
abbrev A9:FuncId:=12
abbrev Fs:FuncId:=20
abbrev oY:FuncId:=21
abbrev Cm:FuncId:=22
abbrev Mc:FuncId:=23
abbrev HH:FuncId:=24
abbrev gB:FuncId:=25
abbrev eY:FuncId:=27
abbrev bA:FuncId:=28
abbrev eH:FuncId:=29
abbrev xV:FuncId:=30
abbrev Ba:FuncId:=31
abbrev sZ:FuncId:=32
abbrev TD:FuncId:=33
abbrev zA:FuncId:=34
abbrev Cy:FuncId:=35
abbrev fL:FuncId:=36
abbrev eT:FuncId:=37
abbrev cC:FuncId:=38
abbrev cU:FuncId:=39
abbrev pE:FuncId:=40
abbrev rA:FuncId:=41
abbrev mZ:FuncId:=42
abbrev rR:FuncId:=43
abbrev Cs:FuncId:=44
abbrev Cn:FuncId:=45
abbrev yY:FuncId:=46
abbrev wU:FuncId:=47
abbrev pH:FuncId:=48
abbrev B2:FuncId:=49
abbrev zB:FuncId:=50
abbrev wY:FuncId:=51
abbrev dG:FuncId:=52
abbrev kT:FuncId:=53
abbrev gI:FuncId:=54
abbrev HI:FuncId:=55
abbrev pD:FuncId:=56
abbrev jY:FuncId:=57
abbrev rU:FuncId:=58
abbrev fB:FuncId:=59
abbrev lV:FuncId:=60
abbrev yZ:FuncId:=61
abbrev iD:FuncId:=62
abbrev Cr:FuncId:=63
abbrev gY:FuncId:=64
abbrev wQ:FuncId:=65
abbrev Bb:FuncId:=66
abbrev HL:FuncId:=67
abbrev wS:FuncId:=68
abbrev wV:FuncId:=69
abbrev kV:FuncId:=70
abbrev tA:FuncId:=71
abbrev fD:FuncId:=72
abbrev tC:FuncId:=73
abbrev Co:FuncId:=74
abbrev iC:FuncId:=75
abbrev wR:FuncId:=76
abbrev pI:FuncId:=77
abbrev adJ:FuncId:=78
abbrev kU:FuncId:=79
abbrev rD:FuncId:=80
abbrev rS:FuncId:=81
abbrev vT:FuncId:=82
abbrev rB:FuncId:=83
abbrev wX:FuncId:=84
abbrev wW:FuncId:=85
abbrev uV:FuncId:=86
abbrev rC:FuncId:=87
abbrev mY:FuncId:=88
abbrev NO:FuncId:=89
abbrev yX:FuncId:=90
abbrev Cx:FuncId:=91
abbrev H2:FuncId:=92
abbrev BZ:FuncId:=93
abbrev B1:FuncId:=94
abbrev vF:FuncId:=95
abbrev Cu:FuncId:=96
abbrev kI:FuncId:=97
abbrev Kc:FuncId:=98
abbrev HJ:FuncId:=99
abbrev bX:FuncId:=100
abbrev HG:FuncId:=101
abbrev kS:FuncId:=102
abbrev Bc:FuncId:=103
abbrev pG:FuncId:=107
abbrev uW:FuncId:=108
abbrev Ft:FuncId:=109
abbrev Cq:FuncId:=110
abbrev BY:FuncId:=111
abbrev pF:FuncId:=112
abbrev Ct:FuncId:=113
abbrev Cp:FuncId:=114
abbrev oZ:FuncId:=115
abbrev Cv:FuncId:=116
abbrev rT:FuncId:=117
abbrev wP:FuncId:=118
abbrev Xa:FuncId:=119
abbrev wT:FuncId:=120
abbrev Bd:FuncId:=132
abbrev nT:FuncId:=133
abbrev pA:FuncId:=134
abbrev eM:FuncId:=135
abbrev HK:FuncId:=136
abbrev tB:FuncId:=145
abbrev fM:FuncId:=151
abbrev N0 (Q : Exit -> Env -> aOi -> Prop) (k : K0) : Prop := ∀ g w, k w -> Q .normal g w
abbrev E0 (Q : Exit -> Env -> aOi -> Prop) (k : K0) (x0 : Nat) : Prop := ∀ g w, k w -> Q (.exit x0) g w
abbrev N1 (Q : Exit -> Env -> aOi -> Prop) (k : K1) (a_ : Nat) : Prop := ∀ g w, k (g a_) w -> Q .normal g w
abbrev E1 (Q : Exit -> Env -> aOi -> Prop) (k : K1) (x0 : Nat) (a_ : Nat) : Prop := ∀ g w, k (g a_) w -> Q (.exit x0) g w
abbrev N2 (Q : Exit -> Env -> aOi -> Prop) (k : K2) (a_ b_ : Nat) : Prop := ∀ g w, k (g a_) (g b_) w -> Q .normal g w
abbrev E2 (Q : Exit -> Env -> aOi -> Prop) (k : K2) (x0 : Nat) (a_ b_ : Nat) : Prop := ∀ g w, k (g a_) (g b_) w -> Q (.exit x0) g w
abbrev N3 (Q : Exit -> Env -> aOi -> Prop) (k : K3) (a_ b_ c_ : Nat) : Prop := ∀ g w, k (g a_) (g b_) (g c_) w -> Q .normal g w
abbrev E3 (Q : Exit -> Env -> aOi -> Prop) (k : K3) (x0 : Nat) (a_ b_ c_ : Nat) : Prop := ∀ g w, k (g a_) (g b_) (g c_) w -> Q (.exit x0) g w
abbrev N4 (Q : Exit -> Env -> aOi -> Prop) (k : K4) (a_ b_ c_ d_ : Nat) : Prop := ∀ g w, k (g a_) (g b_) (g c_) (g d_) w -> Q .normal g w
abbrev E4 (Q : Exit -> Env -> aOi -> Prop) (k : K4) (x0 : Nat) (a_ b_ c_ d_ : Nat) : Prop := ∀ g w, k (g a_) (g b_) (g c_) (g d_) w -> Q (.exit x0) g w
abbrev N5 (Q : Exit -> Env -> aOi -> Prop) (k : K5) (a_ b_ c_ d_ e_ : Nat) : Prop := ∀ g w, k (g a_) (g b_) (g c_) (g d_) (g e_) w -> Q .normal g w
abbrev E5 (Q : Exit -> Env -> aOi -> Prop) (k : K5) (x0 : Nat) (a_ b_ c_ d_ e_ : Nat) : Prop := ∀ g w, k (g a_) (g b_) (g c_) (g d_) (g e_) w -> Q (.exit x0) g w
abbrev N6 (Q : Exit -> Env -> aOi -> Prop) (k : K6) (a_ b_ c_ d_ e_ f_ : Nat) : Prop := ∀ g w, k (g a_) (g b_) (g c_) (g d_) (g e_) (g f_) w -> Q .normal g w
abbrev E6 (Q : Exit -> Env -> aOi -> Prop) (k : K6) (x0 : Nat) (a_ b_ c_ d_ e_ f_ : Nat) : Prop := ∀ g w, k (g a_) (g b_) (g c_) (g d_) (g e_) (g f_) w -> Q (.exit x0) g w
abbrev N7 (Q : Exit -> Env -> aOi -> Prop) (k : K7) (a_ b_ c_ d_ e_ f_ g_ : Nat) : Prop := ∀ g w, k (g a_) (g b_) (g c_) (g d_) (g e_) (g f_) (g g_) w -> Q .normal g w
abbrev E7 (Q : Exit -> Env -> aOi -> Prop) (k : K7) (x0 : Nat) (a_ b_ c_ d_ e_ f_ g_ : Nat) : Prop := ∀ g w, k (g a_) (g b_) (g c_) (g d_) (g e_) (g f_) (g g_) w -> Q (.exit x0) g w
abbrev N10 (Q : Exit -> Env -> aOi -> Prop) (k : Zg) (a_ b_ c_ d_ e_ f_ g_ h_ i_ j_ : Nat) : Prop := ∀ g w, k (g a_) (g b_) (g c_) (g d_) (g e_) (g f_) (g g_) (g h_) (g i_) (g j_) w -> Q .normal g w
abbrev E10 (Q : Exit -> Env -> aOi -> Prop) (k : Zg) (x0 : Nat) (a_ b_ c_ d_ e_ f_ g_ h_ i_ j_ : Nat) : Prop := ∀ g w, k (g a_) (g b_) (g c_) (g d_) (g e_) (g f_) (g g_) (g h_) (g i_) (g j_) w -> Q (.exit x0) g w
abbrev aOk (n_ : Int) : aOj := .int .i64 n_
end Go.Proofs.YtoecppploooloaaGreatDoor
namespace Go.Proofs.YtoecppploooloaaGreatDoor
open Go Go.En
set_option maxRecDepth 20000
attribute [local irreducible] Go.En.cP
variable (Q : Exit -> Env -> aOi -> Prop) (g : Env) (w : aOi)
def Qg:FA:=⟨Aa,λi=> .leaf ([],[]) []⟩
def SS:List ResultVar:=[.tmp 6]
noncomputable def Oi:Code:=aY Tryz.f3
def Gf(R:K1) jC nW TJ w:=
 aK pg Fu #[] w λc0 w=>
 aA pg (sUn .not c0) w λc2 w=>
 bQ c2
  (R (.bool false) w)
  (aA pg (dD .len #[22] 3 [jC]) w λc4 w=>
  aA pg (aD .gtr 3 aG aG c4 (aOk 3000)) w λc5 w=>
  Gd (bK c5 false) (λK=>K TJ w) w λc7 w=>
  Gd (bK c5 false) (λK=>aA pg (aD .gtr 3 aG aG c7 (aOk 16777216)) w K) w λc8 w=>
  aA pg (cD c5 (.bool true) c8) w λc9 w=>
  bQ c9
   (R (.bool true) w)
   (aA pg (aD .rem 5 aG aG nW (.int .u8 10)) w λd3 w=>
   aA pg (cH 5 3 d3) w λd4 w=>
   aK pg lL #[jC,d4,(.bool true)] w λd5 w=>
   aA pg (aV d5 0) w λd6 w=>
   aA pg (aV d5 1) w λd7 w=>
   aA pg (aD .eql 24 (.tmp 28) (.const (aOk 0)) d7 (aOk 0)) w λd9 w=>
   Gd (bK d9 true) (λK=>K d6 w) w λe1 w=>
   Gd (bK d9 true) (λK=>aA pg (dD .len #[22] 3 [e1]) w K) w λe2 w=>
   Gd (bK d9 true) (λK=>K jC w) w λe3 w=>
   Gd (bK d9 true) (λK=>aA pg (dD .len #[22] 3 [e3]) w K) w λe4 w=>
   Gd (bK d9 true) (λK=>aK pg rQ #[e4] w K) w λe5 w=>
   Gd (bK d9 true) (λK=>aA pg (aD .leq 3 aG aG e2 e5) w K) w λe6 w=>
   aA pg (cD d9 e6 (.bool false)) w λe7 w=>
   Gd (bK e7 true) (λK=>K TJ w) w λe9 w=>
   Gd (bK e7 true) (λK=>aK pg rQ #[e9] w K) w λf0 w=>
   Gd (bK e7 true) (λK=>K TJ w) w λf1 w=>
   Gd (bK e7 true) (λK=>aK pg Fv #[f1] w K) w λf2 w=>
   Gd (bK e7 true) (λK=>aA pg (aD .eql 3 (.tmp 40) (.tmp 42) f0 f2) w K) w λf3 w=>
   aA pg (cD e7 f3 (.bool false)) w λf4 w=>
   R f4 w))
def Kx a0 a1 a2 w(R:K1):=
 Gf R a0 a1 a2 w
theorem OH{a0 a1 a2 w R}(h:Kx a0 a1 a2 w R):aK pg Aa #[a0,a1,a2] w R:=
 lB (ann:=Qg) Tryz.f3 Oi [a0,a1,a2] SS 45 TryzM.mixed Tryz.func3 (lT h cO)
def adN:FA:=⟨Fu,λi=> .leaf ([],[]) []⟩
def aiY:List ResultVar:=[.tmp 0]
noncomputable def ZD:Code:=aY Tryz.f8
def Sg(R:K1) w:=
 aA pg (bT 22 2 [(0,(.int .u8 7)),(1,(.int .u8 8))]) w λb8 w=>
 aK pg lL #[b8,(aOk 0),(.bool false)] w λb9 w=>
 aA pg (aV b9 0) w λc0 w=>
 aA pg (aV b9 1) w λc1 w=>
 aK pg A9 #[c0,(aOk 22),(aOk 100)] w λc4 w=>
 aA pg (aV c4 0) w λc5 w=>
 aA pg (aV c4 1) w λc6 w=>
 aK pg lL #[(.slice none 0 0),(aOk 10),(.bool false)] w λc8 w=>
 aA pg (aV c8 0) w λc9 w=>
 aA pg (aV c8 1) w λd0 w=>
 aA pg (aD .eql 24 (.tmp 21) (.const (aOk 0)) c1 (aOk 0)) w λd2 w=>
 Gd (bK d2 true) (λK=>K c0 w) w λd4 w=>
 Gd (bK d2 true) (λK=>aA pg (dD .len #[22] 3 [d4]) w K) w λd5 w=>
 Gd (bK d2 true) (λK=>aA pg (aD .gtr 3 aG aG d5 (aOk 6)) w K) w λd6 w=>
 aA pg (cD d2 d6 (.bool false)) w λd7 w=>
 Gd (bK d7 true) (λK=>K c0 w) w λd9 w=>
 Gd (bK d7 true) (λK=>aA pg (bP 22 d9 none (some (aOk 6)) none) w K) w λe0 w=>
 Gd (bK d7 true) (λK=>aA pg (cH 22 9 e0) w K) w λe1 w=>
 Gd (bK d7 true) (λK=>aA pg (aD .eql 9 (.tmp 31) (.const (.string ⟨#[40,181,47,253,32,2]⟩)) e1 (.string ⟨#[40,181,47,253,32,2]⟩)) w K) w λe2 w=>
 aA pg (cD d7 e2 (.bool false)) w λe3 w=>
 Gd (bK e3 true) (λK=>K c5 w) w λe5 w=>
 Gd (bK e3 true) (λK=>aA pg (cH 22 9 e5) w K) w λe6 w=>
 Gd (bK e3 true) (λK=>aA pg (aD .eql 9 (.tmp 36) (.const (.string ⟨#[7,8]⟩)) e6 (.string ⟨#[7,8]⟩)) w K) w λe7 w=>
 aA pg (cD e3 e7 (.bool false)) w λe8 w=>
 Gd (bK e8 true) (λK=>K c6 w) w λf0 w=>
 Gd (bK e8 true) (λK=>aA pg (aD .eql 24 (.tmp 40) (.const (aOk 0)) f0 (aOk 0)) w K) w λf1 w=>
 aA pg (cD e8 f1 (.bool false)) w λf2 w=>
 Gd (bK f2 true) (λK=>K d0 w) w λf4 w=>
 Gd (bK f2 true) (λK=>aA pg (aD .eql 24 (.tmp 44) (.const (aOk 1)) f4 (aOk 1)) w K) w λf5 w=>
 aA pg (cD f2 f5 (.bool false)) w λf6 w=>
 Gd (bK f6 true) (λK=>aK pg rQ #[(aOk 5)] w K) w λf8 w=>
 Gd (bK f6 true) (λK=>aA pg (aD .eql 3 (.tmp 48) (.const (aOk 29)) f8 (aOk 29)) w K) w λf9 w=>
 aA pg (cD f6 f9 (.bool false)) w λi0 w=>
 R i0 w
def acK w(R:K1):=
 Sg R w
theorem Z8 {w R}(h:acK w R):aK pg Fu #[] w R:=
 lB (ann:=adN) Tryz.f8 ZD [] aiY 51 TryzM.mixed Tryz.func8 (lT h cO)
def CB:FA:=⟨lL,λi=>match Nat.beq i 13 with|true=> .leaf ([2,5],[(2,3)]) (fz 2 (ft [] (fu [0] (fz 1 (ft [] [])))))|false=> .leaf ([],[]) []⟩
def EK:List ResultVar:=[.tmp 6,.tmp 7]
noncomputable def Bz:Code:=aY Tryz.f9
def zE(R:K1) yM w:=
 R (.tuple #[yM,(aOk 0)]) w
def ML(kn:K1) jC Dq yM w:=
 bQ Dq
  (aK pg Mc #[jC] w λj5 w=>
  aA pg (cH 32 5 j5) w λj8 w=>
  aA pg (aD .shr 32 aG aG j5 (.int .u64 8)) w λl0 w=>
  aA pg (cH 32 5 l0) w λl1 w=>
  aA pg (aD .shr 32 aG aG j5 (.int .u64 16)) w λl3 w=>
  aA pg (cH 32 5 l3) w λl4 w=>
  aA pg (aD .shr 32 aG aG j5 (.int .u64 24)) w λl6 w=>
  aA pg (cH 32 5 l6) w λl7 w=>
  aA pg (bT 22 4 [(0,j8),(1,l1),(2,l4),(3,l7)]) w λl8 w=>
  aA pg (dD .append #[22,22] 22 [yM,l8]) w λl9 w=>
  kn l9 w)
  (kn yM w)
def zF(R:K1) jC Dq yM w:=
 ML (zE R) jC Dq yM w
def zG(kn:K6)(k1:K3)(R:K1) jC nW Dq yM JV Mi w:=
 aA pg (aD .eql 3 (.tmp 32) (.const (aOk 0)) Mi (aOk 0)) w λe3 w=>
 Gd (bK e3 false) (λK=>K Mi w) w λe5 w=>
 Gd (bK e3 false) (λK=>K jC w) w λe6 w=>
 Gd (bK e3 false) (λK=>aA pg (dD .len #[22] 3 [e6]) w K) w λe7 w=>
 Gd (bK e3 false) (λK=>aA pg (aD .lss 3 aG aG e5 e7) w K) w λe8 w=>
 aA pg (cD e3 (.bool true) e8) w λe9 w=>
 bQ e9
  (aA pg (aD .add 3 aG aG Mi (aOk 65536)) w λf6 w=>
  aA pg (dD .len #[22] 3 [jC]) w λf8 w=>
  aA pg (dD .min #[3,3] 3 [f6,f8]) w λf9 w=>
  aA pg (aH 45 JV) w λi1 w=>
  aK pg Cm #[jC,Mi,f9,nW,i1] w λi2 w=>
  aA pg (aV i2 0) w λi3 w=>
  aA pg (aV i2 1) w λi4 w=>
  aA pg (aV i2 2) w λi5 w=>
  aA pg (bG 45) w λc2 w=>
  aA pg (aM 45 c2 i4) w λ_u w=>
  aA pg (aD .neq 24 (.tmp 56) (.const (aOk 0)) i5 (aOk 0)) w λi7 w=>
  bQ i7
   (R (.tuple #[(.slice none 0 0),i5]) w)
   ((dr w)=(dr w)/\
   (dr w)=(dr w)/\
   aA pg (dD .append #[22,22] 22 [yM,i3]) (dr w) λj1 avZ=>
   aA pg (aH 45 c2) avZ λj2 w_=>w_=avZ/\
   (dR pg (aH 45 c2) j2 (dr w)/\True)/\
   avZ=avZ/\
   aA pg (aM 45 JV j2) avZ λ_u5 aJ3=>
   aA pg (aD .add 3 aG aG Mi (aOk 65536)) aJ3 λf1 w=>
   kn jC nW Dq j1 JV f1 w))
  (k1 jC Dq yM w)
def zH(k1:K3)(R:K1) jC nW Dq yM JV Mi w:=
 aX (λ(X:(aOj×aOj)->K0) (t:aOj×aOj) (w:aOi)=>zG (λ_ _ _ yM _ Mi w=>X (yM,Mi) w) k1 R jC nW Dq t.1 JV t.2 w) (yM,Mi) w
theorem Ua(k1:K3)(R:K1)(h1:E3 Q k1 1 0 2 8)(hr:HR EK R Q)(h:zH k1 R (g 0) (g 1) (g 2) (g 8) (g 9) (g 10) w):cP pg CB (bI (aI 1 (aQ 1 (aI 4 Bz)))) Q g w:=by
 refine AL (λg:Env=>(g 8,g 10)) (λX t w=>zG (λ_ _ _ yM _ Mi w=>X (yM,Mi) w) k1 R (g 0) (g 1) (g 2) t.1 (g 9) t.2 w) h (λX g1 w1 ha hL=> ?_)
 rw[<-cI 0 ha,<-cI 1 ha,<-cI 2 ha,<-cI 9 ha]at hL
 exact(zK [(1,(TE k1 0 2 8))] (TS (λ_ _ _ yM _ Mi w=>X (yM,Mi) w) 0 1 2 8 9 10) hL cO hr ⟨h1,trivial⟩)
def MM(kn:K6) jC nW Dq yM JV w:=
 kn jC nW Dq yM JV (aOk 0) w
def Em(kn:K3)(R:K1) jC nW Dq yM JV w:=
 MM (zH kn R) jC nW Dq yM JV w
def Eo(R:K1) jC nW Dq yM JV w:=
 Em (zF R) R jC nW Dq yM JV w
theorem Ub(kn:K3)(R:K1)(hn:N3 Q kn 0 2 8)(hr:HR EK R Q)(h:Em kn R (g 0) (g 1) (g 2) (g 8) (g 9) w):cP pg CB (aQ 1 (aI 4 Bz)) Q g w:=
 bZ 1 (eL (TS (zH kn R) 0 1 2 8 9 10) h (λg w h=>aE (qM 1 (Ua _ g w kn R hn hr h))))
def CP(kn:K5)(R:K1) jC nW Dq w:=
 aA pg (aD .lss 3 aG aG nW (aOk 0)) w λc7 w=>
 Gd (bK c7 false) (λK=>K nW w) w λc9 w=>
 Gd (bK c7 false) (λK=>aA pg (aD .gtr 3 aG aG c9 (aOk 9)) w K) w λd0 w=>
 aA pg (cD c7 (.bool true) d0) w λd1 w=>
 bQ d1
  (R (.tuple #[(.slice none 0 0),(aOk 1)]) w)
  (aA pg (dD .len #[22] 3 [jC]) w λd4 w=>
  aA pg (aD .gtr 3 aG aG d4 (aOk 4194304)) w λd5 w=>
  bQ d5
   (R (.tuple #[(.slice none 0 0),(aOk 12)]) w)
   (aA pg (dD .len #[22] 3 [jC]) w λd7 w=>
   aA pg (cH 3 32 d7) w λd8 w=>
   aK pg Fs #[d8,Dq] w λe0 w=>
   aK pg oY #[] w λe1 w=>
   aA pg (bG 45) w λJV w=>
   aA pg (aM 45 JV e1) w λ_u w=>
   kn jC nW Dq e0 JV w))
def CQ(R:K1) jC nW Dq w:=
 CP (Eo R) R jC nW Dq w
def Lj a0 a1 a2 w(R:K1):=
 CQ R a0 a1 a2 w
theorem Iy{a0 a1 a2 w R}(h:Lj a0 a1 a2 w R):aK pg lL #[a0,a1,a2] w R:=
 lB (ann:=CB) Tryz.f9 Bz [a0,a1,a2] EK 81 TryzM.mixed Tryz.func9 (bZ 4 (Lk (NQ (Eo R) 0 1 2 8 9) h (λg w h=>aE (bZ 1 (Ub _ g w (zF R) R (λg w h=>aE (bZ 1 (eL (TR (zE R) 8) h (λg w h=>aE (lT h cO))))) cO h))) cO))
def Zm:FA:=⟨rQ,λi=> .leaf ([],[]) []⟩
def aeX:List ResultVar:=[.tmp 2]
noncomputable def Xr:Code:=aY Tryz.f10
def Pr(R:K1) n_0 w:=
 aA pg (aD .lss 3 aG aG n_0 (aOk 0)) w λb4 w=>
 bQ b4
  (R (aOk 0) w)
  (aA pg (aD .add 3 aG aG n_0 (aOk 18)) w λb6 w=>
  aA pg (aD .add 3 aG aG n_0 (aOk 131072)) w λb8 w=>
  aA pg (aD .sub 3 aG aG b8 (aOk 1)) w λb9 w=>
  aA pg (aD .quo 3 aG aG b9 (aOk 131072)) w λc0 w=>
  aA pg (aD .mul 3 aG aG (aOk 6) c0) w λc1 w=>
  aA pg (aD .add 3 aG aG b6 c1) w λc2 w=>
  R c2 w)
def XE a0 w(R:K1):=
 Pr R a0 w
theorem XF{a0 w R}(h:XE a0 w R):aK pg rQ #[a0] w R:=
 lB (ann:=Zm) Tryz.f10 Xr [a0] aeX 13 TryzM.mixed Tryz.func10 (lT h cO)
def GG:FA:=⟨Fv,λi=> .leaf ([],[]) []⟩
def aiZ:List ResultVar:=[.tmp 2]
noncomputable def Ek:Code:=aY Tryz.f11
def Jn(R:K1) n_0 k_3 w:=
 aA pg (aD .add 3 aG aG n_0 (aOk 18)) w λc5 w=>
 aA pg (aD .mul 3 aG aG (aOk 6) k_3) w λc7 w=>
 aA pg (aD .add 3 aG aG c5 c7) w λc8 w=>
 R c8 w
def Jo(kn:K3)(k0:K2) n_0 k_3 TG w:=
 aA pg (aD .lss 3 aG aG TG n_0) w λb9 w=>
 bQ b9
  (aA pg (aD .add 3 aG aG k_3 (aOk 1)) w λc3 w=>
  aA pg (aD .add 3 aG aG TG (aOk 131072)) w λc1 w=>
  kn n_0 c3 c1 w)
  (k0 n_0 k_3 w)
def Df(k0:K2) n_0 k_3 TG w:=
 aX (λ(X:(aOj×aOj)->K0) (t:aOj×aOj) (w:aOi)=>Jo (λ_ k_3 TG w=>X (k_3,TG) w) k0 n_0 t.1 t.2 w) (k_3,TG) w
theorem YL(k0:K2)(h0:E2 Q k0 0 0 3)(h:Df k0 (g 0) (g 3) (g 4) w):cP pg GG (bI (aI 1 (aQ 1 (aI 3 Ek)))) Q g w:=by
 refine AL (λg:Env=>(g 3,g 4)) (λX t w=>Jo (λ_ k_3 TG w=>X (k_3,TG) w) k0 (g 0) t.1 t.2 w) h (λX g1 w1 ha hL=> ?_)
 rw[<-cI 0 ha]at hL
 exact(zK [(0,(Kf k0 0 3))] (kr:=no) (TE (λ_ k_3 TG w=>X (k_3,TG) w) 0 3 4) hL cO DN ⟨h0,trivial⟩)
def SJ(kn:K3) n_0 k_3 w:=
 kn n_0 k_3 (aOk 0) w
def Jp(kn:K2) n_0 k_3 w:=
 SJ (Df kn) n_0 k_3 w
def Jq(R:K1) n_0 k_3 w:=
 Jp (Jn R) n_0 k_3 w
theorem YM(kn:K2)(hn:N2 Q kn 0 3)(h:Jp kn (g 0) (g 3) w):cP pg GG (aQ 1 (aI 3 Ek)) Q g w:=
 bZ 1 (eL (TE (Df kn) 0 3 4) h (λg w h=>aE (qM 0 (YL _ g w kn hn h))))
def SK(kn:K2)(R:K1) n_0 w:=
 aA pg (aD .lss 3 aG aG n_0 (aOk 0)) w λb6 w=>
 bQ b6
  (R (aOk 0) w)
  (kn n_0 (aOk 0) w)
def SL(R:K1) n_0 w:=
 SK (Jq R) R n_0 w
def acX a0 w(R:K1):=
 SL R a0 w
theorem aaS{a0 w R}(h:acX a0 w R):aK pg Fv #[a0] w R:=
 lB (ann:=GG) Tryz.f11 Ek [a0] aiZ 19 TryzM.mixed Tryz.func11 (bZ 3 (Lk (Kf (Jq R) 0 3) h (λg w h=>aE (bZ 1 (YM _ g w (Jn R) (λg w h=>aE (lT h cO)) h))) cO))
def Xe:FA:=⟨A9,λi=> .leaf ([],[]) []⟩
def aaT:List ResultVar:=[.tmp 6,.tmp 7]
noncomputable def V1:Code:=aY Tryz.f12
def MF(R:K1) jC eN aaG w:=
 aK pg HH #[jC,eN,aaG] w λc4 w=>
 aA pg (aV c4 0) w λc5 w=>
 aA pg (aV c4 1) w λc6 w=>
 aA pg (aD .neq 24 (.tmp 17) (.const (aOk 0)) c6 (aOk 0)) w λc8 w=>
 bQ c8
  (R (.tuple #[(.slice none 0 0),c6]) w)
  (aA pg (dQ c5) w λd1 w=>
  aA pg (aJ 56 d1 3) w λd2 w=>
  aA pg (aH 22 d2) w λd3 w=>
  R (.tuple #[d3,(aOk 0)]) w)
def UX a0 a1 a2 w(R:K1):=
 MF R a0 a1 a2 w
theorem V9 {a0 a1 a2 w R}(h:UX a0 a1 a2 w R):aK pg A9 #[a0,a1,a2] w R:=
 lB (ann:=Xe) Tryz.f12 V1 [a0,a1,a2] aaT 24 TryzM.mixed Tryz.func12 (lT h cO)
def adL:FA:=⟨Fs,λi=> .leaf ([],[]) []⟩
def aiW:List ResultVar:=[.tmp 4]
noncomputable def ZB:Code:=aY Tryz.f20
def CW(R:K1) Au d_5 n_6 aaB w:=
 aK pg eY #[] w λd7 w=>
 aK pg bA #[d7,(.int .u64 4247762216),(aOk 4)] w λd9 w=>
 aK pg bA #[d7,d_5,(aOk 1)] w λe2 w=>
 aA pg (aD .sub 32 aG aG Au aaB) w λe6 w=>
 aK pg bA #[d7,e6,n_6] w λe8 w=>
 aK pg eH #[d7] w λf0 w=>
 R f0 w
def RV(kn:K4) Au oJ d_5 n_6 aaB w:=
 bQ oJ
  (aA pg (aD .or 32 aG aG d_5 (.int .u64 4)) w λd6 w=>
  kn Au d6 n_6 aaB w)
  (kn Au d_5 n_6 aaB w)
def IF(R:K1) Au oJ d_5 n_6 aaB w:=
 RV (CW R) Au oJ d_5 n_6 aaB w
def RW(kn:K5) Au oJ w:=
 aA pg (aD .lss 32 aG aG Au (.int .u64 256)) w λc3 w=>
 bQ c3
  (kn Au oJ (.int .u64 32) (aOk 1) (.int .u64 0) w)
  (aA pg (aD .lss 32 aG aG Au (.int .u64 65792)) w λc6 w=>
  bQ c6
   (aA pg (aD .or 32 aG aG (.int .u64 32) (.int .u64 64)) w λc8 w=>
   kn Au oJ c8 (aOk 2) (.int .u64 256) w)
   (aA pg (aD .lss 32 aG aG Au (.int .u64 4294967296)) w λd1 w=>
   bQ d1
    (aA pg (aD .or 32 aG aG (.int .u64 32) (.int .u64 128)) w λd3 w=>
    kn Au oJ d3 (aOk 4) (.int .u64 0) w)
    (aA pg (aD .or 32 aG aG (.int .u64 32) (.int .u64 192)) w λc0 w=>
    kn Au oJ c0 (aOk 8) (.int .u64 0) w)))
def RX(R:K1) Au oJ w:=
 RW (IF R) Au oJ w
def acF a0 a1 w(R:K1):=
 RX R a0 a1 w
theorem ZS{a0 a1 w R}(h:acF a0 a1 w R):aK pg Fs #[a0,a1] w R:=
 lB (ann:=adL) Tryz.f20 ZB [a0,a1] aiW 41 TryzM.mixed Tryz.func20 (bZ 3 (eL (NQ (IF R) 0 1 5 6 7) h (λg w h=>aE (bZ 1 (eL (AK (CW R) 0 5 6 7) h (λg w h=>aE (lT h cO)))))))
def Xf:FA:=⟨oY,λi=> .leaf ([],[]) []⟩
def aaV:List ResultVar:=[.cell 0 45]
noncomputable def V2:Code:=aY Tryz.f21
def MR(R:K1) w:=
 aA pg (bG 45) w λb0 w=>
 aA pg (bH 45 [(0,(.int .u32 1)),(1,(.int .u32 4)),(2,(.int .u32 8))]) w λb1 w=>
 aA pg (aM 45 b0 b1) w λ_u w=>
 vU pg 45 b0 w λr0=>R r0 w
def U1 w(R:K1):=
 MR R w
theorem Wb{w R}(h:U1 w R):aK pg oY #[] w R:=
 lB (ann:=Xf) Tryz.f21 V2 [] aaV 2 TryzM.mixed Tryz.func21 (lT h cO)
def Zo:FA:=⟨Cm,λi=>match Nat.beq i 5 with|true=> .leaf ([3],[(1,3)]) (fz 3 (ft [1] (fz 1 [])))|false=>match Nat.beq i 8 with|true=> .leaf ([5,7,9],[(1,5),(3,5),(3,7)]) (fz 5 (ft [1,3] (fz 1 (ft [3] (fz 1 (ft [] []))))))|false=>match Nat.beq i 11 with|true=> .leaf ([3],[]) (fz 3 (ft [] (fz 1 [])))|false=>match Nat.beq i 12 with|true=> .leaf ([2,5],[(2,3)]) (fz 2 (ft [] (fu [0] (fz 1 (ft [] (fz 1 []))))))|false=> .leaf ([],[]) []⟩
def aeZ:List ResultVar:=[.tmp 10,.cell 11 45,.tmp 12]
noncomputable def Xt:Code:=aY Tryz.f22
def uZ(R:K1) JV c1 aqW aFM w:=
 aA pg (aH 65 aqW) w λj4 w=>
 aK pg sZ #[j4] w λj5 w=>
 aA pg (aV j5 0) w λj6 w=>
 aA pg (aV j5 1) w λj7 w=>
 aA pg (aD .neq 24 (.tmp 68) (.const (aOk 0)) j7 (aOk 0)) w λj9 w=>
 bQ j9
  (aA pg (aH 45 JV) (dr w) λl0 w_=>w_=(dr w)/\
  (dr w)=(dr w)/\
  (dr w)=(dr w)/\
  aA pg (aM 45 c1 l0) (dr w) λ_u3 aA4=>
  aA4=aA4/\
  vU pg 45 c1 aA4 λr1=>R (.tuple #[(.slice none 0 0),r1,j7]) aA4)
  ((dr w)=(dr w)/\
  (dr w)=(dr w)/\
  aA pg (dD .append #[22,22] 22 [j6,aFM]) (dr w) λl4 avY=>
  aA pg (aH 45 JV) avY λl5 w_=>w_=avY/\
  (dR pg (aH 45 JV) l5 (dr w)/\True)/\
  avY=avY/\
  aA pg (aM 45 c1 l5) avY λ_u5 aA5=>
  aA5=aA5/\
  vU pg 45 c1 aA5 λr1=>R (.tuple #[l4,r1,(aOk 0)]) aA5)
def Pt(kn:K4) jC eP b2 bB r_4 w:=
 aA pg (A0 45 r_4) w λJV w=>
 aA pg (bG 45) w λc1 w=>
 aA pg (bP 22 jC (some eP) (some b2) none) w λd4 w=>
 aA pg (dD .len #[22] 3 [jC]) w λd7 w=>
 aA pg (aD .eql 3 (.tmp 25) (.tmp 27) b2 d7) w λd8 w=>
 aA pg (dD .len #[22] 3 [d4]) w λe0 w=>
 aA pg (bH 65 [(0,d8),(1,(aOk 0)),(2,e0)]) w λe1 w=>
 aA pg (bG 65) w λaqW w=>
 aA pg (aM 65 aqW e1) w λ_u w=>
 aK pg xV #[d4] w λe4 w=>
 bQ e4
  ((dr w)=(dr w)/\
  aA pg (bP 22 d4 none (some (aOk 1)) none) (dr w) λe6 w_=>w_=(dr w)/\
  aA pg (aJ 65 aqW 1) (dr w) λe7 w_=>w_=(dr w)/\
  aA pg (aM 3 e7 (aOk 1)) (dr w) λ_u3 azU=>
  (dR pg (bP 22 d4 none (some (aOk 1)) none) e6 azU/\True)/\
  azU=azU/\
  kn JV c1 aqW e6 azU)
  (aA pg (aH 45 JV) w λf3 w=>
  aK pg Ba #[jC,eP,b2,bB,f3] w λf4 w=>
  aA pg (aV f4 0) w λf5 w=>
  aA pg (aV f4 1) w λf6 w=>
  aA pg (aV f4 2) w λf7 w=>
  aA pg (bG 45) w λc7 w=>
  aA pg (aM 45 c7 f6) w λ_u w=>
  aA pg (aD .eql 24 (.tmp 48) (.const (aOk 0)) f7 (aOk 0)) w λf9 w=>
  Gd (bK f9 true) (λK=>K f5 w) w λi1 w=>
  Gd (bK f9 true) (λK=>aA pg (dD .len #[22] 3 [i1]) w K) w λi2 w=>
  Gd (bK f9 true) (λK=>K d4 w) w λi3 w=>
  Gd (bK f9 true) (λK=>aA pg (dD .len #[22] 3 [i3]) w K) w λi4 w=>
  Gd (bK f9 true) (λK=>aA pg (aD .lss 3 aG aG i2 i4) w K) w λi5 w=>
  aA pg (cD f9 i5 (.bool false)) w λi6 w=>
  bQ i6
   ((dr w)=(dr w)/\
   aA pg (dD .len #[22] 3 [f5]) (dr w) λi8 w_=>w_=(dr w)/\
   (dr w)=(dr w)/\
   aA pg (aH 45 c7) (dr w) λj0 w_=>w_=(dr w)/\
   aA pg (aJ 65 aqW 1) (dr w) λj1 w_=>w_=(dr w)/\
   aA pg (aM 3 j1 (aOk 2)) (dr w) λ_u5 aFa=>
   (dR pg (aH 45 c7) j0 aFa/\dR pg (dD .len #[22] 3 [f5]) i8 aFa/\True)/\
   aA pg (aJ 65 aqW 2) aFa λj2 w_=>w_=aFa/\
   aA pg (aM 3 j2 i8) aFa λ_u7 aGW=>
   (dR pg (aH 45 c7) j0 aGW/\True)/\
   aGW=aGW/\
   aA pg (aM 45 JV j0) aGW λ_u9 aKP=>
   kn JV c1 aqW f5 aKP)
   (kn JV c1 aqW d4 w))
def Pv(R:K1) jC eP b2 bB r_4 w:=
 Pt (uZ R) jC eP b2 bB r_4 w
def XI a0 a1 a2 a3 a4 w(R:K1):=
 Pv R a0 a1 a2 a3 a4 w
theorem XJ{a0 a1 a2 a3 a4 w R}(h:XI a0 a1 a2 a3 a4 w R):aK pg Cm #[a0,a1,a2,a3,a4] w R:=
 lB (ann:=Zo) Tryz.f22 Xt [a0,a1,a2,a3,a4] aeZ 76 TryzM.mixed Tryz.func22 (bZ 5 (eL (AK (uZ R) 9 11 14 15) h (λg w h=>aE (lT h cO))))
def awP:FA:=⟨Mc,λi=> .leaf ([],[]) []⟩
def aCs:List ResultVar:=[.tmp 2]
noncomputable def asE:Code:=aY Tryz.f23
def anS(R:K1) jC w:=
 aK pg TD #[] w λb4 w=>
 aK pg zA #[b4,jC] w λb7 w=>
 aK pg Cy #[b4] w λb9 w=>
 R b9 w
def aFu a0 w(R:K1):=
 anS R a0 w
theorem awE{a0 w R}(h:aFu a0 w R):aK pg Mc #[a0] w R:=
 lB (ann:=awP) Tryz.f23 asE [a0] aCs 10 TryzM.mixed Tryz.func23 (lT h cO)
def Ib:FA:=⟨HH,λi=>match Nat.beq i 3 with|true=> .leaf ([1,6],[(1,3)]) (fz 1 (ft [] (fz 1 (fu [1] (fz 2 (ft [] (fz 1 [])))))))|false=> .leaf ([],[]) []⟩
def LP:List ResultVar:=[.tmp 6,.tmp 7]
noncomputable def GK:Code:=aY Tryz.f24
def Ld(R:K1) GD w:=
 R (.tuple #[GD,(aOk 0)]) w
def AR(kn:K1)(R:K1) GD aJy w:=
 aA pg (aD .neq 24 (.tmp 64) (.const (aOk 0)) aJy (aOk 0)) w λj5 w=>
 bQ j5
  (R (.tuple #[(.pointer none),aJy]) w)
  (kn GD w)
def UY(kn:K2)(R:K1) GD w:=
 aA pg (dQ GD) w λe5 w=>
 aA pg (aJ 56 e5 0) w λe6 w=>
 aA pg (aH 54 e6) w λe7 w=>
 aK pg cC #[e7,(aOk 4)] w λe8 w=>
 aA pg (dQ GD) w λf0 w=>
 aA pg (aJ 56 f0 0) w λf1 w=>
 aA pg (aH 54 f1) w λf2 w=>
 aK pg cU #[f2] w λf3 w=>
 aA pg (aD .neq 24 (.tmp 43) (.const (aOk 0)) f3 (aOk 0)) w λf4 w=>
 bQ f4
  (aA pg (dQ GD) w λf6 w=>
  aA pg (aJ 56 f6 0) w λf7 w=>
  aA pg (aH 54 f7) w λf8 w=>
  aK pg cU #[f8] w λf9 w=>
  R (.tuple #[(.pointer none),f9]) w)
  (aA pg (aD .eql 32 (.tmp 51) (.const (.int .u64 4247762216)) e8 (.int .u64 4247762216)) w λi2 w=>
  bQ i2
   (aK pg pE #[GD] w λi4 w=>
   kn GD i4 w)
   (aA pg (aD .geq 32 aG aG e8 (.int .u64 407710288)) w λi7 w=>
   Gd (bK i7 true) (λK=>K e8 w) w λi9 w=>
   Gd (bK i7 true) (λK=>aA pg (aD .lss 32 aG aG i9 (.int .u64 407710304)) w K) w λj0 w=>
   aA pg (cD i7 j0 (.bool false)) w λj1 w=>
   bQ j1
    (aK pg rA #[GD] w λj3 w=>
    kn GD j3 w)
    (kn GD (aOk 11) w)))
def Le(kn:K1)(R:K1) GD w:=
 UY (AR kn R) R GD w
def UZ(kn:K1)(k0:K1) GD w:=
 aA pg (dQ GD) w λd9 w=>
 aA pg (aJ 56 d9 0) w λe0 w=>
 aA pg (aH 54 e0) w λe1 w=>
 aK pg eT #[e1] w λe2 w=>
 aA pg (aD .gtr 3 aG aG e2 (aOk 0)) w λe3 w=>
 bQ e3
  (kn GD w)
  (k0 GD w)
def Lf(kn:K1)(k0:K1)(R:K1) GD w:=
 UZ (Le kn R) k0 GD w
def Fz(k0:K1)(R:K1) GD w:=
 aX (λ(X:Unit->K0) (t:Unit) (w:aOi)=>Lf (λ_ w=>X () w) k0 R GD w) () w
theorem ZJ(k0:K1)(R:K1)(h0:E1 Q k0 0 8)(hr:HR LP R Q)(h:Fz k0 R (g 8) w):cP pg Ib (bI (aQ 1 (aI 3 GK))) Q g w:=by
 refine AL (λ_:Env=>()) (λX t w=>Lf (λ_ w=>X () w) k0 R (g 8) w) h (λX g1 w1 ha hL=> ?_)
 rw[<-cI 8 ha]at hL
 exact(bZ 1 (zK [(0,(TR k0 8))] (kr:=no) (TR (Le (λ_ w=>X () w) R) 8) hL (λg w h=>aE (qM 1 (bZ 4 (Lk (Kf (AR (λ_ w=>X () w) R) 8 10) h (λg w h=>aE (Lk (TR (λ_ w=>X () w) 8) h cO hr)) hr)))) DN ⟨h0,trivial⟩))
def CL(R:K1) GD w:=
 Fz (Ld R) R GD w
theorem ZK(kn:K1)(R:K1)(hn:N1 Q kn 8)(hr:HR LP R Q)(h:Fz kn R (g 8) w):cP pg Ib (aQ 1 (aI 3 GK)) Q g w:=
 qM 0 (ZJ _ g w kn R hn hr h)
def Rz(kn:K1)(R:K1) jC eN aaG w:=
 aA pg (aD .lss 3 aG aG eN (aOk 10)) w λc2 w=>
 Gd (bK c2 false) (λK=>K eN w) w λc4 w=>
 Gd (bK c2 false) (λK=>aA pg (aD .gtr 3 aG aG c4 (aOk 22)) w K) w λc5 w=>
 aA pg (cD c2 (.bool true) c5) w λc6 w=>
 Gd (bK c6 false) (λK=>K aaG w) w λc8 w=>
 Gd (bK c6 false) (λK=>aA pg (aD .lss 3 aG aG c8 (aOk 0)) w K) w λc9 w=>
 aA pg (cD c6 (.bool true) c9) w λd0 w=>
 bQ d0
  (R (.tuple #[(.pointer none),(aOk 1)]) w)
  ((dr w)=(dr w)/\
  aK pg fL #[jC] (dr w) λd2 sT=>
  sT=sT/\
  aA pg (aD .shl 32 aG aG (.int .u64 1) eN) sT λd4 w_=>w_=sT/\
  (dR pg (aD .shl 32 aG aG (.int .u64 1) eN) d4 (dr w)/\True)/\
  sT=sT/\
  aA pg (bH 56 [(0,d2),(1,d4),(2,aaG)]) sT λd6 w_=>w_=sT/\
  aA pg (A0 56 d6) sT λd7 azT=>
  azT=azT/\
  kn d7 azT)
def RA(R:K1) jC eN aaG w:=
 Rz (CL R) R jC eN aaG w
def agY a0 a1 a2 w(R:K1):=
 RA R a0 a1 a2 w
theorem adW{a0 a1 a2 w R}(h:agY a0 a1 a2 w R):aK pg HH #[a0,a1,a2] w R:=
 lB (ann:=Ib) Tryz.f24 GK [a0,a1,a2] LP 68 TryzM.mixed Tryz.func24 (bZ 3 (Lk (TR (CL R) 8) h (λg w h=>aE (bZ 1 (ZK _ g w (Ld R) R (λg w h=>aE (lT h cO)) cO h))) cO))
def Qj:FA:=⟨gB,λi=> .leaf ([],[]) []⟩
def SZ:List ResultVar:=[.tmp 2]
noncomputable def Ol:Code:=aY Tryz.f25
def Gz(R:K1) lU w:=
 aA pg (aD .eql 22 (.tmp 3) (.const (.slice none 0 0)) lU (.slice none 0 0)) w λb4 w=>
 bQ b4
  (R (.slice none 0 0) w)
  (aA pg (bT 22 0 []) w λb5 w=>
  aA pg (dD .append #[22,22] 22 [b5,lU]) w λb7 w=>
  R b7 w)
def KH a0 w(R:K1):=
 Gz R a0 w
theorem O6 {a0 w R}(h:KH a0 w R):aK pg gB #[a0] w R:=
 lB (ann:=Qj) Tryz.f25 Ol [a0] SZ 8 TryzM.mixed Tryz.func25 (lT h cO)
def Ra:FA:=⟨eY,λi=> .leaf ([],[]) []⟩
def Uz:List ResultVar:=[.tmp 0]
noncomputable def Qp:Code:=aY Tryz.f27
def G9 (R:K1) w:=
 aA pg (bH 77 []) w λb1 w=>
 aA pg (A0 77 b1) w λb2 w=>
 R b2 w
def MB w(R:K1):=
 G9 R w
theorem Qv{w R}(h:MB w R):aK pg eY #[] w R:=
 lB (ann:=Ra) Tryz.f27 Qp [] Uz 3 TryzM.mixed Tryz.func27 (lT h cO)
def AN:FA:=⟨bA,λi=> .leaf ([],[]) []⟩
def Nk:List ResultVar:=[]
noncomputable def zY:Code:=aY Tryz.f28
def sH(kn:K4)(k0:K0) DP NM c7 c8 w:=
 aA pg (aD .lss 3 aG aG c8 c7) w λc9 w=>
 bQ c9
  (aA pg (dQ DP) w λd3 w=>
  aA pg (aJ 77 d3 0) w λd4 w=>
  aA pg (aH 22 d4) w λd5 w=>
  aA pg (aD .mul 3 aG aG (aOk 8) c8) w λd8 w=>
  aA pg (cH 3 50 d8) w λd9 w=>
  aA pg (aD .shr 32 aG aG NM d9) w λe0 w=>
  aA pg (cH 32 5 e0) w λe1 w=>
  aA pg (bT 22 1 [(0,e1)]) w λe2 w=>
  aA pg (dD .append #[22,22] 22 [d5,e2]) w λe3 w=>
  aA pg (dQ DP) w λe4 w=>
  aA pg (aJ 77 e4 0) w λe5 w=>
  aA pg (aM 22 e5 e3) w λ_u w=>
  aA pg (aD .add 3 aG aG c8 (aOk 1)) w λe6 w=>
  kn DP NM c7 e6 w)
  (k0 w)
def lJ(k0:K0) DP NM c7 c8 w:=
 aX (λ(X:aOj->K0) (t:aOj) (w:aOi)=>sH (λ_ _ _ c8 w=>X c8 w) k0 DP NM c7 t w) c8 w
theorem Is(k0:K0)(h0:E0 Q k0 0)(h:lJ k0 (g 0) (g 1) (g 17) (g 18) w):cP pg AN (bI (aI 2 zY)) Q g w:=by
 refine AL (λg:Env=>g 18) (λX t w=>sH (λ_ _ _ c8 w=>X c8 w) k0 (g 0) (g 1) (g 17) t w) h (λX g1 w1 ha hL=> ?_)
 rw[<-cI 0 ha,<-cI 1 ha,<-cI 17 ha]at hL
 exact(zK [(0,(Mq0 k0))] (kr:=no) (AK (λ_ _ _ c8 w=>X c8 w) 0 1 17 18) hL cO DN ⟨h0,trivial⟩)
def B8 (kn:K4)(R:K1) DP NM TJ w:=
 aA pg (aD .eql 60 (.tmp 7) (.const (.pointer none)) DP (.pointer none)) w λb8 w=>
 Gd (bK b8 false) (λK=>K TJ w) w λc0 w=>
 Gd (bK b8 false) (λK=>aA pg (aD .lss 3 aG aG c0 (aOk 1)) w K) w λc1 w=>
 aA pg (cD b8 (.bool true) c1) w λc2 w=>
 Gd (bK c2 false) (λK=>K TJ w) w λc4 w=>
 Gd (bK c2 false) (λK=>aA pg (aD .gtr 3 aG aG c4 (aOk 8)) w K) w λc5 w=>
 aA pg (cD c2 (.bool true) c5) w λc6 w=>
 bQ c6
  (R (.tuple #[]) w)
  (kn DP NM TJ (aOk 0) w)
def B9 (kn:K0)(R:K1) DP NM TJ w:=
 B8 (lJ kn) R DP NM TJ w
def F8 a0 a1 a2 w(R:K1):=
 B9 (λw=>R (.tuple #[]) w) R a0 a1 a2 w
theorem J1 {a0 a1 a2 w R}(h:F8 a0 a1 a2 w R):aK pg bA #[a0,a1,a2] w R:=
 lB (ann:=AN) Tryz.f28 zY [a0,a1,a2] Nk 37 TryzM.mixed Tryz.func28 (bZ 2 (Lk (AK (lJ (λw=>R (.tuple #[]) w)) 0 1 17 18) h (λg w h=>aE (qM 0 (Is _ g w (λw=>R (.tuple #[]) w) cO h))) cO))
def Qd:FA:=⟨eH,λi=> .leaf ([],[]) []⟩
def SP:List ResultVar:=[.tmp 2]
noncomputable def Of:Code:=aY Tryz.f29
def F9 (R:K1) DP w:=
 aA pg (aD .eql 60 (.tmp 3) (.const (.pointer none)) DP (.pointer none)) w λb4 w=>
 bQ b4
  (R (.slice none 0 0) w)
  (aA pg (dQ DP) w λb6 w=>
  aA pg (aJ 77 b6 0) w λb7 w=>
  aA pg (aH 22 b7) w λb8 w=>
  aK pg gB #[b8] w λb9 w=>
  R b9 w)
def Kl a0 w(R:K1):=
 F9 R a0 w
theorem Oo{a0 w R}(h:Kl a0 w R):aK pg eH #[a0] w R:=
 lB (ann:=Qd) Tryz.f29 Of [a0] SP 10 TryzM.mixed Tryz.func29 (lT h cO)
def Zn:FA:=⟨xV,λi=> .leaf ([],[]) []⟩
def aeY:List ResultVar:=[.tmp 2]
noncomputable def Xs:Code:=aY Tryz.f30
def Ps(R:K1) jC w:=
 aA pg (A0 22 jC) w λDR w=>
 aA pg (aH 22 DR) w λb3 w=>
 aA pg (dD .len #[22] 3 [b3]) w λb4 w=>
 aA pg (aD .gtr 3 aG aG b4 (aOk 0)) w λb5 w=>
 Gd (bK b5 true) (λK=>aA pg (aH 22 DR) w K) w λb7 w=>
 Gd (bK b5 true) (λK=>aA pg (ajB (.func 43) [] [DR]) w K) w λb8 w=>
 Gd (bK b5 true) (λK=>aK pg mZ #[b7,b8] w K) w λb9 w=>
 Gd (bK b5 true) (λK=>aA pg (sUn .not b9) w K) w λc0 w=>
 aA pg (cD b5 c0 (.bool false)) w λc1 w=>
 R c1 w
def XG a0 w(R:K1):=
 Ps R a0 w
theorem XH{a0 w R}(h:XG a0 w R):aK pg xV #[a0] w R:=
 lB (ann:=Zn) Tryz.f30 Xs [a0] aeY 12 TryzM.mixed Tryz.func30 (lT h cO)
def CC:FA:=⟨Ba,λi=>match Nat.beq i 3 with|true=> .leaf ([3],[]) (fz 3 (ft [] (fz 1 [])))|false=>match Nat.beq i 16 with|true=> .leaf ([3],[]) (fz 3 (ft [] (fz 1 [])))|false=>match Nat.beq i 19 with|true=> .leaf ([3],[]) (fz 3 (ft [] (fz 1 [])))|false=>match Nat.beq i 20 with|true=> .leaf ([2,3,6],[(2,4),(3,4)]) (fz 2 (ft [] (ft [] (fu [0,1] (fz 1 (ft [] (fz 1 [])))))))|false=> .leaf ([],[]) []⟩
def aaU:List ResultVar:=[.tmp 10,.cell 11 45,.tmp 12]
noncomputable def BA:Code:=aY Tryz.f31
def zI(R:K1) jC b2 JV c1 Wk kG B4 w:=
 aA pg (bP 22 jC (some B4) (some b2) none) w λm0 w=>
 aA pg (dD .append #[22,22] 22 [kG,m0]) w λm1 w=>
 aK pg yY #[m1] w λm4 w=>
 aA pg (aV m4 0) w λm5 w=>
 aA pg (aV m4 1) w λm6 w=>
 aA pg (aD .neq 24 (.tmp 87) (.const (aOk 0)) m6 (aOk 0)) w λm8 w=>
 bQ m8
  (aA pg (aH 45 JV) (dr w) λm9 w_=>w_=(dr w)/\
  (dr w)=(dr w)/\
  (dr w)=(dr w)/\
  aA pg (aM 45 c1 m9) (dr w) λ_u3 aA6=>
  aA6=aA6/\
  vU pg 45 c1 aA6 λr1=>R (.tuple #[(.slice none 0 0),r1,m6]) aA6)
  (aK pg wU #[Wk] w λn3 w=>
  aA pg (aV n3 0) w λn4 w=>
  aA pg (aV n3 1) w λn5 w=>
  aA pg (aD .neq 24 (.tmp 96) (.const (aOk 0)) n5 (aOk 0)) w λn7 w=>
  bQ n7
   (aA pg (aH 45 JV) (dr w) λn8 w_=>w_=(dr w)/\
   (dr w)=(dr w)/\
   (dr w)=(dr w)/\
   aA pg (aM 45 c1 n8) (dr w) λ_u3 aA8=>
   aA8=aA8/\
   vU pg 45 c1 aA8 λr1=>R (.tuple #[(.slice none 0 0),r1,n5]) aA8)
   ((dr w)=(dr w)/\
   (dr w)=(dr w)/\
   aA pg (bT 137 2 [(0,m5),(1,n4)]) (dr w) λo2 aHs=>
   aK pg pH #[o2] aHs λo3 awA=>
   aA pg (aH 45 JV) awA λo4 w_=>w_=awA/\
   (dR pg (aH 45 JV) o4 aHs/\dR pg (aH 45 JV) o4 (dr w)/\True)/\
   awA=awA/\
   aA pg (aM 45 c1 o4) awA λ_u6 aA9=>
   aA9=aA9/\
   vU pg 45 c1 aA9 λr1=>R (.tuple #[o3,r1,(aOk 0)]) aA9))
def sI(kn:Zg)(k0:K7) jC b2 JV c1 Wk kG B4 e6 e7 e8 w:=
 aA pg (aD .lss 3 aG aG e8 e7) w λe9 w=>
 bQ e9
  (aA pg (aO 80 e6 e8) w λf1 w=>
  aA pg (aH 84 f1) w λf2 w=>
  aA pg (bG 84) w λaCt w=>
  aA pg (aM 84 aCt f2) w λ_u w=>
  aA pg (aJ 84 aCt 0) w λf7 w=>
  aA pg (aH 38 f7) w λf8 w=>
  aA pg (cH 38 3 f8) w λf9 w=>
  aA pg (aD .add 3 aG aG B4 f9) w λi0 w=>
  aA pg (bP 22 jC (some B4) (some i0) none) w λi1 w=>
  aA pg (dD .append #[22,22] 22 [kG,i1]) w λi2 w=>
  aA pg (aJ 84 aCt 0) w λi4 w=>
  aA pg (aH 38 i4) w λi5 w=>
  aA pg (cH 38 3 i5) w λi6 w=>
  aA pg (aJ 84 aCt 1) w λi7 w=>
  aA pg (aH 38 i7) w λi8 w=>
  aA pg (cH 38 3 i8) w λi9 w=>
  aA pg (aD .add 3 aG aG i6 i9) w λj0 w=>
  aA pg (aD .add 3 aG aG B4 j0) w λj1 w=>
  aA pg (aH 45 JV) w λj5 w=>
  aA pg (aJ 84 aCt 0) w λj6 w=>
  aA pg (aH 38 j6) w λj7 w=>
  aA pg (aJ 84 aCt 2) w λj8 w=>
  aA pg (aH 38 j8) w λj9 w=>
  aK pg Cn #[j5,j7,j9] w λl0 w=>
  aA pg (aV l0 0) w λl1 w=>
  aA pg (aV l0 1) w λl2 w=>
  aA pg (aO 80 Wk e8) w λl3 w=>
  aA pg (aJ 84 l3 2) w λl4 w=>
  aA pg (aM 38 l4 l1) w λ_u w=>
  aA pg (aM 45 JV l2) w λ_u w=>
  aA pg (aD .add 3 aG aG e8 (aOk 1)) w λl5 w=>
  kn jC b2 JV c1 Wk i2 j1 e6 e7 l5 w)
  (k0 jC b2 JV c1 Wk kG B4 w)
def zJ(k0:K7) jC b2 JV c1 Wk kG B4 e6 e7 e8 w:=
 aX (λ(X:(aOj×aOj×aOj)->K0) (t:aOj×aOj×aOj) (w:aOi)=>sI (λ_ _ _ _ _ kG B4 _ _ e8 w=>X (kG,B4,e8) w) k0 jC b2 JV c1 Wk t.1 t.2.1 e6 e7 t.2.2 w) (kG,B4,e8) w
theorem Ud(k0:K7)(h0:E7 Q k0 0 0 2 9 11 13 16 17)(h:zJ k0 (g 0) (g 2) (g 9) (g 11) (g 13) (g 16) (g 17) (g 36) (g 37) (g 38) w):cP pg CC (bI (aI 1 (aQ 1 (aI 5 BA)))) Q g w:=by
 refine AL (λg:Env=>(g 16,g 17,g 38)) (λX t w=>sI (λ_ _ _ _ _ kG B4 _ _ e8 w=>X (kG,B4,e8) w) k0 (g 0) (g 2) (g 9) (g 11) (g 13) t.1 t.2.1 (g 36) (g 37) t.2.2 w) h (λX g1 w1 ha hL=> ?_)
 rw[<-cI 0 ha,<-cI 2 ha,<-cI 9 ha,<-cI 11 ha,<-cI 13 ha,<-cI 36 ha,<-cI 37 ha]at hL
 exact(zK [(0,(JW k0 0 2 9 11 13 16 17))] (kr:=no) (Xc (λ_ _ _ _ _ kG B4 _ _ e8 w=>X (kG,B4,e8) w) 0 2 9 11 13 16 17 36 37 38) hL cO DN ⟨h0,trivial⟩)
def MN(kn:Zg) jC b2 JV c1 Wk kG B4 w:=
 aA pg (dD .len #[80] 3 [Wk]) w λe7 w=>
 kn jC b2 JV c1 Wk kG B4 Wk e7 (aOk 0) w
def Ep(kn:K7) jC b2 JV c1 Wk kG B4 w:=
 MN (zJ kn) jC b2 JV c1 Wk kG B4 w
def Er(R:K1) jC b2 JV c1 Wk kG B4 w:=
 Ep (zI R) jC b2 JV c1 Wk kG B4 w
theorem Ue(kn:K7)(hn:N7 Q kn 0 2 9 11 13 16 17)(h:Ep kn (g 0) (g 2) (g 9) (g 11) (g 13) (g 16) (g 17) w):cP pg CC (aQ 1 (aI 5 BA)) Q g w:=
 bZ 1 (eL (Xc (zJ kn) 0 2 9 11 13 16 17 36 37 38) h (λg w h=>aE (qM 0 (Ud _ g w kn hn h))))
def MO(kn:K7)(R:K1) jC eP b2 bB r_4 w:=
 aA pg (A0 45 r_4) w λJV w=>
 aA pg (bG 45) w λc1 w=>
 aK pg Cs #[jC,eP,b2,bB] w λd7 w=>
 aA pg (aV d7 0) w λd8 w=>
 aA pg (aV d7 1) w λd9 w=>
 aA pg (aV d7 2) w λe0 w=>
 aA pg (aD .neq 24 (.tmp 31) (.const (aOk 0)) e0 (aOk 0)) w λe2 w=>
 bQ e2
  (aA pg (aH 45 JV) (dr w) λe3 w_=>w_=(dr w)/\
  (dr w)=(dr w)/\
  (dr w)=(dr w)/\
  aA pg (aM 45 c1 e3) (dr w) λ_u3 WV=>
  WV=WV/\
  vU pg 45 c1 WV λr1=>R (.tuple #[(.slice none 0 0),r1,e0]) WV)
  (kn jC b2 JV c1 d8 (.slice none 0 0) eP w)
def MP(R:K1) jC eP b2 bB r_4 w:=
 MO (Er R) R jC eP b2 bB r_4 w
def U0 a0 a1 a2 a3 a4 w(R:K1):=
 MP R a0 a1 a2 a3 a4 w
theorem Wa{a0 a1 a2 a3 a4 w R}(h:U0 a0 a1 a2 a3 a4 w R):aK pg Ba #[a0,a1,a2,a3,a4] w R:=
 lB (ann:=CC) Tryz.f31 BA [a0,a1,a2,a3,a4] aaU 105 TryzM.mixed Tryz.func31 (bZ 5 (Lk (JW (Er R) 0 2 9 11 13 16 17) h (λg w h=>aE (bZ 1 (Ue _ g w (zI R) (λg w h=>aE (lT h cO)) h))) cO))
def Rc:FA:=⟨sZ,λi=> .leaf ([],[]) []⟩
def UB:List ResultVar:=[.tmp 2,.tmp 3]
noncomputable def Qr:Code:=aY Tryz.f32
def rG(R:K1) n_4 w:=
 aK pg eY #[] w λe5 w=>
 aA pg (cH 3 32 n_4) w λe8 w=>
 aK pg bA #[e5,e8,(aOk 3)] w λe9 w=>
 aK pg eH #[e5] w λf1 w=>
 R (.tuple #[f1,(aOk 0)]) w
def He(kn:K1)(R:K1) fU w:=
 aA pg (A0 65 fU) w λNM w=>
 aA pg (aJ 65 NM 1) w λb6 w=>
 aA pg (aH 3 b6) w λb7 w=>
 aA pg (aD .lss 3 aG aG b7 (aOk 0)) w λb8 w=>
 Gd (bK b8 false) (λK=>aA pg (aJ 65 NM 1) w K) w λc0 w=>
 Gd (bK b8 false) (λK=>aA pg (aH 3 c0) w K) w λc1 w=>
 Gd (bK b8 false) (λK=>aA pg (aD .gtr 3 aG aG c1 (aOk 2)) w K) w λc2 w=>
 aA pg (cD b8 (.bool true) c2) w λc3 w=>
 Gd (bK c3 false) (λK=>aA pg (aJ 65 NM 2) w K) w λc5 w=>
 Gd (bK c3 false) (λK=>aA pg (aH 3 c5) w K) w λc6 w=>
 Gd (bK c3 false) (λK=>aA pg (aD .lss 3 aG aG c6 (aOk 0)) w K) w λc7 w=>
 aA pg (cD c3 (.bool true) c7) w λc8 w=>
 Gd (bK c8 false) (λK=>aA pg (aJ 65 NM 2) w K) w λd0 w=>
 Gd (bK c8 false) (λK=>aA pg (aH 3 d0) w K) w λd1 w=>
 Gd (bK c8 false) (λK=>aA pg (aD .geq 3 aG aG d1 (aOk 2097152)) w K) w λd2 w=>
 aA pg (cD c8 (.bool true) d2) w λd3 w=>
 bQ d3
  (R (.tuple #[(.slice none 0 0),(aOk 1)]) w)
  (aA pg (aJ 65 NM 2) w λd4 w=>
  aA pg (aH 3 d4) w λd5 w=>
  aA pg (aD .shl 3 aG aG d5 (.int .u64 3)) w λd6 w=>
  aA pg (aJ 65 NM 1) w λd7 w=>
  aA pg (aH 3 d7) w λd8 w=>
  aA pg (aD .shl 3 aG aG d8 (.int .u64 1)) w λd9 w=>
  aA pg (aD .or 3 aG aG d6 d9) w λe0 w=>
  aA pg (aJ 65 NM 0) w λe1 w=>
  aA pg (aH 4 e1) w λe2 w=>
  bQ e2
   (aA pg (aD .or 3 aG aG e0 (aOk 1)) w λe4 w=>
   kn e4 w)
   (kn e0 w))
def Hf(R:K1) fU w:=
 He (rG R) R fU w
def MU a0 w(R:K1):=
 Hf R a0 w
theorem QE{a0 w R}(h:MU a0 w R):aK pg sZ #[a0] w R:=
 lB (ann:=Rc) Tryz.f32 Qr [a0] UB 42 TryzM.mixed Tryz.func32 (bZ 4 (Lk (TR (rG R) 4) h (λg w h=>aE (lT h cO)) cO))
def arX:FA:=⟨TD,λi=> .leaf ([],[]) []⟩
def azF:List ResultVar:=[.tmp 0]
noncomputable def aoE:Code:=aY Tryz.f33
def ajT(R:K1) w:=
 aA pg (aD .add 32 aG aG (.int .u64 11400714785074694791) (.int .u64 14029467366897019727)) w λb3 w=>
 aA pg (sUn .neg (.int .u64 11400714785074694791)) w λb5 w=>
 aA pg (bH 90 [(0,b3),(1,(.int .u64 14029467366897019727)),(2,(.int .u64 0)),(3,b5)]) w λb6 w=>
 aA pg (bH 93 [(0,b6)]) w λb7 w=>
 aA pg (A0 93 b7) w λb8 w=>
 R b8 w
def aBe w(R:K1):=
 ajT R w
theorem aqX{w R}(h:aBe w R):aK pg TD #[] w R:=
 lB (ann:=arX) Tryz.f33 aoE [] azF 9 TryzM.mixed Tryz.func33 (lT h cO)
def tF:FA:=⟨zA,λi=>match Nat.beq i 3 with|true=> .leaf ([9],[]) (fz 9 (ft [] (fz 1 [])))|false=>match Nat.beq i 10 with|true=> .leaf ([17,18,22],[(4,17),(5,17),(6,17),(7,17),(17,19),(17,20),(18,19),(18,20)]) (fz 17 (ft [9,10,11,12] (ft [] (fu [0,1] (fu [1,2] (fz 1 (ft [] [])))))))|false=> .leaf ([],[]) []⟩
def YT:List ResultVar:=[]
noncomputable def rE:Code:=aY Tryz.f34
def qI(kn:K2) uU DR w:=
 aA pg (dQ uU) w λl4 w=>
 aA pg (aJ 93 l4 2) w λl5 w=>
 aA pg (aM 3 l5 (aOk 0)) w λ_u w=>
 kn uU DR w
def xP(kn:K3)(k2:K2) uU DR f7 w:=
 aA pg (aD .lss 3 aG aG f7 (aOk 4)) w λf8 w=>
 bQ f8
  ((dr w)=(dr w)/\
  (dr w)=(dr w)/\
  (dr w)=(dr w)/\
  (dr w)=(dr w)/\
  aA pg (dQ uU) (dr w) λi4 w_=>w_=(dr w)/\
  aA pg (aJ 93 i4 0) (dr w) λi5 w_=>w_=(dr w)/\
  aA pg (aO 90 i5 f7) (dr w) λi6 w_=>w_=(dr w)/\
  aA pg (aH 32 i6) (dr w) λi7 w_=>w_=(dr w)/\
  (dr w)=(dr w)/\
  aA pg (dQ uU) (dr w) λi9 w_=>w_=(dr w)/\
  aA pg (aJ 93 i9 1) (dr w) λj0 w_=>w_=(dr w)/\
  (dr w)=(dr w)/\
  aA pg (aD .mul 3 aG aG (aOk 8) f7) (dr w) λj2 w_=>w_=(dr w)/\
  (dr w)=(dr w)/\
  aA pg (aD .mul 3 aG aG (aOk 8) f7) (dr w) λj4 w_=>w_=(dr w)/\
  aA pg (aD .add 3 aG aG j4 (aOk 8)) (dr w) λj5 w_=>w_=(dr w)/\
  aA pg (bP 91 j0 (some j2) (some j5) none) (dr w) λj6 w_=>w_=(dr w)/\
  aK pg zB #[j6] (dr w) λj7 WT=>
  (dR pg (aH 32 i6) i7 WT/\dR pg (aO 90 i5 f7) i6 WT/\dR pg (aJ 93 i4 0) i5 WT/\dR pg (dQ uU) i4 WT/\True)/\
  aK pg B2 #[i7,j7] WT λj8 WU=>
  aA pg (dQ uU) WU λj9 w_=>w_=WU/\
  (dR pg (dQ uU) j9 WT/\dR pg (dQ uU) j9 (dr w)/\True)/\
  aA pg (aJ 93 j9 0) WU λl0 w_=>w_=WU/\
  (dR pg (aJ 93 j9 0) l0 WT/\dR pg (aJ 93 j9 0) l0 (dr w)/\True)/\
  aA pg (aO 90 l0 f7) WU λl1 w_=>w_=WU/\
  aA pg (aM 32 l1 j8) WU λ_u22 aIN=>
  aA pg (aD .add 3 aG aG f7 (aOk 1)) aIN λl2 w=>
  kn uU DR l2 w)
  (k2 uU DR w)
def qJ(k2:K2) uU DR f7 w:=
 aX (λ(X:aOj->K0) (t:aOj) (w:aOi)=>xP (λ_ _ f7 w=>X f7 w) k2 uU DR t w) f7 w
theorem Tz(k2:K2)(h2:E2 Q k2 2 0 1)(h:qJ k2 (g 0) (g 1) (g 47) w):cP pg tF (bI (aI 1 (aQ 1 (cT (aI 4 (bI (aI 1 (bI (bI (aI 2 rE)))))))))) Q g w:=by
 refine AL (λg:Env=>g 47) (λX t w=>xP (λ_ _ f7 w=>X f7 w) k2 (g 0) (g 1) t w) h (λX g1 w1 ha hL=> ?_)
 rw[<-cI 0 ha,<-cI 1 ha]at hL
 exact(zK [(2,(Kf k2 0 1))] (kr:=no) (TE (λ_ _ f7 w=>X f7 w) 0 1 47) hL cO DN ⟨h2,trivial⟩)
def KO(kn:K3) uU DR w:=
 kn uU DR (aOk 0) w
def xQ(kn:K2) uU DR w:=
 KO (qJ kn) uU DR w
def xR(kn:K2) uU DR w:=
 xQ (qI kn) uU DR w
theorem TA(kn:K2)(hn:N2 Q kn 0 1)(h:xQ kn (g 0) (g 1) w):cP pg tF (aQ 1 (cT (aI 4 (bI (aI 1 (bI (bI (aI 2 rE)))))))) Q g w:=
 bZ 1 (eL (TE (qJ kn) 0 1 47) h (λg w h=>aE (qM 2 (Tz _ g w kn hn h))))
def xS(kn:K2) uU DR w:=
 kn uU DR w
def qK(kn:K2) uU DR f6 w:=
 bQ f6 (xR kn uU DR w) (xS kn uU DR w)
def uQ(kn:K3) uU DR w:=
 (dr w)=(dr w)/\
 aA pg (dQ uU) (dr w) λd2 w_=>w_=(dr w)/\
 aA pg (aJ 93 d2 1) (dr w) λd3 w_=>w_=(dr w)/\
 (dr w)=(dr w)/\
 aA pg (dQ uU) (dr w) λd5 w_=>w_=(dr w)/\
 aA pg (aJ 93 d5 2) (dr w) λd6 w_=>w_=(dr w)/\
 aA pg (aH 3 d6) (dr w) λd7 w_=>w_=(dr w)/\
 aA pg (bP 91 d3 (some d7) none none) (dr w) λd8 w_=>w_=(dr w)/\
 (dr w)=(dr w)/\
 aA pg (dD .copy #[22,22] 3 [d8,DR]) (dr w) λe0 aIR=>
 aIR=aIR/\
 aA pg (dQ uU) aIR λe2 w=>
 aA pg (aJ 93 e2 2) w λe3 w=>
 aA pg (aH 3 e3) w λe4 w=>
 aA pg (aD .add 3 aG aG e4 e0) w λe6 w=>
 aA pg (dQ uU) w λe7 w=>
 aA pg (aJ 93 e7 2) w λe8 w=>
 aA pg (aM 3 e8 e6) w λ_u w=>
 aA pg (bP 22 DR (some e0) none none) w λf1 w=>
 aA pg (dQ uU) w λf3 w=>
 aA pg (aJ 93 f3 2) w λf4 w=>
 aA pg (aH 3 f4) w λf5 w=>
 aA pg (aD .eql 3 (.tmp 45) (.const (aOk 32)) f5 (aOk 32)) w λf6 w=>
 kn uU f1 f6 w
def fP(kn:K2) uU DR w:=
 uQ (qK kn) uU DR w
def uR(kn:K2)(k0:K0) uU DR w:=
 aA pg (dD .len #[22] 3 [DR]) w λc9 w=>
 aA pg (aD .gtr 3 aG aG c9 (aOk 0)) w λd0 w=>
 bQ d0
  (kn uU DR w)
  (k0 w)
def nS(kn:K2)(k0:K0) uU DR w:=
 uR (fP kn) k0 uU DR w
def kM(k0:K0) uU DR w:=
 aX (λ(X:aOj->K0) (t:aOj) (w:aOi)=>nS (λ_ DR w=>X DR w) k0 uU t w) DR w
theorem Q3 (k0:K0)(h0:E0 Q k0 0)(h:kM k0 (g 0) (g 1) w):cP pg tF (bI (aI 2 rE)) Q g w:=by
 refine AL (λg:Env=>g 1) (λX t w=>nS (λ_ DR w=>X DR w) k0 (g 0) t w) h (λX g1 w1 ha hL=> ?_)
 rw[<-cI 0 ha]at hL
 exact(bZ 1 (zK [(0,(Mq0 k0))] (kr:=no) (Kf (fP (λ_ DR w=>X DR w)) 0 1) hL (λg w h=>aE (qM 1 (bZ 4 (eL (TE (qK (λ_ DR w=>X DR w)) 0 1 46) h (λg w h=>aE (cdD (.tmp 46) (λh=>(bZ 1 (TA _ g w (qI (λ_ DR w=>X DR w)) (λg w h=>aE (eL (Kf (λ_ DR w=>X DR w) 0 1) h cO)) h))) (λh=>(eL (Kf (λ_ DR w=>X DR w) 0 1) h cO)) h)))))) DN ⟨h0,trivial⟩))
def JS(kn:K2)(R:K1) uU DR w:=
 aA pg (aD .eql 68 (.tmp 6) (.const (.pointer none)) uU (.pointer none)) w λb7 w=>
 bQ b7
  (R (.tuple #[]) w)
  (aA pg (dQ uU) w λb9 w=>
  aA pg (aJ 93 b9 3) w λc0 w=>
  aA pg (aH 32 c0) w λc1 w=>
  aA pg (dD .len #[22] 3 [DR]) w λc3 w=>
  aA pg (cH 3 32 c3) w λc4 w=>
  aA pg (aD .add 32 aG aG c1 c4) w λc5 w=>
  aA pg (dQ uU) w λc6 w=>
  aA pg (aJ 93 c6 3) w λc7 w=>
  aA pg (aM 32 c7 c5) w λ_u w=>
  kn uU DR w)
def JT(kn:K0)(R:K1) uU DR w:=
 JS (kM kn) R uU DR w
def Ty a0 a1 w(R:K1):=
 JT (λw=>R (.tuple #[]) w) R a0 a1 w
theorem UP{a0 a1 w R}(h:Ty a0 a1 w R):aK pg zA #[a0,a1] w R:=
 lB (ann:=tF) Tryz.f34 rE [a0,a1] YT 76 TryzM.mixed Tryz.func34 (bZ 2 (Lk (Kf (kM (λw=>R (.tuple #[]) w)) 0 1) h (λg w h=>aE (qM 0 (Q3 _ g w (λw=>R (.tuple #[]) w) cO h))) cO))
def rZ:FA:=⟨Cy,λi=>match Nat.beq i 3 with|true=> .leaf ([1],[(1,3),(1,4),(1,5)]) (fz 1 (ft [] (fz 1 (fu [1] (fu [2] (fu [3] (fz 2 [])))))))|false=>match Nat.beq i 4 with|true=> .leaf ([],[]) (fz 9 [])|false=> .leaf ([],[]) []⟩
def afG:List ResultVar:=[.tmp 2]
noncomputable def pR:Code:=aY Tryz.f35
def lO(R:K1) oK w:=
 aA pg (aD .shr 32 aG aG oK (.int .u64 33)) w λj9 w=>
 aA pg (aD .xor 32 aG aG oK j9) w λl0 w=>
 aA pg (aD .mul 32 aG aG l0 (.int .u64 14029467366897019727)) w λl1 w=>
 aA pg (aD .shr 32 aG aG l1 (.int .u64 29)) w λl4 w=>
 aA pg (aD .xor 32 aG aG l1 l4) w λl5 w=>
 aA pg (aD .mul 32 aG aG l5 (.int .u64 1609587929392839161)) w λl6 w=>
 aA pg (aD .shr 32 aG aG l6 (.int .u64 32)) w λl9 w=>
 aA pg (aD .xor 32 aG aG l6 l9) w λm0 w=>
 R m0 w
def Bu(kn:K4)(k2:K1) oK i3 i4 i5 w:=
 aA pg (aD .lss 3 aG aG i5 i4) w λi6 w=>
 bQ i6
  (aA pg (aO 22 i3 i5) w λi7 w=>
  aA pg (aH 5 i7) w λi8 w=>
  aA pg (cH 5 32 i8) w λj1 w=>
  aA pg (aD .mul 32 aG aG j1 (.int .u64 2870177450012600261)) w λj2 w=>
  aA pg (aD .xor 32 aG aG oK j2) w λj3 w=>
  aK pg dG #[j3,(aOk 11)] w λj4 w=>
  aA pg (aD .mul 32 aG aG j4 (.int .u64 11400714785074694791)) w λj5 w=>
  aA pg (aD .add 3 aG aG i5 (aOk 1)) w λj6 w=>
  kn j5 i3 i4 j6 w)
  (k2 oK w)
def gX(k2:K1) oK i3 i4 i5 w:=
 aX (λ(X:(aOj×aOj)->K0) (t:aOj×aOj) (w:aOi)=>Bu (λoK _ _ i5 w=>X (oK,i5) w) k2 t.1 i3 i4 t.2 w) (oK,i5) w
theorem W0 (k2:K1)(h2:E1 Q k2 2 3)(h:gX k2 (g 3) (g 53) (g 54) (g 55) w):cP pg rZ (bI (aI 1 (aQ 1 (aI 1 (aI 1 (aI 4 pR)))))) Q g w:=by
 refine AL (λg:Env=>(g 3,g 55)) (λX t w=>Bu (λoK _ _ i5 w=>X (oK,i5) w) k2 t.1 (g 53) (g 54) t.2 w) h (λX g1 w1 ha hL=> ?_)
 rw[<-cI 53 ha,<-cI 54 ha]at hL
 exact(zK [(2,(TR k2 3))] (kr:=no) (AK (λoK _ _ i5 w=>X (oK,i5) w) 3 53 54 55) hL cO DN ⟨h2,trivial⟩)
def pC(kn:K4) oK Zh w:=
 aA pg (dD .len #[22] 3 [Zh]) w λi4 w=>
 kn oK Zh i4 (aOk 0) w
def lP(kn:K1) oK Zh w:=
 pC (gX kn) oK Zh w
def jT(R:K1) oK Zh w:=
 lP (lO R) oK Zh w
theorem W4 (kn:K1)(hn:N1 Q kn 3)(h:lP kn (g 3) (g 4) w):cP pg rZ (aQ 1 (aI 1 (aI 1 (aI 4 pR)))) Q g w:=
 bZ 1 (eL (AK (gX kn) 3 53 54 55) h (λg w h=>aE (qM 2 (W0 _ g w kn hn h))))
def lQ(kn:K2) oK Zh w:=
 aA pg (dD .len #[22] 3 [Zh]) w λf0 w=>
 aA pg (aD .geq 3 aG aG f0 (aOk 4)) w λf1 w=>
 bQ f1
  (aA pg (bP 22 Zh none (some (aOk 4)) none) w λf4 w=>
  aK pg zB #[f4] w λf5 w=>
  aA pg (aD .mul 32 aG aG f5 (.int .u64 11400714785074694791)) w λf6 w=>
  aA pg (aD .xor 32 aG aG oK f6) w λf7 w=>
  aK pg dG #[f7,(aOk 23)] w λf8 w=>
  aA pg (aD .mul 32 aG aG f8 (.int .u64 14029467366897019727)) w λf9 w=>
  aA pg (aD .add 32 aG aG f9 (.int .u64 1609587929392839161)) w λi0 w=>
  aA pg (bP 22 Zh (some (aOk 4)) none none) w λi2 w=>
  kn i0 i2 w)
  (kn oK Zh w)
def jU(R:K1) oK Zh w:=
 lQ (jT R) oK Zh w
def zX(kn:K2)(k0:K2) oK Zh w:=
 aA pg (dD .len #[22] 3 [Zh]) w λd6 w=>
 aA pg (aD .geq 3 aG aG d6 (aOk 8)) w λd7 w=>
 bQ d7
  (aA pg (bP 22 Zh none (some (aOk 8)) none) w λe0 w=>
  aK pg zB #[e0] w λe1 w=>
  aK pg B2 #[(.int .u64 0),e1] w λe2 w=>
  aA pg (aD .xor 32 aG aG oK e2) w λe3 w=>
  aK pg dG #[e3,(aOk 27)] w λe4 w=>
  aA pg (aD .mul 32 aG aG e4 (.int .u64 11400714785074694791)) w λe5 w=>
  aA pg (aD .add 32 aG aG e5 (.int .u64 9650029242287828579)) w λe6 w=>
  aA pg (bP 22 Zh (some (aOk 8)) none none) w λe8 w=>
  kn e6 e8 w)
  (k0 oK Zh w)
def iW(k0:K2) oK Zh w:=
 aX (λ(X:(aOj×aOj)->K0) (t:aOj×aOj) (w:aOi)=>zX (λoK Zh w=>X (oK,Zh) w) k0 t.1 t.2 w) (oK,Zh) w
theorem UN(k0:K2)(h0:E2 Q k0 0 3 4)(h:iW k0 (g 3) (g 4) w):cP pg rZ (bI (aQ 1 (aI 4 pR))) Q g w:=by
 refine AL (λg:Env=>(g 3,g 4)) (λX t w=>zX (λoK Zh w=>X (oK,Zh) w) k0 t.1 t.2 w) h (λX g1 w1 ha hL=> ?_)
 exact(zK [(0,(Kf k0 3 4))] (kr:=no) (Kf (λoK Zh w=>X (oK,Zh) w) 3 4) hL cO DN ⟨h0,trivial⟩)
def iX(R:K1) oK Zh w:=
 iW (jU R) oK Zh w
theorem UO(kn:K2)(hn:N2 Q kn 3 4)(h:iW kn (g 3) (g 4) w):cP pg rZ (aQ 1 (aI 4 pR)) Q g w:=
 qM 0 (UN _ g w kn hn h)
def mW(kn:K2)(R:K1) uU w:=
 aA pg (aD .eql 68 (.tmp 7) (.const (.pointer none)) uU (.pointer none)) w λb8 w=>
 bQ b8
  (aK pg Mc #[(.slice none 0 0)] w λb9 w=>
  R b9 w)
  ((dr w)=(dr w)/\
  aK pg wY #[uU] (dr w) λc1 sT=>
  sT=sT/\
  aA pg (dQ uU) sT λc3 w_=>w_=sT/\
  (dR pg (dQ uU) c3 (dr w)/\True)/\
  aA pg (aJ 93 c3 3) sT λc4 w_=>w_=sT/\
  (dR pg (aJ 93 c3 3) c4 (dr w)/\True)/\
  aA pg (aH 32 c4) sT λc5 w_=>w_=sT/\
  (dR pg (aH 32 c4) c5 (dr w)/\True)/\
  aA pg (aD .add 32 aG aG c1 c5) sT λc6 w_=>w_=sT/\
  sT=sT/\
  (dr sT)=(dr sT)/\
  aA pg (dQ uU) (dr sT) λc8 w_=>w_=(dr sT)/\
  aA pg (aJ 93 c8 1) (dr sT) λc9 w_=>w_=(dr sT)/\
  (dr sT)=(dr sT)/\
  aA pg (dQ uU) (dr sT) λd1 w_=>w_=(dr sT)/\
  aA pg (aJ 93 d1 2) (dr sT) λd2 w_=>w_=(dr sT)/\
  aA pg (aH 3 d2) (dr sT) λd3 w_=>w_=(dr sT)/\
  aA pg (bP 91 c9 none (some d3) none) (dr sT) λd4 w_=>w_=(dr sT)/\
  (dr sT)=(dr sT)/\
  kn c6 d4 (dr sT))
def mX(R:K1) uU w:=
 mW (iX R) R uU w
def Zb a0 w(R:K1):=
 mX R a0 w
theorem Zc{a0 w R}(h:Zb a0 w R):aK pg Cy #[a0] w R:=
 lB (ann:=rZ) Tryz.f35 pR [a0] afG 81 TryzM.mixed Tryz.func35 (bZ 4 (Lk (Kf (iX R) 3 4) h (λg w h=>aE (bZ 1 (UO _ g w (jU R) (λg w h=>aE (bZ 1 (eL (Kf (jT R) 3 4) h (λg w h=>aE (bZ 1 (W4 _ g w (lO R) (λg w h=>aE (lT h cO)) h)))))) h))) cO))
def Q9:FA:=⟨fL,λi=> .leaf ([],[]) []⟩
def Uy:List ResultVar:=[.tmp 2]
noncomputable def Qo:Code:=aY Tryz.f36
def G8 (R:K1) jC w:=
 aK pg gB #[jC] w λb4 w=>
 aA pg (bH 97 [(0,b4)]) w λb5 w=>
 aA pg (A0 97 b5) w λb6 w=>
 R b6 w
def MA a0 w(R:K1):=
 G8 R a0 w
theorem Qu{a0 w R}(h:MA a0 w R):aK pg fL #[a0] w R:=
 lB (ann:=Q9) Tryz.f36 Qo [a0] Uy 7 TryzM.mixed Tryz.func36 (lT h cO)
def NV:FA:=⟨eT,λi=> .leaf ([],[]) []⟩
def QJ:List ResultVar:=[.tmp 2]
noncomputable def Ms:Code:=aY Tryz.f37
def DU(R:K1) QH w:=
 aA pg (aD .eql 54 (.tmp 3) (.const (.pointer none)) QH (.pointer none)) w λb4 w=>
 bQ b4
  (R (aOk 0) w)
  (aA pg (dQ QH) w λb6 w=>
  aA pg (aJ 97 b6 0) w λb7 w=>
  aA pg (aH 22 b7) w λb8 w=>
  aA pg (dD .len #[22] 3 [b8]) w λb9 w=>
  R b9 w)
def Io a0 w(R:K1):=
 DU R a0 w
theorem MC{a0 w R}(h:Io a0 w R):aK pg eT #[a0] w R:=
 lB (ann:=NV) Tryz.f37 Ms [a0] QJ 10 TryzM.mixed Tryz.func37 (lT h cO)
def qL:FA:=⟨cC,λi=> .leaf ([],[]) []⟩
def Nj:List ResultVar:=[.tmp 4]
noncomputable def oN:Code:=aY Tryz.f38
def sD(R:K1) x_5 w:=
 R x_5 w
def sE(kn:K4)(k0:K1) x_5 c8 c9 d0 w:=
 aA pg (aD .lss 3 aG aG d0 c9) w λd1 w=>
 bQ d1
  (aA pg (aO 22 c8 d0) w λd3 w=>
  aA pg (aH 5 d3) w λd4 w=>
  aA pg (cH 5 32 d4) w λd7 w=>
  aA pg (aD .mul 3 aG aG (aOk 8) d0) w λd9 w=>
  aA pg (cH 3 50 d9) w λe0 w=>
  aA pg (aD .shl 32 aG aG d7 e0) w λe1 w=>
  aA pg (aD .or 32 aG aG x_5 e1) w λe2 w=>
  aA pg (aD .add 3 aG aG d0 (aOk 1)) w λe3 w=>
  kn e2 c8 c9 e3 w)
  (k0 x_5 w)
def lI(k0:K1) x_5 c8 c9 d0 w:=
 aX (λ(X:(aOj×aOj)->K0) (t:aOj×aOj) (w:aOi)=>sE (λx_5 _ _ d0 w=>X (x_5,d0) w) k0 t.1 c8 c9 t.2 w) (x_5,d0) w
theorem Ip(k0:K1)(h0:E1 Q k0 0 5)(h:lI k0 (g 5) (g 18) (g 19) (g 20) w):cP pg qL (bI (aI 1 (aQ 1 (aI 3 oN)))) Q g w:=by
 refine AL (λg:Env=>(g 5,g 20)) (λX t w=>sE (λx_5 _ _ d0 w=>X (x_5,d0) w) k0 t.1 (g 18) (g 19) t.2 w) h (λX g1 w1 ha hL=> ?_)
 rw[<-cI 18 ha,<-cI 19 ha]at hL
 exact(zK [(0,(TR k0 5))] (kr:=no) (AK (λx_5 _ _ d0 w=>X (x_5,d0) w) 5 18 19 20) hL cO DN ⟨h0,trivial⟩)
def B5 (kn:K4) QH KE x_5 w:=
 aA pg (aD .geq 3 aG aG KE (aOk 1)) w λc3 w=>
 Gd (bK c3 true) (λK=>K KE w) w λc5 w=>
 Gd (bK c3 true) (λK=>aA pg (aD .leq 3 aG aG c5 (aOk 8)) w K) w λc6 w=>
 aA pg (cD c3 c6 (.bool false)) w λc7 w=>
 aK pg kT #[QH,KE,c7] w λc8 w=>
 aA pg (dD .len #[22] 3 [c8]) w λc9 w=>
 kn x_5 c8 c9 (aOk 0) w
def sF(kn:K1) QH KE x_5 w:=
 B5 (lI kn) QH KE x_5 w
def sG(R:K1) QH KE x_5 w:=
 sF (sD R) QH KE x_5 w
theorem Iq(kn:K1)(hn:N1 Q kn 5)(h:sF kn (g 0) (g 1) (g 5) w):cP pg qL (aQ 1 (aI 3 oN)) Q g w:=
 bZ 1 (eL (AK (lI kn) 5 18 19 20) h (λg w h=>aE (qM 0 (Ip _ g w kn hn h))))
def B6 (kn:K3)(R:K1) QH KE w:=
 aA pg (aD .eql 54 (.tmp 8) (.const (.pointer none)) QH (.pointer none)) w λb9 w=>
 bQ b9
  (R (.int .u64 0) w)
  (kn QH KE (.int .u64 0) w)
def B7 (R:K1) QH KE w:=
 B6 (sG R) R QH KE w
def F7 a0 a1 w(R:K1):=
 B7 R a0 a1 w
theorem J0 {a0 a1 w R}(h:F7 a0 a1 w R):aK pg cC #[a0,a1] w R:=
 lB (ann:=qL) Tryz.f38 oN [a0,a1] Nj 35 TryzM.mixed Tryz.func38 (bZ 3 (Lk (TE (sG R) 0 1 5) h (λg w h=>aE (bZ 1 (Iq _ g w (sD R) (λg w h=>aE (lT h cO)) h))) cO))
def Qc:FA:=⟨cU,λi=> .leaf ([],[]) []⟩
def SO:List ResultVar:=[.tmp 2]
noncomputable def Oe:Code:=aY Tryz.f39
def F6 (R:K1) QH w:=
 aA pg (aD .eql 54 (.tmp 3) (.const (.pointer none)) QH (.pointer none)) w λb4 w=>
 bQ b4
  (R (aOk 1) w)
  (aA pg (dQ QH) w λb6 w=>
  aA pg (aJ 97 b6 1) w λb7 w=>
  aA pg (aH 24 b7) w λb8 w=>
  R b8 w)
def Kk a0 w(R:K1):=
 F6 R a0 w
theorem On{a0 w R}(h:Kk a0 w R):aK pg cU #[a0] w R:=
 lB (ann:=Qc) Tryz.f39 Oe [a0] SO 9 TryzM.mixed Tryz.func39 (lT h cO)
def tD:FA:=⟨pE,λi=>match Nat.beq i 1 with|true=> .leaf ([8,9],[(1,8),(2,8),(3,8)]) (fz 8 (ft [4,5,6] (ft [] (fz 1 []))))|false=>match Nat.beq i 6 with|true=> .leaf ([],[]) (fz 27 [])|false=> .leaf ([],[]) []⟩
def wG:List ResultVar:=[.tmp 2]
noncomputable def sB:Code:=aY Tryz.f40
def gJ(R:K1) lU B3 w:=
 aA pg (dQ lU) w λp1 w=>
 aA pg (aJ 56 p1 3) w λp2 w=>
 aA pg (aH 22 p2) w λp3 w=>
 aA pg (dD .append #[22,22] 22 [p3,B3]) w λp5 w=>
 aA pg (dQ lU) w λp6 w=>
 aA pg (aJ 56 p6 3) w λp7 w=>
 aA pg (aM 22 p7 p5) w λ_u w=>
 aA pg (dQ lU) w λp9 w=>
 aA pg (aJ 56 p9 4) w λq0 w=>
 aA pg (aH 3 q0) w λq1 w=>
 aA pg (aD .add 3 aG aG q1 (aOk 1)) w λq2 w=>
 aA pg (dQ lU) w λq3 w=>
 aA pg (aJ 56 q3 4) w λq4 w=>
 aA pg (aM 3 q4 q2) w λ_u w=>
 R (aOk 0) w
def D0 (kn:K2)(R:K1) lU h_4 B3 w:=
 aA pg (aJ 101 h_4 2) w λn1 w=>
 aA pg (aH 4 n1) w λn2 w=>
 Gd (bK n2 true) (λK=>K B3 w) w λn4 w=>
 Gd (bK n2 true) (λK=>aA pg (dD .len #[22] 3 [n4]) w K) w λn5 w=>
 Gd (bK n2 true) (λK=>aA pg (cH 3 32 n5) w K) w λn6 w=>
 Gd (bK n2 true) (λK=>aA pg (aJ 101 h_4 1) w K) w λn7 w=>
 Gd (bK n2 true) (λK=>aA pg (aH 32 n7) w K) w λn8 w=>
 Gd (bK n2 true) (λK=>aA pg (aD .neq 32 (.tmp 96) (.tmp 98) n6 n8) w K) w λn9 w=>
 aA pg (cD n2 n9 (.bool false)) w λo0 w=>
 bQ o0
  (R (aOk 11) w)
  (aA pg (aJ 101 h_4 3) w λo1 w=>
  aA pg (aH 4 o1) w λo2 w=>
  bQ o2
   (aK pg jY #[lU,B3] w λo5 w=>
   aA pg (aD .neq 24 (.tmp 106) (.const (aOk 0)) o5 (aOk 0)) w λo7 w=>
   bQ o7
    (R o5 w)
    (kn lU B3 w))
   (kn lU B3 w))
def kC(R:K1) lU h_4 B3 w:=
 D0 (gJ R) R lU h_4 B3 w
def wA(kn:K4)(k0:K3)(R:K1) lU h_4 g_7 B3 w:=
 aA pg (aH 110 g_7) w λj9 w=>
 aA pg (aJ 101 h_4 0) w λl0 w=>
 aA pg (aH 32 l0) w λl1 w=>
 aK pg pD #[lU,B3,j9,l1] w λl2 w=>
 aA pg (aV l2 0) w λl3 w=>
 aA pg (aV l2 1) w λl4 w=>
 aA pg (aV l2 2) w λl5 w=>
 aA pg (aV l2 3) w λl6 w=>
 aA pg (aM 110 g_7 l4) w λ_u w=>
 aA pg (aD .neq 24 (.tmp 77) (.const (aOk 0)) l6 (aOk 0)) w λl8 w=>
 bQ l8
  (R l6 w)
  (aA pg (aJ 101 h_4 2) w λm0 w=>
  aA pg (aH 4 m0) w λm1 w=>
  Gd (bK m1 true) (λK=>K l3 w) w λm3 w=>
  Gd (bK m1 true) (λK=>aA pg (dD .len #[22] 3 [m3]) w K) w λm4 w=>
  Gd (bK m1 true) (λK=>aA pg (cH 3 32 m4) w K) w λm5 w=>
  Gd (bK m1 true) (λK=>aA pg (aJ 101 h_4 1) w K) w λm6 w=>
  Gd (bK m1 true) (λK=>aA pg (aH 32 m6) w K) w λm7 w=>
  Gd (bK m1 true) (λK=>aA pg (aD .gtr 32 aG aG m5 m7) w K) w λm8 w=>
  aA pg (cD m1 m8 (.bool false)) w λm9 w=>
  bQ m9
   (R (aOk 11) w)
   (bQ l5
    (k0 lU h_4 l3 w)
    (kn lU h_4 g_7 l3 w)))
def nV(k0:K3)(R:K1) lU h_4 g_7 B3 w:=
 aX (λ(X:aOj->K0) (t:aOj) (w:aOi)=>wA (λ_ _ _ B3 w=>X B3 w) k0 R lU h_4 g_7 t w) B3 w
theorem Lg(k0:K3)(R:K1)(h0:E3 Q k0 0 0 4 8)(hr:HR wG R Q)(h:nV k0 R (g 0) (g 4) (g 7) (g 8) w):cP pg tD (bI (aQ 1 (aI 8 (bI (aI 1 sB))))) Q g w:=by
 refine AL (λg:Env=>g 8) (λX t w=>wA (λ_ _ _ B3 w=>X B3 w) k0 R (g 0) (g 4) (g 7) t w) h (λX g1 w1 ha hL=> ?_)
 rw[<-cI 0 ha,<-cI 4 ha,<-cI 7 ha]at hL
 exact(zK [(0,(TE k0 0 4 8))] (AK (λ_ _ _ B3 w=>X B3 w) 0 4 7 8) hL cO hr ⟨h0,trivial⟩)
def kD(R:K1) lU h_4 g_7 B3 w:=
 nV (kC R) R lU h_4 g_7 B3 w
theorem Lh(kn:K3)(R:K1)(hn:N3 Q kn 0 4 8)(hr:HR wG R Q)(h:nV kn R (g 0) (g 4) (g 7) (g 8) w):cP pg tD (aQ 1 (aI 8 (bI (aI 1 sB)))) Q g w:=
 qM 0 (Lg _ g w kn R hn hr h)
def D1 (kn:K4)(R:K1) lU w:=
 (dr w)=(dr w)/\
 aA pg (dQ lU) (dr w) λc2 w_=>w_=(dr w)/\
 aA pg (aJ 56 c2 0) (dr w) λc3 w_=>w_=(dr w)/\
 aA pg (aH 54 c3) (dr w) λc4 w_=>w_=(dr w)/\
 (dr w)=(dr w)/\
 aA pg (dQ lU) (dr w) λc6 w_=>w_=(dr w)/\
 aA pg (aJ 56 c6 0) (dr w) λc7 w_=>w_=(dr w)/\
 aA pg (aH 54 c7) (dr w) λc8 w_=>w_=(dr w)/\
 aK pg eT #[c8] (dr w) λc9 aGT=>
 (dR pg (aH 54 c3) c4 aGT/\dR pg (aJ 56 c2 0) c3 aGT/\dR pg (dQ lU) c2 aGT/\True)/\
 aK pg gI #[c4,c9] aGT λd0 aIQ=>
 aIQ=aIQ/\
 aK pg HI #[d0] aIQ λd3 w=>
 aA pg (aV d3 0) w λd4 w=>
 aA pg (aV d3 1) w λd5 w=>
 aA pg (aV d3 2) w λd6 w=>
 aA pg (bG 101) w λh_4 w=>
 aA pg (aM 101 h_4 d4) w λ_u w=>
 aA pg (aD .neq 24 (.tmp 27) (.const (aOk 0)) d6 (aOk 0)) w λd8 w=>
 bQ d8
  (R d6 w)
  (aA pg (bP 22 d0 (some d5) none none) w λe3 w=>
  aK pg fL #[e3] w λe4 w=>
  aA pg (dQ lU) w λe5 w=>
  aA pg (aJ 56 e5 0) w λe6 w=>
  aA pg (aM 54 e6 e4) w λ_u w=>
  aA pg (aJ 101 h_4 0) (dr w) λe7 w_=>w_=(dr w)/\
  aA pg (aH 32 e7) (dr w) λe8 w_=>w_=(dr w)/\
  (dr w)=(dr w)/\
  aA pg (dQ lU) (dr w) λf0 w_=>w_=(dr w)/\
  aA pg (aJ 56 f0 1) (dr w) λf1 w_=>w_=(dr w)/\
  aA pg (aH 32 f1) (dr w) λf2 w_=>w_=(dr w)/\
  aA pg (aD .gtr 32 aG aG e8 f2) (dr w) λf3 w_=>w_=(dr w)/\
  (dr w)=(dr w)/\
  Gd (bK f3 false) (λK=>aA pg (aJ 101 h_4 2) (dr w) K) (dr w) λf5 w_=>w_=(dr w)/\
  Gd (bK f3 false) (λK=>aA pg (aH 4 f5) (dr w) K) (dr w) λf6 w_=>w_=(dr w)/\
  Gd (bK f3 false) (λK=>K f6 (dr w)) (dr w) λf7 w_=>w_=(dr w)/\
  Gd (bK f7 true) (λK=>aA pg (aJ 101 h_4 1) (dr w) K) (dr w) λf8 w_=>w_=(dr w)/\
  Gd (bK f7 true) (λK=>aA pg (aH 32 f8) (dr w) K) (dr w) λf9 w_=>w_=(dr w)/\
  Gd (bK f7 true) (λK=>K lU (dr w)) (dr w) λi0 w_=>w_=(dr w)/\
  Gd (bK f7 true) (λK=>aA pg (dQ i0) (dr w) K) (dr w) λi1 w_=>w_=(dr w)/\
  Gd (bK f7 true) (λK=>aA pg (aJ 56 i1 2) (dr w) K) (dr w) λi2 w_=>w_=(dr w)/\
  Gd (bK f7 true) (λK=>aA pg (aH 3 i2) (dr w) K) (dr w) λi3 w_=>w_=(dr w)/\
  Gd (bK f7 true) (λK=>K lU (dr w)) (dr w) λi4 w_=>w_=(dr w)/\
  Gd (bK f7 true) (λK=>aA pg (dQ i4) (dr w) K) (dr w) λi5 w_=>w_=(dr w)/\
  Gd (bK f7 true) (λK=>aA pg (aJ 56 i5 3) (dr w) K) (dr w) λi6 w_=>w_=(dr w)/\
  Gd (bK f7 true) (λK=>aA pg (aH 22 i6) (dr w) K) (dr w) λi7 w_=>w_=(dr w)/\
  Gd (bK f7 true) (λK=>aA pg (dD .len #[22] 3 [i7]) (dr w) K) (dr w) λi8 w_=>w_=(dr w)/\
  Gd (bK f7 true) (λK=>aA pg (aD .sub 3 aG aG i3 i8) (dr w) K) (dr w) λi9 w_=>w_=(dr w)/\
  Gd (bK f7 true) (λK=>aA pg (cH 3 32 i9) (dr w) K) (dr w) λj0 w_=>w_=(dr w)/\
  Gd (bK f7 true) (λK=>aA pg (aD .gtr 32 aG aG f9 j0) (dr w) K) (dr w) λj1 w_=>w_=(dr w)/\
  Gd (bK f3 false) (λK=>aA pg (cD f7 j1 (.bool false)) (dr w) K) (dr w) λj2 w_=>w_=(dr w)/\
  aA pg (cD f3 (.bool true) j2) (dr w) λj3 w_=>w_=(dr w)/\
  bQ j3
   (R (aOk 12) (dr w))
   (aK pg oY #[] (dr w) λj4 w=>
   aA pg (bH 110 [(2,j4)]) w λj5 w=>
   aA pg (bG 110) w λg_7 w=>
   aA pg (aM 110 g_7 j5) w λ_u w=>
   kn lU h_4 g_7 (.slice none 0 0) w))
def wB(R:K1) lU w:=
 D1 (kD R) R lU w
def CM(kn:K1) lU w:=
 kn lU w
def CN(R:K1) lU w:=
 CM (wB R) lU w
def Ix a0 w(R:K1):=
 CN R a0 w
theorem MI{a0 w R}(h:Ix a0 w R):aK pg pE #[a0] w R:=
 lB (ann:=tD) Tryz.f40 sB [a0] wG 125 TryzM.mixed Tryz.func40 (bZ 1 (eL (TR (wB R) 0) h (λg w h=>aE (scD (bZ 8 (Lk (AK (kD R) 0 4 7 8) h (λg w h=>aE (bZ 1 (Lh _ g w (kC R) R (λg w h=>aE (bZ 2 (Lk (Kf (gJ R) 0 8) h (λg w h=>aE (lT h cO)) cO))) cO h))) cO))))))
def Qe:FA:=⟨rA,λi=> .leaf ([],[]) []⟩
def SQ:List ResultVar:=[.tmp 2]
noncomputable def Og:Code:=aY Tryz.f41
def Ga(R:K1) lU w:=
 aA pg (dQ lU) w λb5 w=>
 aA pg (aJ 56 b5 0) w λb6 w=>
 aA pg (aH 54 b6) w λb7 w=>
 aK pg cC #[b7,(aOk 4)] w λb8 w=>
 aA pg (dQ lU) w λc0 w=>
 aA pg (aJ 56 c0 0) w λc1 w=>
 aA pg (aH 54 c1) w λc2 w=>
 aK pg cU #[c2] w λc3 w=>
 aA pg (aD .neq 24 (.tmp 13) (.const (aOk 0)) c3 (aOk 0)) w λc4 w=>
 Gd (bK c4 false) (λK=>K b8 w) w λc6 w=>
 Gd (bK c4 false) (λK=>K lU w) w λc7 w=>
 Gd (bK c4 false) (λK=>aA pg (dQ c7) w K) w λc8 w=>
 Gd (bK c4 false) (λK=>aA pg (aJ 56 c8 0) w K) w λc9 w=>
 Gd (bK c4 false) (λK=>aA pg (aH 54 c9) w K) w λd0 w=>
 Gd (bK c4 false) (λK=>aK pg eT #[d0] w K) w λd1 w=>
 Gd (bK c4 false) (λK=>aA pg (cH 3 32 d1) w K) w λd2 w=>
 Gd (bK c4 false) (λK=>aA pg (aD .gtr 32 aG aG c6 d2) w K) w λd3 w=>
 aA pg (cD c4 (.bool true) d3) w λd4 w=>
 bQ d4
  (R (aOk 10) w)
  (aA pg (dQ lU) w λd6 w=>
  aA pg (aJ 56 d6 0) w λd7 w=>
  aA pg (aH 54 d7) w λd8 w=>
  aA pg (cH 32 3 b8) w λe0 w=>
  aK pg gI #[d8,e0] w λe1 w=>
  aA pg (dQ lU) w λe3 w=>
  aA pg (aJ 56 e3 5) w λe4 w=>
  aA pg (aH 3 e4) w λe5 w=>
  aA pg (aD .add 3 aG aG e5 (aOk 1)) w λe6 w=>
  aA pg (dQ lU) w λe7 w=>
  aA pg (aJ 56 e7 5) w λe8 w=>
  aA pg (aM 3 e8 e6) w λ_u w=>
  R (aOk 0) w)
def Km a0 w(R:K1):=
 Ga R a0 w
theorem Oq{a0 w R}(h:Km a0 w R):aK pg rA #[a0] w R:=
 lB (ann:=Qe) Tryz.f41 Og [a0] SQ 39 TryzM.mixed Tryz.func41 (lT h cO)
def GH:FA:=⟨mZ,λi=> .leaf ([],[]) []⟩
def HW:List ResultVar:=[.tmp 4]
noncomputable def F5:Code:=aY Tryz.f42
def xM(R:K1) lU f_1 w:=
 aK pg rU #[lU,f_1] w λb7 w=>
 aA pg (aD .geq 3 aG aG b7 (aOk 0)) w λb8 w=>
 R b8 w
def A5 a0 a1 w(R:K1):=
 xM R a0 a1 w
theorem GA{a0 a1 w R}(h:A5 a0 a1 w R):aK pg mZ #[a0,a1] w R:=
 lB (ann:=GH) Tryz.f42 F5 [a0,a1] HW 9 TryzM.mixed Tryz.func42 (lT h cO)
def VR:FA:=⟨rR,λi=> .leaf ([],[]) []⟩
def YP:List ResultVar:=[.tmp 3]
noncomputable def T6:Code:=aY Tryz.f43
def Ko(R:K1) c_0 b1 w:=
 aA pg (aH 22 b1) w λb5 w=>
 aA pg (aO 22 b5 (aOk 0)) w λb6 w=>
 aA pg (aH 5 b6) w λb7 w=>
 aA pg (aD .neq 5 (.tmp 4) (.tmp 7) c_0 b7) w λb8 w=>
 R b8 w
def RD a0 a1 w(R:K1):=
 Ko R a0 a1 w
theorem Uc{a0 a1 w R}(h:RD a0 a1 w R):aK pg rR #[a0,a1] w R:=
 lB (ann:=VR) Tryz.f43 T6 [a0,a1] YP 9 TryzM.mixed Tryz.func43 (lT h cO)
def kW:FA:=⟨Cs,λi=>match Nat.beq i 5 with|true=> .split 2 4 (.perm [0,1,2,3,4,5,6,7,8,9] [(2,4)] ([2,4,8],[(2,6),(4,6)]) (fz 2 (ft [] (fz 1 (ft [] (fz 1 (fu [1,3] (fz 1 (ft [] (fz 1 [])))))))))) (.perm [0,1,3,4,2,5,6,7,8,9] [(4,2)] ([3,4,8],[(3,6),(4,6)]) (fz 3 (ft [] (ft [] (fz 1 (fu [1,2] (fz 1 (ft [] (fz 1 [])))))))))|false=> .leaf ([],[]) []⟩
def alM:List ResultVar:=[.tmp 8,.tmp 9,.tmp 10]
noncomputable def gT:Code:=aY Tryz.f44
def LA(R:K1) b2 dK cX w:=
 aA pg (aD .sub 3 aG aG b2 cX) w λs5 w=>
 R (.tuple #[dK,s5,(aOk 0)]) w
def LB(kn:K6) b2 bB jO dK eD w:=
 kn b2 bB jO dK eD eD w
def FN(kn:K6)(k4:K5) b2 bB jO dK eD aoN w:=
 aA pg (aD .lss 3 aG aG eD aoN) w λq5 w=>
 bQ q5
  (aK pg fB #[jO,eD] w λs0 w=>
  aA pg (aD .add 3 aG aG eD (aOk 1)) w λq7 w=>
  kn b2 bB jO dK q7 aoN w)
  (k4 b2 bB jO dK eD w)
def vO(k4:K5) b2 bB jO dK eD aoN w:=
 aX (λ(X:aOj->K0) (t:aOj) (w:aOi)=>FN (λ_ _ _ _ eD _ w=>X eD w) k4 b2 bB jO dK t aoN w) eD w
theorem aaC(k4:K5)(h4:E5 Q k4 4 2 3 11 13 15)(h:vO k4 (g 2) (g 3) (g 11) (g 13) (g 15) (g 20) w):cP pg kW (bI (aI 1 (aQ 1 (aI 1 (aI 3 (bI (aI 1 (bI (bI (aI 1 (aQ 1 (aI 2 (aI 1 (aI 4 gT)))))))))))))) Q g w:=by
 refine AL (λg:Env=>g 15) (λX t w=>FN (λ_ _ _ _ eD _ w=>X eD w) k4 (g 2) (g 3) (g 11) (g 13) t (g 20) w) h (λX g1 w1 ha hL=> ?_)
 rw[<-cI 2 ha,<-cI 3 ha,<-cI 11 ha,<-cI 13 ha,<-cI 20 ha]at hL
 exact(zK [(4,(NQ k4 2 3 11 13 15))] (kr:=no) (TS (λ_ _ _ _ eD _ w=>X eD w) 2 3 11 13 15 20) hL cO DN ⟨h4,trivial⟩)
def Vm(kn:K6) b2 bB jO dK eD Yr w:=
 aA pg (aD .add 3 aG aG eD Yr) w λq2 w=>
 kn b2 bB jO dK eD q2 w
def LC(kn:K5) b2 bB jO dK eD Yr w:=
 Vm (vO kn) b2 bB jO dK eD Yr w
def LD(kn:K6) b2 bB jO dK eD Yr w:=
 LC (LB kn) b2 bB jO dK eD Yr w
theorem aaD(kn:K5)(hn:N5 Q kn 2 3 11 13 15)(h:LC kn (g 2) (g 3) (g 11) (g 13) (g 15) (g 16) w):cP pg kW (aQ 1 (aI 1 (aI 3 (bI (aI 1 (bI (bI (aI 1 (aQ 1 (aI 2 (aI 1 (aI 4 gT)))))))))))) Q g w:=
 bZ 1 (eL (TS (vO kn) 2 3 11 13 15 20) h (λg w h=>aE (qM 4 (aaC _ g w kn hn h))))
def Vn(kn:K6) b2 bB jO dK cX eD Yr ayK w:=
 aA pg (aD .sub 3 aG aG eD cX) w λp1 w=>
 aA pg (cH 3 38 p1) w λp2 w=>
 aA pg (cH 3 38 Yr) w λp4 w=>
 aA pg (cH 3 38 ayK) w λp6 w=>
 aA pg (bH 84 [(0,p2),(1,p4),(2,p6)]) w λp7 w=>
 aA pg (bT 80 1 [(0,p7)]) w λp8 w=>
 aA pg (dD .append #[80,80] 80 [dK,p8]) w λp9 w=>
 kn b2 bB jO p9 eD Yr w
def yI(kn:K6) b2 bB jO dK cX eD Yr ayK w:=
 Vn (LD kn) b2 bB jO dK cX eD Yr ayK w
def Sn(kn:K8)(k3:K6) b2 bB jO dK cX eD w:=
 aK pg lV #[jO,eD] w λl2 w=>
 aA pg (aV l2 0) w λl3 w=>
 aA pg (aV l2 1) w λl4 w=>
 aA pg (aD .lss 3 aG aG l3 (aOk 4)) w λl6 w=>
 bQ l6
  (aK pg fB #[jO,eD] w λl9 w=>
  aA pg (aD .add 3 aG aG eD (aOk 1)) w λm1 w=>
  k3 b2 bB jO dK cX m1 w)
  (aA pg (aD .gtr 3 aG aG bB (aOk 4)) w λm3 w=>
  Gd (bK m3 true) (λK=>K eD w) w λm5 w=>
  Gd (bK m3 true) (λK=>aA pg (aD .add 3 aG aG m5 (aOk 1)) w K) w λm6 w=>
  Gd (bK m3 true) (λK=>K b2 w) w λm7 w=>
  Gd (bK m3 true) (λK=>aA pg (aD .lss 3 aG aG m6 m7) w K) w λm8 w=>
  aA pg (cD m3 m8 (.bool false)) w λm9 w=>
  bQ m9
   (aK pg fB #[jO,eD] w λn2 w=>
   aA pg (aD .add 3 aG aG eD (aOk 1)) w λn6 w=>
   aK pg lV #[jO,n6] w λn7 w=>
   aA pg (aV n7 0) w λn8 w=>
   aA pg (aV n7 1) w λn9 w=>
   aA pg (aD .add 3 aG aG l3 (aOk 1)) w λo2 w=>
   aA pg (aD .gtr 3 aG aG n8 o2) w λo3 w=>
   bQ o3
    (aA pg (aD .add 3 aG aG eD (aOk 1)) w λo5 w=>
    kn b2 bB jO dK cX o5 n8 n9 w)
    (kn b2 bB jO dK cX eD l3 l4 w))
   (kn b2 bB jO dK cX eD l3 l4 w))
def So(kn:K6)(k3:K6) b2 bB jO dK cX eD w:=
 Sn (yI kn) k3 b2 bB jO dK cX eD w
def I4 (kn:K6) b2 bB jO dK cX eD w:=
 So kn kn b2 bB jO dK cX eD w
def I5 (kn:K6)(k2:K3) b2 bB jO dK cX eD w:=
 aA pg (aD .lss 3 aG aG eD b2) w λj8 w=>
 bQ j8
  (kn b2 bB jO dK cX eD w)
  (k2 b2 dK cX w)
def yJ(kn:K6)(k2:K3) b2 bB jO dK cX eD w:=
 I5 (I4 kn) k2 b2 bB jO dK cX eD w
def sP(k2:K3) b2 bB jO dK cX eD w:=
 aX (λ(X:(aOj×aOj×aOj)->K0) (t:aOj×aOj×aOj) (w:aOi)=>yJ (λ_ _ _ dK cX eD w=>X (dK,cX,eD) w) k2 b2 bB jO t.1 t.2.1 t.2.2 w) (dK,cX,eD) w
theorem Yl(kn:K6)(k2:K3)(hn:N6 Q kn 2 3 11 13 14 15)(h2:E3 Q k2 2 2 13 14)(h:yJ kn k2 (g 2) (g 3) (g 11) (g 13) (g 14) (g 15) w):cP pg kW (bI (bI (aI 1 (aQ 1 (aI 2 (aI 1 (aI 4 gT))))))) Q g w:=
 bZ 1 (zK [(2,(TE k2 2 13 14))] (kr:=no) (TS (I4 kn) 2 3 11 13 14 15) h (λg w h=>aE (qM 3 (bZ 3 (zK [(3,(TS kn 2 3 11 13 14 15))] (kr:=no) (Mq8 (yI kn) 2 3 11 13 14 15 16 17) h (λg w h=>aE (bZ 1 (eL (TS (LD kn) 2 3 11 13 15 16) h (λg w h=>aE (bZ 1 (aaD _ g w (LB kn) (λg w h=>aE (eL _ h hn)) h)))))) DN ⟨hn,trivial⟩)))) DN ⟨h2,trivial⟩)
theorem Ym(k2:K3)(h2:E3 Q k2 2 2 13 14)(h:sP k2 (g 2) (g 3) (g 11) (g 13) (g 14) (g 15) w):cP pg kW (bI (aI 1 (aQ 1 (aI 2 (aI 1 (aI 4 gT)))))) Q g w:=by
 refine AL (λg:Env=>(g 13,g 14,g 15)) (λX t w=>yJ (λ_ _ _ dK cX eD w=>X (dK,cX,eD) w) k2 (g 2) (g 3) (g 11) t.1 t.2.1 t.2.2 w) h (λX g1 w1 ha hL=> ?_)
 rw[<-cI 2 ha,<-cI 3 ha,<-cI 11 ha]at hL
 exact(Yl _ g1 w1 (λ_ _ _ dK cX eD w=>X (dK,cX,eD) w) k2 cO h2 hL)
def Sp(kn:K6) eP b2 bB jO dK cX w:=
 kn b2 bB jO dK cX eP w
def I6 (kn:K3) eP b2 bB jO dK cX w:=
 Sp (sP kn) eP b2 bB jO dK cX w
def I7 (R:K1) eP b2 bB jO dK cX w:=
 I6 (LA R) eP b2 bB jO dK cX w
theorem Yn(kn:K3)(hn:N3 Q kn 2 13 14)(h:I6 kn (g 1) (g 2) (g 3) (g 11) (g 13) (g 14) w):cP pg kW (aQ 1 (aI 2 (aI 1 (aI 4 gT)))) Q g w:=
 bZ 1 (eL (TS (sP kn) 2 3 11 13 14 15) h (λg w h=>aE (qM 2 (Ym _ g w kn hn h))))
def Sr(kn:K6) eP b2 bB jO w:=
 kn eP b2 bB jO (.slice none 0 0) eP w
def I8 (R:K1) eP b2 bB jO w:=
 Sr (I7 R) eP b2 bB jO w
def C8 (kn:K6)(k0:K4) eP b2 bB jO i6 i7 w:=
 aA pg (aD .lss 3 aG aG i7 i6) w λi8 w=>
 bQ i8
  (aK pg fB #[jO,i7] w λj2 w=>
  aA pg (aD .add 3 aG aG i7 (aOk 1)) w λj3 w=>
  kn eP b2 bB jO i6 j3 w)
  (k0 eP b2 bB jO w)
def C9 (k0:K4) eP b2 bB jO i6 i7 w:=
 aX (λ(X:aOj->K0) (t:aOj) (w:aOi)=>C8 (λ_ _ _ _ _ i7 w=>X i7 w) k0 eP b2 bB jO i6 t w) i7 w
theorem Yo(k0:K4)(h0:E4 Q k0 0 1 2 3 11)(h:C9 k0 (g 1) (g 2) (g 3) (g 11) (g 56) (g 57) w):cP pg kW (bI (aI 1 (aQ 1 (aI 4 gT)))) Q g w:=by
 refine AL (λg:Env=>g 57) (λX t w=>C8 (λ_ _ _ _ _ i7 w=>X i7 w) k0 (g 1) (g 2) (g 3) (g 11) (g 56) t w) h (λX g1 w1 ha hL=> ?_)
 rw[<-cI 1 ha,<-cI 2 ha,<-cI 3 ha,<-cI 11 ha,<-cI 56 ha]at hL
 exact(zK [(0,(AK k0 1 2 3 11))] (kr:=no) (TS (λ_ _ _ _ _ i7 w=>X i7 w) 1 2 3 11 56 57) hL cO DN ⟨h0,trivial⟩)
def Ss(kn:K6) eP b2 bB jO w:=
 kn eP b2 bB jO eP (aOk 0) w
def I9 (kn:K4) eP b2 bB jO w:=
 Ss (C9 kn) eP b2 bB jO w
def Da(R:K1) eP b2 bB jO w:=
 I9 (I8 R) eP b2 bB jO w
theorem Yp(kn:K4)(hn:N4 Q kn 1 2 3 11)(h:I9 kn (g 1) (g 2) (g 3) (g 11) w):cP pg kW (aQ 1 (aI 4 gT)) Q g w:=
 bZ 1 (eL (TS (C9 kn) 1 2 3 11 56 57) h (λg w h=>aE (qM 0 (Yo _ g w kn hn h))))
def Su(kn:K4)(R:K1) jC eP b2 bB w:=
 aA pg (aD .lss 3 aG aG eP (aOk 0)) w λd2 w=>
 Gd (bK d2 false) (λK=>K b2 w) w λd4 w=>
 Gd (bK d2 false) (λK=>K eP w) w λd5 w=>
 Gd (bK d2 false) (λK=>aA pg (aD .lss 3 aG aG d4 d5) w K) w λd6 w=>
 aA pg (cD d2 (.bool true) d6) w λd7 w=>
 Gd (bK d7 false) (λK=>K b2 w) w λd9 w=>
 Gd (bK d7 false) (λK=>K jC w) w λe0 w=>
 Gd (bK d7 false) (λK=>aA pg (dD .len #[22] 3 [e0]) w K) w λe1 w=>
 Gd (bK d7 false) (λK=>aA pg (aD .gtr 3 aG aG d9 e1) w K) w λe2 w=>
 aA pg (cD d7 (.bool true) e2) w λe3 w=>
 Gd (bK e3 false) (λK=>K bB w) w λe5 w=>
 Gd (bK e3 false) (λK=>aA pg (aD .lss 3 aG aG e5 (aOk 0)) w K) w λe6 w=>
 aA pg (cD e3 (.bool true) e6) w λe7 w=>
 Gd (bK e7 false) (λK=>K bB w) w λe9 w=>
 Gd (bK e7 false) (λK=>aA pg (aD .gtr 3 aG aG e9 (aOk 9)) w K) w λf0 w=>
 aA pg (cD e7 (.bool true) f0) w λf1 w=>
 bQ f1
  (R (.tuple #[(.slice none 0 0),(aOk 0),(aOk 1)]) w)
  (aA pg (aD .eql 3 (.tmp 42) (.const (aOk 0)) bB (aOk 0)) w λf3 w=>
  bQ f3
   (aA pg (aD .sub 3 aG aG b2 eP) w λf6 w=>
   R (.tuple #[(.slice none 0 0),f6,(aOk 0)]) w)
   (Ord (apU Cs 5 (Jl 5 gT) 2 4 w)
    ((dr w)=(dr w)/\
    (dr w)=(dr w)/\
    aA pg (abC 116 none) (dr w) λf9 aGV=>
    aGV=aGV/\
    aA pg (iS 117 b2 b2) aGV λi1 WW=>
    WW=WW/\
    aA pg (aD .shl 3 aG aG (aOk 1) bB) WW λi3 w_=>w_=WW/\
    (dR pg (aD .shl 3 aG aG (aOk 1) bB) i3 aGV/\dR pg (aD .shl 3 aG aG (aOk 1) bB) i3 (dr w)/\True)/\
    aA pg (bH 119 [(0,jC),(1,b2),(2,f9),(3,i1),(4,i3)]) WW λi4 w_=>w_=WW/\
    aA pg (A0 119 i4) WW λi5 Y4=>
    Y4=Y4/\
    kn eP b2 bB i5 Y4)
    ((dr w)=(dr w)/\
    (dr w)=(dr w)/\
    (dr w)=(dr w)/\
    aA pg (iS 117 b2 b2) (dr w) λi1 azU=>
    aA pg (abC 116 none) azU λf9 WW=>
    WW=WW/\
    aA pg (aD .shl 3 aG aG (aOk 1) bB) WW λi3 w_=>w_=WW/\
    (dR pg (aD .shl 3 aG aG (aOk 1) bB) i3 azU/\dR pg (aD .shl 3 aG aG (aOk 1) bB) i3 (dr w)/\True)/\
    aA pg (bH 119 [(0,jC),(1,b2),(2,f9),(3,i1),(4,i3)]) WW λi4 w_=>w_=WW/\
    aA pg (A0 119 i4) WW λi5 Y4=>
    Y4=Y4/\
    kn eP b2 bB i5 Y4)))
def Sv(R:K1) jC eP b2 bB w:=
 Su (Da R) R jC eP b2 bB w
def aiC a0 a1 a2 a3 w(R:K1):=
 Sv R a0 a1 a2 a3 w
theorem aeQ{a0 a1 a2 a3 w R}(h:aiC a0 a1 a2 a3 w R):aK pg Cs #[a0,a1,a2,a3] w R:=
 lB (ann:=kW) Tryz.f44 gT [a0,a1,a2,a3] alM 136 TryzM.mixed Tryz.func44 (bZ 4 (Lk (AK (Da R) 1 2 3 11) h (λg w h=>aE (bZ 1 (Yp _ g w (I8 R) (λg w h=>aE (bZ 2 (eL (TS (I7 R) 1 2 3 11 13 14) h (λg w h=>aE (bZ 1 (Yn _ g w (LA R) (λg w h=>aE (lT h cO)) h)))))) h))) cO))
def Ei:FA:=⟨Cn,λi=>match Nat.beq i 7 with|true=> .leaf ([4],[]) (fz 4 (ft [] []))|false=> .leaf ([],[]) []⟩
def G3:List ResultVar:=[.tmp 6,.cell 7 45]
noncomputable def CI:Code:=aY Tryz.f45
def GO(R:K1) kF r_3 b7 w:=
 aA pg (aD .add 38 aG aG kF (.int .u32 3)) w λf0 w=>
 aA pg (aH 45 r_3) w λf1 w=>
 aK pg iD #[f1,kF,(aOk 2)] w λf3 w=>
 aA pg (aM 45 b7 f3) w λ_u w=>
 vU pg 45 b7 w λr1=>R (.tuple #[f0,r1]) w
def GP(kn:K4)(k0:K3)(R:K1) kF r_3 b7 GD w:=
 aA pg (aJ 84 GD 2) w λc5 w=>
 aA pg (aH 38 c5) w λc6 w=>
 aA pg (aD .leq 38 aG aG c6 (.int .u32 3)) w λc7 w=>
 bQ c7
  (aA pg (aH 45 r_3) w λd3 w=>
  aA pg (aH 84 GD) w λd4 w=>
  aK pg yZ #[d3,d4] w λd5 w=>
  aA pg (aV d5 0) w λd6 w=>
  aA pg (aV d5 1) w λd7 w=>
  aA pg (aV d5 2) w λd8 w=>
  aA pg (bG 45) w λc0 w=>
  aA pg (aM 45 c0 d7) w λ_u w=>
  aA pg (aD .eql 24 (.tmp 29) (.const (aOk 0)) d8 (aOk 0)) w λe0 w=>
  Gd (bK e0 true) (λK=>K d6 w) w λe2 w=>
  Gd (bK e0 true) (λK=>K kF w) w λe3 w=>
  Gd (bK e0 true) (λK=>aA pg (aD .eql 38 (.tmp 32) (.tmp 33) e2 e3) w K) w λe4 w=>
  aA pg (cD e0 e4 (.bool false)) w λe5 w=>
  bQ e5
   (aA pg (aJ 84 GD 2) (dr w) λe6 w_=>w_=(dr w)/\
   aA pg (aH 38 e6) (dr w) λe7 w_=>w_=(dr w)/\
   aA pg (aH 45 c0) (dr w) λe8 w_=>w_=(dr w)/\
   (dr w)=(dr w)/\
   aA pg (aM 45 b7 e8) (dr w) λ_u4 aJ7=>
   vU pg 45 b7 aJ7 λr1=>R (.tuple #[e7,r1]) aJ7)
   (aA pg (aJ 84 GD 2) w λc8 w=>
   aA pg (aH 38 c8) w λc9 w=>
   aA pg (aD .add 38 aG aG c9 (.int .u32 1)) w λd0 w=>
   aA pg (aJ 84 GD 2) w λd1 w=>
   aA pg (aM 38 d1 d0) w λ_u w=>
   kn kF r_3 b7 GD w))
  (k0 kF r_3 b7 w)
def Bf(k0:K3)(R:K1) kF r_3 b7 GD w:=
 aX (λ(X:Unit->K0) (t:Unit) (w:aOi)=>GP (λ_ _ _ _ w=>X () w) k0 R kF r_3 b7 GD w) () w
theorem Wc(k0:K3)(R:K1)(h0:E3 Q k0 0 2 3 7)(hr:HR G3 R Q)(h:Bf k0 R (g 2) (g 3) (g 7) (g 8) w):cP pg Ei (bI (aI 1 (aQ 1 (aI 2 CI)))) Q g w:=by
 refine AL (λ_:Env=>()) (λX t w=>GP (λ_ _ _ _ w=>X () w) k0 R (g 2) (g 3) (g 7) (g 8) w) h (λX g1 w1 ha hL=> ?_)
 rw[<-cI 2 ha,<-cI 3 ha,<-cI 7 ha,<-cI 8 ha]at hL
 exact(zK [(0,(TE k0 2 3 7))] (AK (λ_ _ _ _ w=>X () w) 2 3 7 8) hL cO hr ⟨h0,trivial⟩)
def Py(kn:K4) kF r_3 b7 GD w:=
 aA pg (aJ 84 GD 2) w λc4 w=>
 aA pg (aM 38 c4 (.int .u32 1)) w λ_u w=>
 kn kF r_3 b7 GD w
def GQ(kn:K3)(R:K1) kF r_3 b7 GD w:=
 Py (Bf kn R) kF r_3 b7 GD w
def GR(R:K1) kF r_3 b7 GD w:=
 GQ (GO R) R kF r_3 b7 GD w
theorem Wd(kn:K3)(R:K1)(hn:N3 Q kn 2 3 7)(hr:HR G3 R Q)(h:GQ kn R (g 2) (g 3) (g 7) (g 8) w):cP pg Ei (aQ 1 (aI 2 CI)) Q g w:=
 bZ 1 (eL (AK (Bf kn R) 2 3 7 8) h (λg w h=>aE (qM 0 (Wc _ g w kn R hn hr h))))
def Pz(kn:K4) QH Wn kF w:=
 aA pg (A0 45 QH) w λr_3 w=>
 aA pg (bG 45) w λb7 w=>
 aA pg (bH 84 [(0,Wn)]) w λc3 w=>
 aA pg (bG 84) w λGD w=>
 aA pg (aM 84 GD c3) w λ_u w=>
 kn kF r_3 b7 GD w
def PA(R:K1) QH Wn kF w:=
 Pz (GR R) QH Wn kF w
def XK a0 a1 a2 w(R:K1):=
 PA R a0 a1 a2 w
theorem XL{a0 a1 a2 w R}(h:XK a0 a1 a2 w R):aK pg Cn #[a0,a1,a2] w R:=
 lB (ann:=Ei) Tryz.f45 CI [a0,a1,a2] G3 44 TryzM.mixed Tryz.func45 (bZ 2 (eL (AK (GR R) 2 3 7 8) h (λg w h=>aE (bZ 1 (Wd _ g w (GO R) R (λg w h=>aE (lT h cO)) cO h)))))
def Bw:FA:=⟨yY,λi=> .leaf ([],[]) []⟩
def YQ:List ResultVar:=[.tmp 2,.tmp 3]
noncomputable def Af:Code:=aY Tryz.f46
def pV(R:K1) bD w:=
 aA pg (aH 22 bD) w λj2 w=>
 R (.tuple #[j2,(aOk 0)]) w
def Kp(kn:K1) dB bD pN rH w:=
 aK pg HL #[rH] w λi0 w=>
 aA pg (aV i0 0) w λi1 w=>
 aA pg (aV i0 1) w λi2 w=>
 aA pg (aD .eql 24 (.tmp 53) (.const (aOk 0)) i2 (aOk 0)) w λi4 w=>
 bQ i4
  (aK pg wS #[dB,i1,(.bool true)] w λi8 w=>
  aA pg (aV i8 0) w λi9 w=>
  aA pg (aV i8 1) w λj0 w=>
  aA pg (BF pN [i9,j0]) w λj1 w=>
  kn bD w)
  (kn bD w)
def CR(R:K1) dB bD pN rH w:=
 Kp (pV R) dB bD pN rH w
def CS(kn:K7)(k0:K4) dB bD pN rH e5 e6 e7 w:=
 aA pg (aD .lss 3 aG aG e7 e6) w λe8 w=>
 bQ e8
  (aA pg (aO 22 e5 e7) w λe9 w=>
  aA pg (aH 5 e9) w λf0 w=>
  aA pg (aO 128 rH f0) w λf3 w=>
  aA pg (aH 38 f3) w λf4 w=>
  aA pg (aD .add 38 aG aG f4 (.int .u32 1)) w λf5 w=>
  aA pg (aO 128 rH f0) w λf6 w=>
  aA pg (aM 38 f6 f5) w λ_u w=>
  aA pg (aD .add 3 aG aG e7 (aOk 1)) w λf7 w=>
  kn dB bD pN rH e5 e6 f7 w)
  (k0 dB bD pN rH w)
def xC(k0:K4) dB bD pN rH e5 e6 e7 w:=
 aX (λ(X:aOj->K0) (t:aOj) (w:aOi)=>CS (λ_ _ _ _ _ _ e7 w=>X e7 w) k0 dB bD pN rH e5 e6 t w) e7 w
theorem RG(k0:K4)(h0:E4 Q k0 0 0 4 6 7)(h:xC k0 (g 0) (g 4) (g 6) (g 7) (g 35) (g 36) (g 37) w):cP pg Bw (bI (aI 1 (aQ 1 (aI 6 Af)))) Q g w:=by
 refine AL (λg:Env=>g 37) (λX t w=>CS (λ_ _ _ _ _ _ e7 w=>X e7 w) k0 (g 0) (g 4) (g 6) (g 7) (g 35) (g 36) t w) h (λX g1 w1 ha hL=> ?_)
 rw[<-cI 0 ha,<-cI 4 ha,<-cI 6 ha,<-cI 7 ha,<-cI 35 ha,<-cI 36 ha]at hL
 exact(zK [(0,(AK k0 0 4 6 7))] (kr:=no) (JW (λ_ _ _ _ _ _ e7 w=>X e7 w) 0 4 6 7 35 36 37) hL cO DN ⟨h0,trivial⟩)
def Kq(kn:K7) dB bD pN rH w:=
 aA pg (dD .len #[22] 3 [dB]) w λe6 w=>
 kn dB bD pN rH dB e6 (aOk 0) w
def CT(kn:K4) dB bD pN rH w:=
 Kq (xC kn) dB bD pN rH w
def CU(R:K1) dB bD pN rH w:=
 CT (CR R) dB bD pN rH w
theorem RH(kn:K4)(hn:N4 Q kn 0 4 6 7)(h:CT kn (g 0) (g 4) (g 6) (g 7) w):cP pg Bw (aQ 1 (aI 6 Af)) Q g w:=
 bZ 1 (eL (JW (xC kn) 0 4 6 7 35 36 37) h (λg w h=>aE (qM 0 (RG _ g w kn hn h))))
def Iz(kn:K4)(R:K1) dB w:=
 aK pg Cr #[dB] w λc4 w=>
 aA pg (aV c4 0) w λc5 w=>
 aA pg (aV c4 1) w λc6 w=>
 aA pg (bG 22) w λbD w=>
 aA pg (aM 22 bD c5) w λ_u w=>
 aA pg (aD .neq 24 (.tmp 17) (.const (aOk 0)) c6 (aOk 0)) w λc8 w=>
 bQ c8
  (R (.tuple #[(.slice none 0 0),c6]) w)
  (aA pg (ajB (.func 64) [] [bD]) w λd0 w=>
  aK pg xV #[dB] w λd2 w=>
  bQ d2
   (aA pg (aO 22 dB (aOk 0)) w λd5 w=>
   aA pg (aH 5 d5) w λd6 w=>
   aA pg (dD .len #[22] 3 [dB]) w λd8 w=>
   aK pg Bb #[d6,d8] w λd9 w=>
   aA pg (aV d9 0) w λe0 w=>
   aA pg (aV d9 1) w λe1 w=>
   aA pg (BF d0 [e0,e1]) w λe2 w=>
   aA pg (aH 22 bD) w λe3 w=>
   R (.tuple #[e3,(aOk 0)]) w)
   (aA pg (iS 128 (aOk 256) (aOk 256)) w λe4 w=>
   kn dB bD d0 e4 w))
def IA(R:K1) dB w:=
 Iz (CU R) R dB w
def RE a0 w(R:K1):=
 IA R a0 w
theorem Uf{a0 w R}(h:RE a0 w R):aK pg yY #[a0] w R:=
 lB (ann:=Bw) Tryz.f46 Af [a0] YQ 63 TryzM.mixed Tryz.func46 (bZ 6 (Lk (AK (CU R) 0 4 6 7) h (λg w h=>aE (bZ 1 (RH _ g w (CR R) (λg w h=>aE (bZ 1 (eL (TR (pV R) 4) h (λg w h=>aE (lT h cO))))) h))) cO))
def Ac:FA:=⟨wU,λi=> .leaf ([],[]) []⟩
def BE:List ResultVar:=[.tmp 2,.tmp 3]
noncomputable def yD:Code:=aY Tryz.f47
def BG(R:K1) dB vQ Ag b8 nX c0 w:=
 aA pg (aH 131 Ag) w λn5 w=>
 aA pg (aH 108 b8) w λn6 w=>
 aK pg tA #[dB,n5,n6] w λn7 w=>
 aA pg (aV n7 0) w λn8 w=>
 aA pg (aV n7 1) w λn9 w=>
 aA pg (aD .neq 24 (.tmp 100) (.const (aOk 0)) n9 (aOk 0)) w λo1 w=>
 bQ o1
  (R (.tuple #[(.slice none 0 0),n9]) w)
  (aA pg (cH 3 32 nX) w λo5 w=>
  aK pg bA #[vQ,o5,(aOk 1)] w λo6 w=>
  aK pg fD #[vQ,c0] w λo9 w=>
  aK pg fD #[vQ,n8] w λp2 w=>
  aK pg eH #[vQ] w λp4 w=>
  R (.tuple #[p4,(aOk 0)]) w)
def BH(kn:K7)(k1:K6)(R:K1) dB vQ Ag b8 nX c0 j3 w:=
 aA pg (aD .lss 3 aG aG j3 (aOk 3)) w λj4 w=>
 bQ j4
  (aA pg (aO 131 Ag j3) w λj9 w=>
  aA pg (aH 117 j9) w λl0 w=>
  aK pg kV #[j3,l0] w λl1 w=>
  aA pg (aV l1 0) w λl2 w=>
  aA pg (aV l1 1) w λl3 w=>
  aA pg (aV l1 2) w λl4 w=>
  aA pg (aV l1 3) w λl5 w=>
  aA pg (bG 106) w λaKb w=>
  aA pg (aM 106 aKb l2) w λ_u w=>
  aA pg (aD .neq 24 (.tmp 76) (.const (aOk 0)) l5 (aOk 0)) w λl7 w=>
  bQ l7
   (R (.tuple #[(.slice none 0 0),l5]) w)
   (aA pg (aH 106 aKb) w λm0 w=>
   aA pg (aO 108 b8 j3) w λm1 w=>
   aA pg (aM 106 m1 m0) w λ_u w=>
   aA pg (aD .mul 3 aG aG (aOk 2) j3) w λm5 w=>
   aA pg (aD .sub 3 aG aG (aOk 6) m5) w λm6 w=>
   aA pg (aD .shl 3 aG aG l3 m6) w λm7 w=>
   aA pg (aD .or 3 aG aG nX m7) w λm8 w=>
   aA pg (dD .append #[22,22] 22 [c0,l4]) w λn1 w=>
   aA pg (aD .add 3 aG aG j3 (aOk 1)) w λn2 w=>
   kn dB vQ Ag b8 m8 n1 n2 w))
  (k1 dB vQ Ag b8 nX c0 w)
def kL(k1:K6)(R:K1) dB vQ Ag b8 nX c0 j3 w:=
 aX (λ(X:(aOj×aOj×aOj)->K0) (t:aOj×aOj×aOj) (w:aOi)=>BH (λ_ _ _ _ nX c0 j3 w=>X (nX,c0,j3) w) k1 R dB vQ Ag b8 t.1 t.2.1 t.2.2 w) (nX,c0,j3) w
theorem QR(k1:K6)(R:K1)(h1:E6 Q k1 1 0 4 6 8 9 10)(hr:HR BE R Q)(h:kL k1 R (g 0) (g 4) (g 6) (g 8) (g 9) (g 10) (g 63) w):cP pg Ac (bI (aI 1 (aQ 1 (aI 5 (aI 3 yD))))) Q g w:=by
 refine AL (λg:Env=>(g 9,g 10,g 63)) (λX t w=>BH (λ_ _ _ _ nX c0 j3 w=>X (nX,c0,j3) w) k1 R (g 0) (g 4) (g 6) (g 8) t.1 t.2.1 t.2.2 w) h (λX g1 w1 ha hL=> ?_)
 rw[<-cI 0 ha,<-cI 4 ha,<-cI 6 ha,<-cI 8 ha]at hL
 exact(zK [(1,(TS k1 0 4 6 8 9 10))] (JW (λ_ _ _ _ nX c0 j3 w=>X (nX,c0,j3) w) 0 4 6 8 9 10 63) hL cO hr ⟨h1,trivial⟩)
def Js(kn:K7) dB vQ Ag b8 nX c0 w:=
 kn dB vQ Ag b8 nX c0 (aOk 0) w
def BI(kn:K6)(R:K1) dB vQ Ag b8 nX c0 w:=
 Js (kL kn R) dB vQ Ag b8 nX c0 w
def BJ(R:K1) dB vQ Ag b8 nX c0 w:=
 BI (BG R) R dB vQ Ag b8 nX c0 w
theorem QS(kn:K6)(R:K1)(hn:N6 Q kn 0 4 6 8 9 10)(hr:HR BE R Q)(h:BI kn R (g 0) (g 4) (g 6) (g 8) (g 9) (g 10) w):cP pg Ac (aQ 1 (aI 5 (aI 3 yD))) Q g w:=
 bZ 1 (eL (JW (kL kn R) 0 4 6 8 9 10 63) h (λg w h=>aE (qM 1 (QR _ g w kn R hn hr h))))
def Jt(kn:K6)(R:K1) dB vQ w:=
 aK pg wV #[dB] w λi7 w=>
 aA pg (aV i7 0) w λi8 w=>
 aA pg (aV i7 1) w λi9 w=>
 aA pg (bG 131) w λAg w=>
 aA pg (aM 131 Ag i8) w λ_u w=>
 aA pg (aD .neq 24 (.tmp 60) (.const (aOk 0)) i9 (aOk 0)) w λj1 w=>
 bQ j1
  (R (.tuple #[(.slice none 0 0),i9]) w)
  (aA pg (bG 108) w λb8 w=>
  kn dB vQ Ag b8 (aOk 0) (.slice none 0 0) w)
def tZ(R:K1) dB vQ w:=
 Jt (BJ R) R dB vQ w
def Hh(kn:K2)(R:K1) dB w:=
 aK pg eY #[] w λc7 w=>
 aA pg (dD .len #[80] 3 [dB]) w λc9 w=>
 aA pg (aD .gtr 3 aG aG c9 (aOk 98047)) w λd9 w=>
 bQ d9
  (R (.tuple #[(.slice none 0 0),(aOk 1)]) w)
  (aA pg (aD .eql 3 (.tmp 31) (.const (aOk 0)) c9 (aOk 0)) w λe2 w=>
  bQ e2
   (aA pg (bT 22 1 [(0,(.int .u8 0))]) w λe3 w=>
   R (.tuple #[e3,(aOk 0)]) w)
   (aA pg (aD .lss 3 aG aG c9 (aOk 128)) w λe6 w=>
   bQ e6
    (aA pg (cH 3 32 c9) w λe9 w=>
    aK pg bA #[c7,e9,(aOk 1)] w λf0 w=>
    kn dB c7 w)
    (aA pg (aD .lss 3 aG aG c9 (aOk 32512)) w λf3 w=>
    bQ f3
     (aA pg (aD .shr 3 aG aG c9 (.int .u64 8)) w λf6 w=>
     aA pg (aD .add 3 aG aG f6 (aOk 128)) w λf7 w=>
     aA pg (cH 3 32 f7) w λf8 w=>
     aK pg bA #[c7,f8,(aOk 1)] w λf9 w=>
     aA pg (aD .and 3 aG aG c9 (aOk 255)) w λi2 w=>
     aA pg (cH 3 32 i2) w λi3 w=>
     aK pg bA #[c7,i3,(aOk 1)] w λi4 w=>
     kn dB c7 w)
     (aK pg bA #[c7,(.int .u64 255),(aOk 1)] w λd1 w=>
     aA pg (aD .sub 3 aG aG c9 (aOk 32512)) w λd4 w=>
     aA pg (cH 3 32 d4) w λd5 w=>
     aK pg bA #[c7,d5,(aOk 2)] w λd6 w=>
     kn dB c7 w))))
def Hi(R:K1) dB w:=
 Hh (tZ R) R dB w
def PU a0 w(R:K1):=
 Hi R a0 w
theorem S1 {a0 w R}(h:PU a0 w R):aK pg wU #[a0] w R:=
 lB (ann:=Ac) Tryz.f47 yD [a0] BE 115 TryzM.mixed Tryz.func47 (bZ 3 (Lk (Kf (tZ R) 0 4) h (λg w h=>aE (bZ 5 (Lk (TS (BJ R) 0 4 6 8 9 10) h (λg w h=>aE (bZ 1 (QS _ g w (BG R) R (λg w h=>aE (lT h cO)) cO h))) cO))) cO))
def jG:FA:=⟨pH,λi=> .leaf ([],[]) []⟩
def QP:List ResultVar:=[.tmp 2]
noncomputable def iH:Code:=aY Tryz.f48
def wH(R:K1) fG w:=
 R fG w
def kH(kn:K4)(k2:K1) fG d5 d6 d7 w:=
 aA pg (aD .lss 3 aG aG d7 d6) w λd8 w=>
 bQ d8
  (aA pg (aO 137 d5 d7) w λd9 w=>
  aA pg (aH 22 d9) w λe0 w=>
  aA pg (dD .append #[22,22] 22 [fG,e0]) w λe3 w=>
  aA pg (aD .add 3 aG aG d7 (aOk 1)) w λe4 w=>
  kn e3 d5 d6 e4 w)
  (k2 fG w)
def nZ(k2:K1) fG d5 d6 d7 w:=
 aX (λ(X:(aOj×aOj)->K0) (t:aOj×aOj) (w:aOi)=>kH (λfG _ _ d7 w=>X (fG,d7) w) k2 t.1 d5 d6 t.2 w) (fG,d7) w
theorem LU(k2:K1)(h2:E1 Q k2 2 6)(h:nZ k2 (g 6) (g 25) (g 26) (g 27) w):cP pg jG (bI (aI 1 (aQ 1 (aI 1 (aI 1 (aI 2 iH)))))) Q g w:=by
 refine AL (λg:Env=>(g 6,g 27)) (λX t w=>kH (λfG _ _ d7 w=>X (fG,d7) w) k2 t.1 (g 25) (g 26) t.2 w) h (λX g1 w1 ha hL=> ?_)
 rw[<-cI 25 ha,<-cI 26 ha]at hL
 exact(zK [(2,(TR k2 6))] (kr:=no) (AK (λfG _ _ d7 w=>X (fG,d7) w) 6 25 26 27) hL cO DN ⟨h2,trivial⟩)
def Ed(kn:K4) dI fG w:=
 aA pg (dD .len #[137] 3 [dI]) w λd6 w=>
 kn fG dI d6 (aOk 0) w
def wI(kn:K1) dI fG w:=
 Ed (nZ kn) dI fG w
def wJ(R:K1) dI fG w:=
 wI (wH R) dI fG w
theorem LV(kn:K1)(hn:N1 Q kn 6)(h:wI kn (g 0) (g 6) w):cP pg jG (aQ 1 (aI 1 (aI 1 (aI 2 iH)))) Q g w:=
 bZ 1 (eL (AK (nZ kn) 6 25 26 27) h (λg w h=>aE (qM 2 (LU _ g w kn hn h))))
def Ee(kn:K2) dI lG w:=
 aK pg tC #[(.slice none 0 0),lG] w λd4 w=>
 kn dI d4 w
def wK(R:K1) dI lG w:=
 Ee (wJ R) dI lG w
def mJ(kn:K5) dI lG b9 c0 c1 w:=
 aA pg (aD .add 3 aG aG c1 (aOk 1)) w λd2 w=>
 kn dI lG b9 c0 d2 w
def mK(kn:K5)(k0:K2) dI lG b9 c0 c1 w:=
 aA pg (aD .lss 3 aG aG c1 c0) w λc2 w=>
 bQ c2
  (aA pg (aO 137 b9 c1) w λc3 w=>
  aA pg (aH 22 c3) w λc4 w=>
  aA pg (dD .len #[22] 3 [c4]) w λc7 w=>
  aA pg (aD .add 3 aG aG lG c7) w λc8 w=>
  aA pg (aD .lss 3 aG aG c8 (aOk 0)) w λd0 w=>
  bQ d0
   (aA pg (WM 9 (.string ⟨#[108,101,110,32,111,117,116,32,111,102,32,114,97,110,103,101]⟩)) w λd1 w=>
   aA pg (V (Instr.panic d1)) w λ_u w=>
   kn dI c8 b9 c0 c1 w)
   (kn dI c8 b9 c0 c1 w))
  (k0 dI lG w)
def jJ(kn:K5)(k0:K2) dI lG b9 c0 c1 w:=
 mK (mJ kn) k0 dI lG b9 c0 c1 w
def mL(k0:K2) dI lG b9 c0 c1 w:=
 aX (λ(X:(aOj×aOj)->K0) (t:aOj×aOj) (w:aOi)=>jJ (λ_ lG _ _ c1 w=>X (lG,c1) w) k0 dI t.1 b9 c0 t.2 w) (lG,c1) w
theorem J5 (k0:K2)(h0:E2 Q k0 0 0 3)(h:mL k0 (g 0) (g 3) (g 9) (g 10) (g 11) w):cP pg jG (bI (aI 1 (aQ 1 (aI 2 iH)))) Q g w:=by
 refine AL (λg:Env=>(g 3,g 11)) (λX t w=>jJ (λ_ lG _ _ c1 w=>X (lG,c1) w) k0 (g 0) t.1 (g 9) (g 10) t.2 w) h (λX g1 w1 ha hL=> ?_)
 rw[<-cI 0 ha,<-cI 9 ha,<-cI 10 ha]at hL
 exact(bZ 3 (zK [(0,(Kf k0 0 3))] (kr:=no) (NQ (mJ (λ_ lG _ _ c1 w=>X (lG,c1) w)) 0 3 9 10 11) hL (λg w h=>aE (eL (NQ (λ_ lG _ _ c1 w=>X (lG,c1) w) 0 3 9 10 11) h cO)) DN ⟨h0,trivial⟩))
def Dg(kn:K5) dI lG w:=
 aA pg (dD .len #[137] 3 [dI]) w λc0 w=>
 kn dI lG dI c0 (aOk 0) w
def uB(kn:K2) dI lG w:=
 Dg (mL kn) dI lG w
def uC(R:K1) dI lG w:=
 uB (wK R) dI lG w
theorem J6 (kn:K2)(hn:N2 Q kn 0 3)(h:uB kn (g 0) (g 3) w):cP pg jG (aQ 1 (aI 2 iH)) Q g w:=
 bZ 1 (eL (NQ (mL kn) 0 3 9 10 11) h (λg w h=>aE (qM 0 (J5 _ g w kn hn h))))
def Dh(kn:K2) dI w:=
 kn dI (aOk 0) w
def Di(R:K1) dI w:=
 Dh (uC R) dI w
def Jx a0 w(R:K1):=
 Di R a0 w
theorem Nu{a0 w R}(h:Jx a0 w R):aK pg pH #[a0] w R:=
 lB (ann:=jG) Tryz.f48 iH [a0] QP 36 TryzM.mixed Tryz.func48 (bZ 2 (eL (Kf (uC R) 0 3) h (λg w h=>aE (bZ 1 (J6 _ g w (wK R) (λg w h=>aE (bZ 1 (eL (Kf (wJ R) 0 6) h (λg w h=>aE (bZ 1 (LV _ g w (wH R) (λg w h=>aE (lT h cO)) h)))))) h)))))
def akF:FA:=⟨B2,λi=> .leaf ([],[]) []⟩
def aqG:List ResultVar:=[.tmp 4]
noncomputable def agQ:Code:=aY Tryz.f49
def Zd(R:K1) v_0 NM w:=
 aA pg (aD .mul 32 aG aG NM (.int .u64 14029467366897019727)) w λb7 w=>
 aA pg (aD .add 32 aG aG v_0 b7) w λb8 w=>
 aK pg dG #[b8,(aOk 31)] w λb9 w=>
 aA pg (aD .mul 32 aG aG b9 (.int .u64 11400714785074694791)) w λc0 w=>
 R c0 w
def anT a0 a1 w(R:K1):=
 Zd R a0 a1 w
theorem ajV{a0 a1 w R}(h:anT a0 a1 w R):aK pg B2 #[a0,a1] w R:=
 lB (ann:=akF) Tryz.f49 agQ [a0,a1] aqG 11 TryzM.mixed Tryz.func49 (lT h cO)
def Ih:FA:=⟨zB,λi=> .leaf ([],[]) []⟩
def alO:List ResultVar:=[.tmp 2]
noncomputable def GN:Code:=aY Tryz.f50
def FY(R:K1) oK w:=
 R oK w
def FZ(kn:K4)(k0:K1) oK b6 b7 b8 w:=
 aA pg (aD .lss 3 aG aG b8 b7) w λb9 w=>
 bQ b9
  (aA pg (aO 22 b6 b8) w λc1 w=>
  aA pg (aH 5 c1) w λc2 w=>
  aA pg (cH 5 32 c2) w λc5 w=>
  aA pg (aD .mul 3 aG aG (aOk 8) b8) w λc7 w=>
  aA pg (cH 3 50 c7) w λc8 w=>
  aA pg (aD .shl 32 aG aG c5 c8) w λc9 w=>
  aA pg (aD .or 32 aG aG oK c9) w λd0 w=>
  aA pg (aD .add 3 aG aG b8 (aOk 1)) w λd1 w=>
  kn d0 b6 b7 d1 w)
  (k0 oK w)
def F0 (k0:K1) oK b6 b7 b8 w:=
 aX (λ(X:(aOj×aOj)->K0) (t:aOj×aOj) (w:aOi)=>FZ (λoK _ _ b8 w=>X (oK,b8) w) k0 t.1 b6 b7 t.2 w) (oK,b8) w
theorem abQ(k0:K1)(h0:E1 Q k0 0 3)(h:F0 k0 (g 3) (g 6) (g 7) (g 8) w):cP pg Ih (bI (aI 1 (aQ 1 (aI 2 GN)))) Q g w:=by
 refine AL (λg:Env=>(g 3,g 8)) (λX t w=>FZ (λoK _ _ b8 w=>X (oK,b8) w) k0 t.1 (g 6) (g 7) t.2 w) h (λX g1 w1 ha hL=> ?_)
 rw[<-cI 6 ha,<-cI 7 ha]at hL
 exact(zK [(0,(TR k0 3))] (kr:=no) (AK (λoK _ _ b8 w=>X (oK,b8) w) 3 6 7 8) hL cO DN ⟨h0,trivial⟩)
def VJ(kn:K4) jC oK w:=
 aA pg (dD .len #[22] 3 [jC]) w λb7 w=>
 kn oK jC b7 (aOk 0) w
def Ma(kn:K1) jC oK w:=
 VJ (F0 kn) jC oK w
def Mb(R:K1) jC oK w:=
 Ma (FY R) jC oK w
theorem abR(kn:K1)(hn:N1 Q kn 3)(h:Ma kn (g 0) (g 3) w):cP pg Ih (aQ 1 (aI 2 GN)) Q g w:=
 bZ 1 (eL (AK (F0 kn) 3 6 7 8) h (λg w h=>aE (qM 0 (abQ _ g w kn hn h))))
def VK(kn:K2) jC w:=
 kn jC (.int .u64 0) w
def VL(R:K1) jC w:=
 VK (Mb R) jC w
def ajU a0 w(R:K1):=
 VL R a0 w
theorem afL{a0 w R}(h:ajU a0 w R):aK pg zB #[a0] w R:=
 lB (ann:=Ih) Tryz.f50 GN [a0] alO 23 TryzM.mixed Tryz.func50 (bZ 2 (eL (Kf (Mb R) 0 3) h (λg w h=>aE (bZ 1 (abR _ g w (FY R) (λg w h=>aE (lT h cO)) h)))))
def lX:FA:=⟨wY,λi=> .leaf ([],[]) []⟩
def WL:List ResultVar:=[.tmp 2]
noncomputable def kZ:Code:=aY Tryz.f51
def hZ(R:K1) oK w:=
 R oK w
def uS(kn:K3)(k2:K1) oK e2 e3 w:=
 aA pg (aD .lss 3 aG aG e3 (aOk 4)) w λe4 w=>
 bQ e4
  (aA pg (HX 90 e2 e3) w λe5 w=>
  aK pg B2 #[(.int .u64 0),e5] w λe8 w=>
  aA pg (aD .xor 32 aG aG oK e8) w λe9 w=>
  aA pg (aD .mul 32 aG aG e9 (.int .u64 11400714785074694791)) w λf0 w=>
  aA pg (aD .add 32 aG aG f0 (.int .u64 9650029242287828579)) w λf1 w=>
  aA pg (aD .add 3 aG aG e3 (aOk 1)) w λf2 w=>
  kn f1 e2 f2 w)
  (k2 oK w)
def fQ(k2:K1) oK e2 e3 w:=
 aX (λ(X:(aOj×aOj)->K0) (t:aOj×aOj) (w:aOi)=>uS (λoK _ e3 w=>X (oK,e3) w) k2 t.1 e2 t.2 w) (oK,e3) w
theorem Q4 (k2:K1)(h2:E1 Q k2 2 3)(h:fQ k2 (g 3) (g 32) (g 33) w):cP pg lX (bI (aI 1 (aQ 1 (aI 1 (aI 3 kZ))))) Q g w:=by
 refine AL (λg:Env=>(g 3,g 33)) (λX t w=>uS (λoK _ e3 w=>X (oK,e3) w) k2 t.1 (g 32) t.2 w) h (λX g1 w1 ha hL=> ?_)
 rw[<-cI 32 ha]at hL
 exact(zK [(2,(TR k2 3))] (kr:=no) (TE (λoK _ e3 w=>X (oK,e3) w) 3 32 33) hL cO DN ⟨h2,trivial⟩)
def kN(kn:K3) uU oK w:=
 aA pg (dQ uU) w λe0 w=>
 aA pg (aJ 93 e0 0) w λe1 w=>
 aA pg (aH 90 e1) w λe2 w=>
 kn oK e2 (aOk 0) w
def iA(kn:K1) uU oK w:=
 kN (fQ kn) uU oK w
def iB(R:K1) uU oK w:=
 iA (hZ R) uU oK w
theorem Q5 (kn:K1)(hn:N1 Q kn 3)(h:iA kn (g 0) (g 3) w):cP pg lX (aQ 1 (aI 1 (aI 3 kZ))) Q g w:=
 bZ 1 (eL (TE (fQ kn) 3 32 33) h (λg w h=>aE (qM 2 (Q4 _ g w kn hn h))))
def uT(kn:K4)(k0:K2) uU oK c3 c4 w:=
 aA pg (aD .lss 3 aG aG c4 (aOk 4)) w λc5 w=>
 bQ c5
  (aA pg (HX 139 c3 c4) w λc7 w=>
  aA pg (dQ uU) w λd1 w=>
  aA pg (aJ 93 d1 0) w λd2 w=>
  aA pg (aO 90 d2 c4) w λd3 w=>
  aA pg (aH 32 d3) w λd4 w=>
  aK pg dG #[d4,c7] w λd6 w=>
  aA pg (aD .add 32 aG aG oK d6) w λd7 w=>
  aA pg (aD .add 3 aG aG c4 (aOk 1)) w λd8 w=>
  kn uU d7 c3 d8 w)
  (k0 uU oK w)
def fR(k0:K2) uU oK c3 c4 w:=
 aX (λ(X:(aOj×aOj)->K0) (t:aOj×aOj) (w:aOi)=>uT (λ_ oK _ c4 w=>X (oK,c4) w) k0 uU t.1 c3 t.2 w) (oK,c4) w
theorem Q6 (k0:K2)(h0:E2 Q k0 0 0 3)(h:fR k0 (g 0) (g 3) (g 13) (g 14) w):cP pg lX (bI (aI 1 (aQ 1 (aI 3 kZ)))) Q g w:=by
 refine AL (λg:Env=>(g 3,g 14)) (λX t w=>uT (λ_ oK _ c4 w=>X (oK,c4) w) k0 (g 0) t.1 (g 13) t.2 w) h (λX g1 w1 ha hL=> ?_)
 rw[<-cI 0 ha,<-cI 13 ha]at hL
 exact(zK [(0,(Kf k0 0 3))] (kr:=no) (AK (λ_ oK _ c4 w=>X (oK,c4) w) 0 3 13 14) hL cO DN ⟨h0,trivial⟩)
def jN(kn:K4) uU oK w:=
 aA pg (bH 139 [(0,(aOk 1)),(1,(aOk 7)),(2,(aOk 12)),(3,(aOk 18))]) w λc3 w=>
 kn uU oK c3 (aOk 0) w
def gC(kn:K2) uU oK w:=
 jN (fR kn) uU oK w
def gD(R:K1) uU oK w:=
 gC (iB R) uU oK w
theorem Pj(kn:K2)(hn:N2 Q kn 0 3)(h:gC kn (g 0) (g 3) w):cP pg lX (aQ 1 (aI 3 kZ)) Q g w:=
 bZ 1 (eL (AK (fR kn) 0 3 13 14) h (λg w h=>aE (qM 0 (Q6 _ g w kn hn h))))
def gE(kn:K2)(R:K1) uU w:=
 aA pg (dQ uU) w λb9 w=>
 aA pg (aJ 93 b9 3) w λc0 w=>
 aA pg (aH 32 c0) w λc1 w=>
 aA pg (aD .lss 32 aG aG c1 (.int .u64 32)) w λc2 w=>
 bQ c2
  (R (.int .u64 2870177450012600261) w)
  (kn uU (.int .u64 0) w)
def gF(R:K1) uU w:=
 gE (gD R) R uU w
def G6 a0 w(R:K1):=
 gF R a0 w
theorem TB{a0 w R}(h:G6 a0 w R):aK pg wY #[a0] w R:=
 lB (ann:=lX) Tryz.f51 kZ [a0] WL 44 TryzM.mixed Tryz.func51 (bZ 3 (Lk (Kf (gD R) 0 3) h (λg w h=>aE (bZ 1 (Pj _ g w (iB R) (λg w h=>aE (bZ 1 (Q5 _ g w (hZ R) (λg w h=>aE (lT h cO)) h))) h))) cO))
def Ie:FA:=⟨dG,λi=> .leaf ([],[]) []⟩
def J3:List ResultVar:=[.tmp 4]
noncomputable def HM:Code:=aY Tryz.f52
def zZ(R:K1) fU k_1 w:=
 aA pg (cH 3 50 k_1) w λb7 w=>
 aA pg (aD .and 50 aG aG b7 (.int .u64 63)) w λb8 w=>
 aA pg (aD .shl 32 aG aG fU b8) w λc1 w=>
 aA pg (aD .sub 50 aG aG (.int .u64 64) b8) w λc4 w=>
 aA pg (aD .shr 32 aG aG fU c4) w λc5 w=>
 aA pg (aD .or 32 aG aG c1 c5) w λc6 w=>
 R c6 w
def Db a0 a1 w(R:K1):=
 zZ R a0 a1 w
theorem HQ{a0 a1 w R}(h:Db a0 a1 w R):aK pg dG #[a0,a1] w R:=
 lB (ann:=Ie) Tryz.f52 HM [a0,a1] J3 17 TryzM.mixed Tryz.func52 (lT h cO)
def NW:FA:=⟨kT,λi=> .leaf ([],[]) []⟩
def QK:List ResultVar:=[.tmp 6]
noncomputable def Mt:Code:=aY Tryz.f53
def DV(R:K1) QH KE aJJ w:=
 aA pg (dQ QH) w λc0 w=>
 aA pg (aJ 97 c0 1) w λc1 w=>
 aA pg (aH 24 c1) w λc2 w=>
 aA pg (aD .neq 24 (.tmp 12) (.const (aOk 0)) c2 (aOk 0)) w λc3 w=>
 bQ c3
  (R (.slice none 0 0) w)
  (aA pg (sUn .not aJJ) w λc6 w=>
  bQ c6
   (aA pg (dQ QH) w λc8 w=>
   aA pg (aJ 97 c8 1) w λc9 w=>
   aA pg (aM 24 c9 (aOk 1)) w λ_u w=>
   R (.slice none 0 0) w)
   (aA pg (dQ QH) w λd3 w=>
   aA pg (aJ 97 d3 0) w λd4 w=>
   aA pg (aH 22 d4) w λd5 w=>
   aA pg (dD .len #[22] 3 [d5]) w λd6 w=>
   aA pg (aD .gtr 3 aG aG KE d6) w λd7 w=>
   bQ d7
    (aA pg (dQ QH) w λd9 w=>
    aA pg (aJ 97 d9 1) w λe0 w=>
    aA pg (aM 24 e0 (aOk 10)) w λ_u w=>
    R (.slice none 0 0) w)
    (aA pg (dQ QH) w λe2 w=>
    aA pg (aJ 97 e2 0) w λe3 w=>
    aA pg (aH 22 e3) w λe4 w=>
    aA pg (bP 22 e4 none (some KE) (some KE)) w λe7 w=>
    aA pg (dQ QH) w λf0 w=>
    aA pg (aJ 97 f0 0) w λf1 w=>
    aA pg (aH 22 f1) w λf2 w=>
    aA pg (bP 22 f2 (some KE) none none) w λf4 w=>
    aA pg (dQ QH) w λf5 w=>
    aA pg (aJ 97 f5 0) w λf6 w=>
    aA pg (aM 22 f6 f4) w λ_u w=>
    R e7 w)))
def Ir a0 a1 a2 w(R:K1):=
 DV R a0 a1 a2 w
theorem MD{a0 a1 a2 w R}(h:Ir a0 a1 a2 w R):aK pg kT #[a0,a1,a2] w R:=
 lB (ann:=NW) Tryz.f53 Mt [a0,a1,a2] QK 48 TryzM.mixed Tryz.func53 (lT h cO)
def Mf:FA:=⟨gI,λi=> .leaf ([],[]) []⟩
def OW:List ResultVar:=[.tmp 4]
noncomputable def KT:Code:=aY Tryz.f54
def CJ(R:K1) QH KE w:=
 aA pg (aD .eql 54 (.tmp 5) (.const (.pointer none)) QH (.pointer none)) w λb6 w=>
 bQ b6
  (R (.slice none 0 0) w)
  (aA pg (aD .geq 3 aG aG KE (aOk 0)) w λc0 w=>
  aK pg kT #[QH,KE,c0] w λc1 w=>
  R c1 w)
def Ha a0 a1 w(R:K1):=
 CJ R a0 a1 w
theorem La{a0 a1 w R}(h:Ha a0 a1 w R):aK pg gI #[a0,a1] w R:=
 lB (ann:=Mf) Tryz.f54 KT [a0,a1] OW 12 TryzM.mixed Tryz.func54 (lT h cO)
def agE:FA:=⟨HI,λi=>match Nat.beq i 28 with|true=> .leaf ([4,6],[(0,4),(2,4),(2,6),(5,6)]) (fz 4 (ft [1,3] (fz 1 (ft [0,3] (fz 2 [])))))|false=> .leaf ([],[]) []⟩
def alJ:List ResultVar:=[.cell 2 101,.tmp 3,.tmp 4]
noncomputable def adR:Code:=aY Tryz.f55
def FB(R:K1) jC b2 W7 PE qP w:=
 aK pg cU #[W7] w λl9 w=>
 aA pg (aD .neq 24 (.tmp 79) (.const (aOk 0)) l9 (aOk 0)) w λm0 w=>
 bQ m0
  (aA pg (bH 101 []) w λm1 w=>
  aK pg cU #[W7] w λm3 w=>
  aA pg (aM 101 b2 m1) w λ_u w=>
  vU pg 101 b2 w λr0=>R (.tuple #[r0,(aOk 0),m3]) w)
  (aA pg (aD .neq 32 (.tmp 85) (.const (.int .u64 0)) qP (.int .u64 0)) w λm6 w=>
  bQ m6
   (aA pg (bH 101 []) w λm7 w=>
   aA pg (aM 101 b2 m7) w λ_u w=>
   vU pg 101 b2 w λr0=>R (.tuple #[r0,(aOk 0),(aOk 14)]) w)
   (aA pg (aH 101 PE) (dr w) λm8 w_=>w_=(dr w)/\
   (dr w)=(dr w)/\
   aA pg (dD .len #[22] 3 [jC]) (dr w) λn0 w_=>w_=(dr w)/\
   (dr w)=(dr w)/\
   aK pg eT #[W7] (dr w) λn2 awB=>
   (dR pg (dD .len #[22] 3 [jC]) n0 awB/\dR pg (aH 101 PE) m8 awB/\True)/\
   aA pg (aD .sub 3 aG aG n0 n2) awB λn3 w_=>w_=awB/\
   aA pg (aM 101 b2 m8) awB λ_u6 adE=>
   (dR pg (aD .sub 3 aG aG n0 n2) n3 adE/\dR pg (dD .len #[22] 3 [jC]) n0 adE/\True)/\
   adE=adE/\
   adE=adE/\
   vU pg 101 b2 adE λr0=>R (.tuple #[r0,n3,(aOk 0)]) adE))
def U2 (kn:K5) jC b2 W7 PE sW qP w:=
 bQ sW
  (aA pg (aJ 101 PE 1) w λl4 w=>
  aA pg (aH 32 l4) w λl5 w=>
  aA pg (aJ 101 PE 0) w λl6 w=>
  aA pg (aM 32 l6 l5) w λ_u w=>
  kn jC b2 W7 PE qP w)
  (kn jC b2 W7 PE qP w)
def FC(R:K1) jC b2 W7 PE sW qP w:=
 U2 (FB R) jC b2 W7 PE sW qP w
def U3 (kn:K6) jC b2 W7 PE sW qP alE w:=
 aA pg (aD .eql 3 (.tmp 67) (.const (aOk 2)) alE (aOk 2)) w λj8 w=>
 bQ j8
  (aA pg (aJ 101 PE 1) w λj9 w=>
  aA pg (aH 32 j9) w λl0 w=>
  aA pg (aD .add 32 aG aG l0 (.int .u64 256)) w λl1 w=>
  aA pg (aJ 101 PE 1) w λl2 w=>
  aA pg (aM 32 l2 l1) w λ_u w=>
  kn jC b2 W7 PE sW qP w)
  (kn jC b2 W7 PE sW qP w)
def FD(R:K1) jC b2 W7 PE sW qP alE w:=
 U3 (FC R) jC b2 W7 PE sW qP alE w
def U4 (kn:K7) jC b2 W7 PE sW qP alE w:=
 aA pg (aD .gtr 3 aG aG alE (aOk 0)) w λj1 w=>
 bQ j1
  (aK pg cC #[W7,alE] w λj4 w=>
  aA pg (aJ 101 PE 1) w λj5 w=>
  aA pg (aM 32 j5 j4) w λ_u w=>
  aA pg (aJ 101 PE 2) w λj6 w=>
  aA pg (aM 4 j6 (.bool true)) w λ_u w=>
  kn jC b2 W7 PE sW qP alE w)
  (kn jC b2 W7 PE sW qP alE w)
def AT(R:K1) jC b2 W7 PE sW qP alE w:=
 U4 (FD R) jC b2 W7 PE sW qP alE w
def U5 (kn:K7) jC b2 W7 d_6 PE sW qP w:=
 aA pg (bH 139 [(0,(aOk 0)),(1,(aOk 2)),(2,(aOk 4)),(3,(aOk 8))]) w λi1 w=>
 aA pg (aD .shr 3 aG aG d_6 (.int .u64 6)) w λi3 w=>
 aA pg (HX 139 i1 i3) w λi4 w=>
 Gd (bK sW true) (λK=>K i4 w) w λi7 w=>
 Gd (bK sW true) (λK=>aA pg (aD .eql 3 (.tmp 57) (.const (aOk 0)) i7 (aOk 0)) w K) w λi8 w=>
 aA pg (cD sW i8 (.bool false)) w λi9 w=>
 bQ i9
  (kn jC b2 W7 PE sW qP (aOk 1) w)
  (kn jC b2 W7 PE sW qP i4 w)
def AU(R:K1) jC b2 W7 d_6 PE sW qP w:=
 U5 (AT R) jC b2 W7 d_6 PE sW qP w
def RS(kn:K7) jC b2 W7 d_6 PE sW w:=
 aA pg (bH 139 [(0,(aOk 0)),(1,(aOk 1)),(2,(aOk 2)),(3,(aOk 4))]) w λf2 w=>
 aA pg (aD .and 3 aG aG d_6 (aOk 3)) w λf4 w=>
 aA pg (HX 139 f2 f4) w λf5 w=>
 aA pg (aD .gtr 3 aG aG f5 (aOk 0)) w λf7 w=>
 bQ f7
  (aK pg cC #[W7,f5] w λi0 w=>
  kn jC b2 W7 d_6 PE sW i0 w)
  (kn jC b2 W7 d_6 PE sW (.int .u64 0) w)
def CV(R:K1) jC b2 W7 d_6 PE sW w:=
 RS (AU R) jC b2 W7 d_6 PE sW w
def RT(kn:K6)(R:K1) jC w:=
 aA pg (bG 101) w λb2 w=>
 aK pg fL #[jC] w λc3 w=>
 aK pg cC #[c3,(aOk 1)] w λc5 w=>
 aA pg (cH 32 3 c5) w λc6 w=>
 aK pg cU #[c3] w λc9 w=>
 aA pg (aD .neq 24 (.tmp 19) (.const (aOk 0)) c9 (aOk 0)) w λd0 w=>
 bQ d0
  (aA pg (bH 101 []) w λd1 w=>
  aK pg cU #[c3] w λd3 w=>
  aA pg (aM 101 b2 d1) w λ_u w=>
  vU pg 101 b2 w λr0=>R (.tuple #[r0,(aOk 0),d3]) w)
  (aA pg (aD .and 3 aG aG c6 (aOk 8)) w λd6 w=>
  aA pg (aD .neq 3 (.tmp 26) (.const (aOk 0)) d6 (aOk 0)) w λd7 w=>
  bQ d7
   (aA pg (bH 101 []) w λd8 w=>
   aA pg (aM 101 b2 d8) w λ_u w=>
   vU pg 101 b2 w λr0=>R (.tuple #[r0,(aOk 0),(aOk 11)]) w)
   (aA pg (aD .and 3 aG aG c6 (aOk 4)) w λe0 w=>
   aA pg (aD .neq 3 (.tmp 30) (.const (aOk 0)) e0 (aOk 0)) w λe1 w=>
   aA pg (bH 101 [(3,e1)]) w λe2 w=>
   aA pg (bG 101) w λPE w=>
   aA pg (aM 101 PE e2) w λ_u w=>
   aA pg (aD .and 3 aG aG c6 (aOk 32)) w λe4 w=>
   aA pg (aD .neq 3 (.tmp 34) (.const (aOk 0)) e4 (aOk 0)) w λe5 w=>
   aA pg (sUn .not e5) w λe7 w=>
   bQ e7
    (aK pg cC #[c3,(aOk 1)] w λe9 w=>
    aK pg Co #[e9] w λf0 w=>
    aA pg (aJ 101 PE 0) w λf1 w=>
    aA pg (aM 32 f1 f0) w λ_u w=>
    kn jC b2 c3 c6 PE e5 w)
    (kn jC b2 c3 c6 PE e5 w)))
def RU(R:K1) jC w:=
 RT (CV R) R jC w
def ahF a0 w(R:K1):=
 RU R a0 w
theorem adZ{a0 w R}(h:ahF a0 w R):aK pg HI #[a0] w R:=
 lB (ann:=agE) Tryz.f55 adR [a0] alJ 94 TryzM.mixed Tryz.func55 (bZ 7 (Lk (TS (CV R) 0 2 5 6 7 8) h (λg w h=>aE (bZ 2 (eL (JW (AU R) 0 2 5 6 7 8 9) h (λg w h=>aE (bZ 2 (eL (JW (AT R) 0 2 5 7 8 9 11) h (λg w h=>aE (bZ 1 (eL (JW (FD R) 0 2 5 7 8 9 11) h (λg w h=>aE (bZ 1 (eL (TS (FC R) 0 2 5 7 8 9) h (λg w h=>aE (bZ 1 (eL (NQ (FB R) 0 2 5 7 9) h (λg w h=>aE (lT h cO))))))))))))))))) cO))
def NX:FA:=⟨pD,λi=>match Nat.beq i 24 with|true=> .leaf ([],[]) (fz 13 [])|false=>match Nat.beq i 26 with|true=> .leaf ([5],[(2,5),(3,5)]) (fz 5 (ft [1,2] (fz 2 [])))|false=> .leaf ([],[]) []⟩
def QL:List ResultVar:=[.tmp 8,.cell 9 110,.tmp 10,.tmp 11]
noncomputable def Mu:Code:=aY Tryz.f56
def kA(R:K1) lU H9 g_6 b9 Tx w:=
 (dr w)=(dr w)/\
 aA pg (dQ lU) (dr w) λm8 w_=>w_=(dr w)/\
 aA pg (aJ 56 m8 3) (dr w) λm9 w_=>w_=(dr w)/\
 aA pg (aH 22 m9) (dr w) λn0 w_=>w_=(dr w)/\
 aA pg (dD .len #[22] 3 [n0]) (dr w) λn1 w_=>w_=(dr w)/\
 (dr w)=(dr w)/\
 aA pg (dD .len #[22] 3 [H9]) (dr w) λn3 w_=>w_=(dr w)/\
 aA pg (aD .add 3 aG aG n1 n3) (dr w) λn4 w_=>w_=(dr w)/\
 (dr w)=(dr w)/\
 aA pg (dQ lU) (dr w) λn6 w_=>w_=(dr w)/\
 aA pg (aJ 56 n6 2) (dr w) λn7 w_=>w_=(dr w)/\
 aA pg (aH 3 n7) (dr w) λn8 w_=>w_=(dr w)/\
 aA pg (aD .gtr 3 aG aG n4 n8) (dr w) λn9 w_=>w_=(dr w)/\
 bQ n9
  (aA pg (bH 110 []) (dr w) λo0 w=>
  aA pg (aM 110 b9 o0) w λ_u w=>
  vU pg 110 b9 w λr1=>R (.tuple #[(.slice none 0 0),r1,(.bool false),(aOk 12)]) w)
  ((dr (dr w))=(dr (dr w))/\
  aA pg (aH 110 g_6) (dr (dr w)) λo2 w_=>w_=(dr (dr w))/\
  aA pg (aJ 65 Tx 0) (dr (dr w)) λo3 w_=>w_=(dr (dr w))/\
  aA pg (aH 4 o3) (dr (dr w)) λo4 w_=>w_=(dr (dr w))/\
  (dr (dr w))=(dr (dr w))/\
  aA pg (aM 110 b9 o2) (dr (dr w)) λ_u5 adD=>
  (dR pg (aH 4 o3) o4 adD/\dR pg (aJ 65 Tx 0) o3 adD/\True)/\
  adD=adD/\
  adD=adD/\
  vU pg 110 b9 adD λr1=>R (.tuple #[H9,r1,o4,(aOk 0)]) adD)
def DW(kn:K5)(R:K1) lU H9 DL g_6 b9 agM Tx Yr w:=
 aK pg iC #[lU,Yr] w λi1 w=>
 aA pg (aV i1 0) w λi2 w=>
 aA pg (aV i1 1) w λi3 w=>
 aA pg (aD .neq 24 (.tmp 54) (.const (aOk 0)) i3 (aOk 0)) w λi5 w=>
 bQ i5
  (aA pg (bH 110 []) w λi6 w=>
  aA pg (aM 110 b9 i6) w λ_u w=>
  vU pg 110 b9 w λr1=>R (.tuple #[(.slice none 0 0),r1,(.bool false),i3]) w)
  (aA pg (aJ 65 Tx 1) w λi8 w=>
  aA pg (aH 3 i8) w λi9 w=>
  aA pg (aD .eql 3 (.tmp 59) (.const (aOk 0)) i9 (aOk 0)) w λl5 w=>
  bQ l5
   (aA pg (dD .append #[22,22] 22 [H9,i2]) w λl8 w=>
   kn lU l8 g_6 b9 Tx w)
   (aA pg (aD .eql 3 (.tmp 59) (.const (aOk 1)) i9 (aOk 1)) w λm0 w=>
   bQ m0
    (aA pg (aJ 65 Tx 2) w λm3 w=>
    aA pg (aH 3 m3) w λm4 w=>
    aK pg pI #[i2,m4] w λm5 w=>
    aA pg (dD .append #[22,22] 22 [H9,m5]) w λm6 w=>
    kn lU m6 g_6 b9 Tx w)
    (aA pg (aH 110 g_6) w λj3 w=>
    aK pg adJ #[i2,H9,j3,DL,agM] w λj6 w=>
    aA pg (aV j6 0) w λj7 w=>
    aA pg (aV j6 1) w λj8 w=>
    aA pg (aV j6 2) w λj9 w=>
    aA pg (aM 110 g_6 j8) w λ_u w=>
    aA pg (aD .neq 24 (.tmp 70) (.const (aOk 0)) j9 (aOk 0)) w λl1 w=>
    bQ l1
     (aA pg (bH 110 []) w λl2 w=>
     aA pg (aM 110 b9 l2) w λ_u w=>
     vU pg 110 b9 w λr1=>R (.tuple #[(.slice none 0 0),r1,(.bool false),j9]) w)
     (kn lU j7 g_6 b9 Tx w))))
def kB(R:K1) lU H9 DL g_6 b9 agM Tx Yr w:=
 DW (kA R) R lU H9 DL g_6 b9 agM Tx Yr w
def DX(kn:K8)(R:K1) lU H9 g_2 DL w:=
 aA pg (A0 110 g_2) w λg_6 w=>
 aA pg (bG 110) w λb9 w=>
 aA pg (dD .min #[32,32] 32 [DL,(.int .u64 131072)]) w λc8 w=>
 aA pg (cH 32 3 c8) w λc9 w=>
 aK pg iC #[lU,(aOk 3)] w λd2 w=>
 aA pg (aV d2 0) w λd3 w=>
 aA pg (aV d2 1) w λd4 w=>
 aA pg (aD .neq 24 (.tmp 25) (.const (aOk 0)) d4 (aOk 0)) w λd6 w=>
 bQ d6
  (aA pg (bH 110 []) w λd7 w=>
  aA pg (aM 110 b9 d7) w λ_u w=>
  vU pg 110 b9 w λr1=>R (.tuple #[(.slice none 0 0),r1,(.bool false),d4]) w)
  (aK pg wR #[d3] w λe1 w=>
  aA pg (aV e1 0) w λe2 w=>
  aA pg (aV e1 1) w λe3 w=>
  aA pg (bG 65) w λTx w=>
  aA pg (aM 65 Tx e2) w λ_u w=>
  aA pg (aD .neq 24 (.tmp 34) (.const (aOk 0)) e3 (aOk 0)) w λe5 w=>
  bQ e5
   (aA pg (bH 110 []) w λe6 w=>
   aA pg (aM 110 b9 e6) w λ_u w=>
   vU pg 110 b9 w λr1=>R (.tuple #[(.slice none 0 0),r1,(.bool false),e3]) w)
   (aA pg (aJ 65 Tx 2) w λe8 w=>
   aA pg (aH 3 e8) w λe9 w=>
   aA pg (aD .gtr 3 aG aG e9 c9) w λf1 w=>
   bQ f1
    (aA pg (bH 110 []) w λf2 w=>
    aA pg (aM 110 b9 f2) w λ_u w=>
    vU pg 110 b9 w λr1=>R (.tuple #[(.slice none 0 0),r1,(.bool false),(aOk 12)]) w)
    (aA pg (aJ 65 Tx 2) w λf3 w=>
    aA pg (aH 3 f3) w λf4 w=>
    aA pg (aJ 65 Tx 1) w λf5 w=>
    aA pg (aH 3 f5) w λf6 w=>
    aA pg (aD .eql 3 (.tmp 46) (.const (aOk 1)) f6 (aOk 1)) w λf7 w=>
    bQ f7
     (kn lU H9 DL g_6 b9 c9 Tx (aOk 1) w)
     (kn lU H9 DL g_6 b9 c9 Tx f4 w))))
def DY(R:K1) lU H9 g_2 DL w:=
 DX (kB R) R lU H9 g_2 DL w
def Iv a0 a1 a2 a3 w(R:K1):=
 DY R a0 a1 a2 a3 w
theorem MG{a0 a1 a2 a3 w R}(h:Iv a0 a1 a2 a3 w R):aK pg pD #[a0,a1,a2,a3] w R:=
 lB (ann:=NX) Tryz.f56 Mu [a0,a1,a2,a3] QL 105 TryzM.mixed Tryz.func56 (bZ 9 (Lk (Mq8 (kB R) 0 1 3 6 9 12 15 16) h (λg w h=>aE (bZ 2 (Lk (NQ (kA R) 0 1 6 9 15) h (λg w h=>aE (lT h cO)) cO))) cO))
def Mh:FA:=⟨jY,λi=> .leaf ([],[]) []⟩
def OY:List ResultVar:=[.tmp 4]
noncomputable def KV:Code:=aY Tryz.f57
def CO(R:K1) lU H9 w:=
 aK pg iC #[lU,(aOk 4)] w λc0 w=>
 aA pg (aV c0 0) w λc1 w=>
 aA pg (aV c0 1) w λc2 w=>
 aA pg (aD .neq 24 (.tmp 13) (.const (aOk 0)) c2 (aOk 0)) w λc4 w=>
 bQ c4
  (R c2 w)
  (aK pg fL #[c1] w λc7 w=>
  aK pg cC #[c7,(aOk 4)] w λc8 w=>
  aK pg Mc #[H9] w λd1 w=>
  aA pg (aD .and 32 aG aG d1 (.int .u64 4294967295)) w λd2 w=>
  aA pg (aD .neq 32 (.tmp 19) (.tmp 22) c8 d2) w λd3 w=>
  bQ d3
   (R (aOk 13) w)
   (R (aOk 0) w))
def Hc a0 a1 w(R:K1):=
 CO R a0 a1 w
theorem Li{a0 a1 w R}(h:Hc a0 a1 w R):aK pg jY #[a0,a1] w R:=
 lB (ann:=Mh) Tryz.f57 KV [a0,a1] OY 24 TryzM.mixed Tryz.func57 (lT h cO)
def oM:FA:=⟨rU,λi=> .leaf ([],[]) []⟩
def qS:List ResultVar:=[.tmp 4]
noncomputable def nF:Code:=aY Tryz.f58
def qT(R:K1) w:=
 R (aOk (-1)) w
def qU(kn:K4)(k0:K0)(R:K1) lU f_1 b7 b8 w:=
 aA pg (aD .lss 3 aG aG b8 b7) w λb9 w=>
 bQ b9
  (aA pg (aO 22 lU b8) w λc4 w=>
  aA pg (aH 5 c4) w λc5 w=>
  aA pg (BF f_1 [c5]) w λc6 w=>
  bQ c6
   (R b8 w)
   (aA pg (aD .add 3 aG aG b8 (aOk 1)) w λc8 w=>
   kn lU f_1 b7 c8 w))
  (k0 w)
def kQ(k0:K0)(R:K1) lU f_1 b7 b8 w:=
 aX (λ(X:aOj->K0) (t:aOj) (w:aOi)=>qU (λ_ _ _ b8 w=>X b8 w) k0 R lU f_1 b7 t w) b8 w
theorem HY(k0:K0)(R:K1)(h0:E0 Q k0 0)(hr:HR qS R Q)(h:kQ k0 R (g 0) (g 1) (g 7) (g 8) w):cP pg oM (bI (aI 1 (aQ 1 (aI 1 nF)))) Q g w:=by
 refine AL (λg:Env=>g 8) (λX t w=>qU (λ_ _ _ b8 w=>X b8 w) k0 R (g 0) (g 1) (g 7) t w) h (λX g1 w1 ha hL=> ?_)
 rw[<-cI 0 ha,<-cI 1 ha,<-cI 7 ha]at hL
 exact(zK [(0,(Mq0 k0))] (AK (λ_ _ _ b8 w=>X b8 w) 0 1 7 8) hL cO hr ⟨h0,trivial⟩)
def A6 (kn:K4) lU f_1 w:=
 aA pg (dD .len #[22] 3 [lU]) w λb7 w=>
 kn lU f_1 b7 (aOk 0) w
def qV(kn:K0)(R:K1) lU f_1 w:=
 A6 (kQ kn R) lU f_1 w
def qW(R:K1) lU f_1 w:=
 qV (qT R) R lU f_1 w
theorem HZ(kn:K0)(R:K1)(hn:N0 Q kn)(hr:HR qS R Q)(h:qV kn R (g 0) (g 1) w):cP pg oM (aQ 1 (aI 1 nF)) Q g w:=
 bZ 1 (eL (AK (kQ kn R) 0 1 7 8) h (λg w h=>aE (qM 0 (HY _ g w kn R hn hr h))))
def A7 (kn:K2) lU f_1 w:=
 kn lU f_1 w
def A8 (R:K1) lU f_1 w:=
 A7 (qW R) lU f_1 w
def Ef a0 a1 w(R:K1):=
 A8 R a0 a1 w
theorem Jy{a0 a1 w R}(h:Ef a0 a1 w R):aK pg rU #[a0,a1] w R:=
 lB (ann:=oM) Tryz.f58 nF [a0,a1] qS 19 TryzM.mixed Tryz.func58 (bZ 1 (eL (Kf (qW R) 0 1) h (λg w h=>aE (bZ 1 (HZ _ g w (qT R) R (λg w h=>aE (lT h cO)) cO h)))))
end Go.Proofs.YtoecppploooloaaGreatDoor

/- Parts of the proof of EncodeBound: merged and given short names by a program of ours. -/
import Derived.Orders
import Derived.Below
import Derived.KernelRfl
import Derived.Eval
import Derived.RangeFuncRecord
import Derived.Laws.Sem
import Derived.Scope
import Derived.Test.YtoecppploooloaaGreatDoorRows
set_option linter.unusedVariables false
set_option linter.unusedSimpArgs false
open Array renaming getElem?_eq_getElem → aL4, getD_eq_getD_getElem? → aLM, all_eq_true' → aM2, getElem?_eq_none → aMH, getElem?_setIfInBounds_self_of_lt → aMi, getElem?_setIfInBounds_ne → aMv, getElem?_toList → aNS, length_toList → aNu, mem_of_getElem? → aOe
open Bool renaming false_eq_true → aLF, and_eq_true → aLQ, or_eq_true → aM8, not_true → aMy, or_eq_false_iff → aNV, not_eq_true' → aNi
open List renaming mem_map → aL5, map_cons → aL7, drop_eq_getElem_cons → aL8, getElem?_eq_none → aLH, mem_cons_of_mem → aLN, length_cons → aLS, getElem_of_mem → aLY, getElem?_eq_getElem → aLt, getElem?_cons_succ → aLw, getD_eq_getElem?_getD → aLz, map_congr_left → aME, toList_toArray → aMX, mem_cons_self → aMa, length_eq_zero_iff → aMc, mem_cons → aMd, mem_of_getElem? → aMm, all_eq_true → aMn, mem_append → aMq, mem_range → aMs, mem_filter → aN0, length_erase_of_mem → aN2, map_nil → aN3, mem_append_right → aNT, mem_append_left → aNs, range'_succ → aOd
open Nat renaming le_refl → aLA, zero_add → aLI, lt_or_ge → aLL, add_assoc → aMM, eq_of_beq_eq_true → aMj, le_trans → aMu, blt_eq → aNL, mod_lt → aNM, le_of_ble_eq_true → aNq, lt_of_lt_of_le → aNr, lt_trichotomy → aNt, le_total → aOj
open Option renaming map_some → aL6, getD_some → aNw
open Option.some renaming inj → aLW, injEq → aNR
namespace Go.En
open Go
abbrev aOm:=World
abbrev aOn:=Value
abbrev Env:=Nat->aOn
def put(g:Env)(d:Option Tmp)(v:aOn):Env:=
 match d with
 |some d=>λi=>match Nat.beq i d with|true=>v|false=>g i
 |none=>g
def ev(g:Env):Operand->aOn
 | .tmp t=>g t
 | .const v=>v
 | .global b=> .pointer (some ⟨b,0,none⟩)
 | .func f=> .func (.func f) #[] #[]
def Ret(P:Program)(f:FuncId)(args:Array aOn)(w:aOm)(v:aOn)(w':aOm):Prop:=
 Calls P f args w λe w''=>e= .returned v/\w''=w'
def aK(P:Program)(f:FuncId)(args:Array aOn)(w:aOm)(R:aOn->aOm->Prop):Prop:=
 ∃v w',Ret P f args w v w'/\R v w'
theorem aK.mono {P:Program}{f:FuncId}{args:Array aOn}{w:aOm}{R R':aOn->aOm->Prop}(h:aK P f args w R)
 (hr:∀v w',R v w'->R' v w'):aK P f args w R':=
 let⟨v,w',a,b⟩:=h;⟨v,w',a,hr _ _ b⟩
def aJn(P:Program)(l:Nat)(f:FuncId)(tmps:Array aOn)(aLr bd:Code)(w:aOm)(v:aOn)(w':aOm):Prop:=
 RoundIn Fence.wide 0 P l f tmps aLr bd w λe w''=>e= .returned v/\w''=w'
def amA(P:Program)(l:Nat)(f:FuncId)(tmps:Array aOn)(aLr bd:Code)(w:aOm)(R:aOn->aOm->Prop):Prop:=
 ∃v w',aJn P l f tmps aLr bd w v w'/\R v w'
def anT(P:Program)(r:Result Next)(K:aOn->aOm->Prop):Prop:=
 match r with
 | .ok (.value v) w=>K v w
 | .ok .skip w=>K undef w
 | .ok (.enter f args) w=>aK P f args w K
 | .ok (.round l f tmps aLr bd) w=>amA P l f tmps aLr bd w K
 |_=>False
theorem aF(P:Program)(v:aOn)(w:aOm)(K:aOn->aOm->Prop):anT P (.ok (.value v) w) K=K v w:=Eq.trans rfl rfl
theorem stepR_skip(P:Program)(w:aOm)(K:aOn->aOm->Prop):anT P (.ok .skip w) K=K undef w:=Eq.trans rfl rfl
theorem G6 (P:Program)(f:FuncId)(args:Array aOn)(w:aOm)(K:aOn->aOm->Prop):anT P (.ok (.enter f args) w) K=aK P f args w K:=Eq.trans rfl rfl
theorem avQ(P:Program)(l:Nat)(f:FuncId)(tmps:Array aOn)(aLr bd:Code)(w:aOm)(K:aOn->aOm->Prop):
 anT P (.ok (.round l f tmps aLr bd) w) K=amA P l f tmps aLr bd w K:=Eq.trans rfl rfl
def aA(P:Program)(s:Sem Next)(w:aOm)(K:aOn->aOm->Prop):Prop:=anT P (s.run P w) K
def dT(P:Program)(s:Sem Next)(v:aOn)(w:aOm):Prop:=s.run P w= .ok (.value v) w
def Gd(b:Bool)(s:(aOn->aOm->Prop)->Prop)(w:aOm)(K:aOn->aOm->Prop):Prop:=
 match b with
 |true=>s K
 |false=>K undef w
def asB(v:aOn):Option Bool:=match v with| .bool b=>some b|_=>none
def bK(v:aOn)(want:Bool):Bool:=asB v==some want
def bQ(v:aOn)(A B:Prop):Prop:=
 match v with
 | .bool b=>(match b with|true=>A|false=>B)
 |_=>False
def Fl(ops:Array Oper)(j:Nat):Option Tmp:=(ops[j]?).bind (·.dst)
def Bo(g:Env)(t:Option Tmp)(want:Bool):Bool:=match t with|some t=>bK (g t) want|none=>false
def V(s:Sem aOn):Sem Next:=do pure (.value (<-s))
def U(s:Sem Unit):Sem Next:=do s;pure .skip
def KV(op:BinOp):Bool:=match op with| .eql| .neq=>true|_=>false
def aD(op:BinOp)(t:TypeId)(ox oy:Operand)(x y:aOn):Sem Next:=
 match KV op with
 |true=>V (do eqGuard op t ox oy x y;binOp op t x y)
 |false=>V (binOp op t x y)
def dD(b:Builtin)(ats:Array TypeId)(ty:TypeId)(args:List aOn):Sem Next:=builtin b ats ty #[] args.toArray
def BL(f:aOn)(args:List aOn):Sem Next:=do let d<-Deferred.ofValue f args.toArray;invoke d.target d.args
def ajT(fn:Fn)(first captured:List aOn):Sem Next:=V (Instr.makeFunc fn first.toArray captured.toArray)
def bH(t:TypeId)(ps:List (Nat×aOn)):Sem Next:=V (Instr.build t ps.toArray)
def bT(t:TypeId)(n:Nat)(ps:List (Nat×aOn)):Sem Next:=V (Instr.buildSlice t n ps.toArray)
def Ox(g:Env)(o:Oper):Sem Next:=
 match o.op with
 | .binOp op t x y _=>aD op t x y (ev g x) (ev g y)
 | .makeFunc fn first captured=>ajT fn (first.toList.map (ev g)) (captured.toList.map (ev g))
 | .build t ps=>bH t (ps.toList.map λp=>(p.1,ev g p.2))
 | .buildSlice t n ps=>bT t n (ps.toList.map λp=>(p.1,ev g p.2))
 | .call c=>(match c.callee with
   | .builtin b=>dD b c.argTypes o.type (c.args.toList.map (ev g))
   | .value f=>BL (ev g f) (c.args.toList.map (ev g))
   |_=>execOp (ev g) o)
 |_=>execOp (ev g) o
def LO(P:Program)(g:Env)(o:Oper)(w:aOm)(K:aOn->aOm->Prop):Prop:=
 match o.op with
 | .move x=>K (ev g x) w
 | .assign x=>K (ev g x) w
 | .call c=>(match c.callee with
   | .value (.func f)=>aK P f (c.args.toList.map (ev g)).toArray w K
   |_=>aA P (Ox g o) w K)
 |_=>aA P (Ox g o) w K
def Ka(P:Program)(ops:Array Oper)(g:Env)(o:Oper)(w:aOm)(K:aOn->aOm->Prop):Prop:=
 match o.guard with
 |none=>LO P g o w K
 |some (j,want)=>Gd (Bo g (Fl ops j) want) (LO P g o w) w K
def ahP(P:Program)(ops:Array Oper):List Oper->Env->aOm->(Env->aOm->Prop)->Prop
 |[],g,w,K=>K g w
 |o::rest,g,w,K=>Ka P ops g o w λv w'=>ahP P ops rest (put g o.dst v) w' K
structure Rec where
 heavy:Bool
 o:Oper
 g:Env
 w:aOm
 v:aOn
def gOf(ops:Array Oper)(o:Oper)(g:Env):Bool:=match o.guard with|none=>true|some (j,want)=>Bo g (Fl ops j) want
def Gs(b:Bool)(p:Prop):Prop:=match b with|true=>p|false=>True
def W4 (P:Program)(ops:Array Oper)(q:Rec)(o:Oper)(g:Env)(w':aOm)(v:aOn):Prop:=
 match q.heavy with
 |true=>Gs (gOf ops o g) (dT P (Ox g o) v q.w)
 |false=>Gs (gOf ops q.o q.g) (dT P (Ox q.g q.o) q.v w')
def aiV(i j:Nat):List (Nat×Nat)->Bool
 |[]=>false
 |(a,b)::r=>match Nat.beq a i with
  |true=>(match Nat.beq b j with|true=>true|false=>aiV i j r)
  |false=>aiV i j r
def pI(i:Nat):List Nat->Bool
 |[]=>false
 |a::r=>match Nat.beq a i with|true=>true|false=>pI i r
def auK:List Rec->Nat->Option Rec
 |[],_=>none
 |q::_,0=>some q
 |_::r,n+1=>auK r n
def aFW(P:Program)(ops:Array Oper)(o:Oper)(g:Env)(w':aOm)(v:aOn)(hist:List Rec):List Nat->Prop
 |[]=>True
 |k::ks=>(match auK hist k with
  |some q=>W4 P ops q o g w' v
  |none=>False)/\aFW P ops o g w' v hist ks
abbrev Ann:=List Nat×List (Nat×Nat)
abbrev arU:=List (Bool×List Nat)
def rN(P:Program)(ops:Array Oper):List Oper->arU->List Rec->Env->aOm->(Env->aOm->Prop)->Prop
 |[],_,_,g,w,K=>K g w
 |_::_,[],_,_,_,_=>False
 |o::rest,(hv,ks)::pl,hist,g,w,K=>
  Ka P ops g o w λv w'=>
   match hv,ks with
   |true,[]=>rN P ops rest pl (⟨true,o,g,w,v⟩::hist) (put g o.dst v) w' K
   |true,k::ks=>aFW P ops o g w' v hist (k::ks)/\rN P ops rest pl (⟨true,o,g,w,v⟩::hist) (put g o.dst v) w' K
   |false,[]=>w'=w/\rN P ops rest pl (⟨false,o,g,w,v⟩::hist) (put g o.dst v) w K
   |false,k::ks=>w'=w/\aFW P ops o g w v hist (k::ks)/\rN P ops rest pl (⟨false,o,g,w,v⟩::hist) (put g o.dst v) w K
def aX{α:Type}(F:(α->aOm->Prop)->α->aOm->Prop)(g:α)(w:aOm):Prop:=
 ∃I:Nat->α->aOm->Prop,(∃n,I n g w)/\∀n g w,I n g w->F (λg' w'=>∃m,m<n/\I m g' w') g w
def Cp(K:Env->aOm->Prop)(Q:Exit->Env->aOm->Prop):Exit->Env->aOm->Prop:=
 λe g w=>(λ(_:Program->Sem Next->aOm->(aOn->aOm->Prop)->Prop)=>match e with| .normal=>K g w|e=>Q e g w) aA
def blk(id:Nat)(Q:Exit->Env->aOm->Prop):Exit->Env->aOm->Prop:=
 λe g w=>(λ(_:Program->Sem Next->aOm->(aOn->aOm->Prop)->Prop)=>match e with| .exit i=>(match Nat.beq i id with|true=>Q .normal g w|false=>Q (.exit i) g w)|e=>Q e g w) aA
inductive HT where
 |leaf (an:Ann) (pl:arU)
 |perm (π:List Nat) (es:List (Nat×Nat)) (an:Ann) (pl:arU)
 |split(a b:Nat) (x y:HT)
structure FA where
 f:FuncId
 t:Nat->HT
def yR:List Nat->Nat->Nat
 |[],_=>0
 |a::r,i=>match Nat.beq a i with|true=>0|false=>yR r i+1
def IQ(π:List Nat)(i:Nat):List (Nat×Nat)->List Edge
 |[]=>[]
 |(a,b)::r=>match Nat.beq b i with|true=>⟨yR π a,.data⟩::IQ π i r|false=>IQ π i r
def MQ(π:List Nat)(es:List (Nat×Nat))(i:Nat)(o:Oper):Oper:=
 {dst:=o.dst,op:=o.op,type:=o.type,pos:=o.pos,after:=(o.after.toList.map (λe=>(⟨yR π e.on,e.ground⟩:Edge))++IQ π i es).toArray,
  guard:=match o.guard with|none=>none|some (j,b)=>some (yR π j,b)}
def Zn(π:List Nat)(es:List (Nat×Nat))(l:List Oper):List Nat->List Oper
 |[]=>[]
 |i::r=>match l[i]? with|some o=>MQ π es i o::Zn π es l r|none=>Zn π es l r
def oR(π:List Nat)(es:List (Nat×Nat))(ops:Array Oper):Array Oper:=(Zn π es ops.toList π).toArray
def aqE(f:FuncId)(id:Nat)(ops:Array Oper)(a b:Nat)(w:aOm):Bool:=
 Nat.ble ((Region.schedule true ops (w.tape w.drawn (.order f id))).idxOf a) ((Region.schedule true ops (w.tape w.drawn (.order f id))).idxOf b)
def Ord(b:Bool)(A B:Prop):Prop:=match b with|true=>A|false=>B
def asU(P:Program)(f:FuncId)(id:Nat)(ops:Array Oper):HT->Env->aOm->aOm->(Env->aOm->Prop)->Prop
 | .leaf _ pl,g,_,w,K=>rN P ops ops.toList pl [] g w K
 | .perm π es _ pl,g,_,w,K=>rN P (oR π es ops) (oR π es ops).toList pl [] g w K
 | .split a b x y,g,w0,w,K=>Ord (aqE f id ops a b w0) (asU P f id ops x g w0 w K) (asU P f id ops y g w0 w K)
def DS:Nat:=1000003
def asV:aOn->List Deferred
 | .pointer (some a)=>[{target:= .collected a.block,args:= #[]}]
 |_=>[]
def noMark:aOn->Bool
 | .pointer _=>false
 |_=>true
def tmpsOf(N:Nat)(g:Env):Array aOn:=Array.ofFn (n:=N) λi=>g i.val
def abZ(P:Program)(f:FuncId):Nat:=match P.funcs[f]? with|some fn=>fn.ntmps|none=>0
def aHY(Q:Exit->Env->aOm->Prop)(g:Env):Option Code->aOm->Prop
 |none,w=>Q .normal g w
 |some .ret,w=>Q .ret g w
 |some (.exit i),w=>Q (.exit i) g w
 |_,_=>False
def aDm(l:Nat)(Q:Exit->Env->aOm->Prop)(g:Env)(w:aOm):Prop:=
 ∃r:Loop,w.heap[l]?=some (.loop r)/\r.state≠.busy/\aHY Q g r.pending (w.putObj l (.loop {r with state:= .exhausted}))
def rfW(f:FuncId)(N:Nat)(ps:Array Tmp)(aLr bd:Code)(g:Env)(w:aOm):aOm:=
 (w.alloc (.deferred (some []))).alloc (.loop {state:= .ready,pending:=none,fn:=f,tmps:=tmpsOf N g,params:=ps,assign:=aLr,body:=bd,defers:=w.heap.size})
def aJ2 (P:Program)(r:Result Next)(K:aOn->aOm->Prop):Prop:=
 match r with
 | .ok (.enter f args) w=>aK P f args w K
 |_=>False
def KO(l:Nat):aOn:= .func (.yield l) #[] #[]
def RF(P:Program)(f:FuncId)(gf:Operand)(ps:Array Tmp)(aLr bd:Code)(Q:Exit->Env->aOm->Prop)(g:Env)(w:aOm):Prop:=
 match noMark (g DS)with
 |true=>aJ2 P ((BL (ev g gf) [KO (w.heap.size+1)]).run P (rfW f (abZ P f) ps aLr bd g w)) λ_ w3=>
  aDm (w.heap.size+1) Q (put g (some DS) (.pointer (some ⟨w.heap.size,0,none⟩))) w3
 |false=>False
def cP(P:Program)(ann:FA):Code->(Exit->Env->aOm->Prop)->Env->aOm->Prop
 | .skip,Q,g,w=>Q .normal g w
 | .region id ops draw,Q,g,w=>match draw with
   |false=>ahP P ops ops.toList g w (Q .normal)
   |true=>asU P ann.f id ops (ann.t id) g w {w with drawn:=w.drawn+1} (Q .normal)
 | .seq x y,Q,g,w=>cP P ann x (Cp (λg w=>cP P ann y Q g w) Q) g w
 | .cond c x y,Q,g,w=>bQ (ev g c) (cP P ann x Q g w) (cP P ann y Q g w)
 | .block id c,Q,g,w=>cP P ann c (blk id Q) g w
 | .loop c,Q,g,w=>aX (λX g w=>cP P ann c (Cp X Q) g w) g w
 | .scope c,Q,g,w=>cP P ann c Q g w
 | .label _,Q,g,w=>Q .normal g w
 | .exit id,Q,g,w=>Q (.exit id) g w
 | .ret,Q,g,w=>Q .ret g w
 | .rangeFunc gf ps aLr bd,Q,g,w=>RF P ann.f gf ps aLr bd Q g w
 |_,_,_,_=>False
def aAC(N:Nat)(o:Oper):Bool:=match o.dst with|some d=>Nat.blt d N|none=>true
def bef(b:Array Nat)(i j:Nat):Bool:=(b.getD j 0).testBit i
def looks(ops:Array Oper)(o:Oper):List Tmp:=
 (o.op.operands.toList.filterMap λ| .tmp t=>some t|_=>none)++(match o.guard with|some (j,_)=>(Fl ops j).toList|none=>[])
def aDC(ops:Array Oper)(x y:Oper):Bool:=
 (match x.dst with|some d=>(looks ops y).contains d||y.dst==some d|none=>false)||
 (match y.dst with|some d=>(looks ops x).contains d|none=>false)
def adT(o:Oper):Bool:=match o.op with| .select .. =>true|_=>false
def aEd(o:Oper):Bool:=match o.op with| .call {callee:= .value (.func _),.. }=>true|_=>false
def amV(o:Oper):Bool:=match o.op with| .defer .. =>true|_=>false
def anJ:Operand->Bool| .tmp t=>Nat.blt t DS|_=>true
def agH(P:Program)(o:Oper):Bool:=
 match o.op with
 | .call c=>(match c.callee with
   | .value (.func f)=>(match P.funcs[f]? with|some fn=>fn.body.isSome&& !(fn.name== "runtime.NumGoroutine")|none=>false)
   | .builtin b=>(match b with| .print| .println=>false|_=>true)
   |_=>true)
 |_=>true
def CP(P:Program)(o:Oper):Bool:=agH P o&&(o.op.operands.toList.all anJ&&(!adT o&& !amV o))
def PL(o:Oper):Bool:=match o.op with| .move _| .assign _=>true|_=>false
def TE(ops:Array Oper)(b:Array Nat)(an:Ann)(i j:Nat)(x y:Oper):Bool:=
 bef b i j||
 (!aDC ops x y&&
   match pI i an.1,pI j an.1 with
   |true,true=>false
   |false,false=>true
   |true,false=>PL y||aiV i j an.2
   |false,true=>PL x||aiV i j an.2)
def asE(ops:Array Oper)(b:Array Nat)(an:Ann):Bool:=
 (List.range ops.size).all λj=>(List.range j).all λi=>
  match ops[i]?,ops[j]? with
  |some x,some y=>TE ops b an i j x y
  |_,_=>false
def amN(ops:Array Oper):Bool:=
 (List.range ops.size).all λi=>match ops[i]? with
  |some o=>o.after.all λe=> !Region.binds .any e||Nat.blt e.on i
  |none=>false
def amE(ops:Array Oper)(b:Array Nat):Bool:=
 (List.range ops.size).all λj=>(List.range ops.size).all λi=>
  !bef b i j||(match ops[j]? with
   |some o=>o.after.any λe=>Region.binds .any e&&(Nat.beq e.on i||bef b i e.on)
   |none=>false)
def ahQ(ops:Array Oper)(an:Ann):Bool:=
 amN ops&&amE ops (Region.before ops)&&asE ops (Region.before ops) an&&(ops.all λo=> !adT o)&&
  (List.range ops.size).all λi=>match ops[i]? with|some o=> !aEd o||pI i an.1|none=>false
def ajI(n:Nat)(an:Ann)(pl:arU):Bool:=
 (List.range n).all λi=>match pl[i]? with
  |some (h,ks)=>h==pI i an.1&&an.2.all λp=> !Nat.beq p.2 i||(Nat.blt p.1 i&&ks.contains (i-1-p.1))
  |none=>false
def ayT(π:List Nat)(ops:Array Oper):Bool:=
 Nat.beq π.length ops.size&&((List.range ops.size).all λk=>match π[k]? with|some i=>Nat.beq (yR π i) k&&Nat.blt i ops.size|none=>false)&&
  ((List.range ops.size).all λi=>match π[yR π i]? with|some j=>Nat.beq j i|none=>false)&&
  ((List.range ops.size).all λi=>match ops[i]? with
    |some o=>(o.after.all λe=>Nat.blt e.on ops.size)&&(match o.guard with|some (j,_)=>Nat.blt j ops.size|none=>true)
    |none=>false)
def XJ(P:Program)(N:Nat)(ops:Array Oper):List (Nat×Nat)->HT->Bool
 |_,.leaf an pl=>ahQ ops an&&ajI ops.size an pl
 |path,.perm π es an pl=>(es.all λp=>aiV p.1 p.2 path&&Nat.blt p.1 ops.size)&&ayT π ops&&(oR π es ops).all (aAC N)&&(oR π es ops).all (CP P)&&
  ahQ (oR π es ops) an&&ajI (oR π es ops).size an pl
 |path,.split a b x y=> !Nat.beq a b&&XJ P N ops ((a,b)::path) x&&XJ P N ops ((b,a)::path) y
def codeOk(P:Program)(N:Nat)(ann:FA):Code->Bool
 | .skip| .exit _| .ret| .label _=>true
 | .scope c=>codeOk P N ann c
 | .region id ops draw=>ops.all (aAC N)&&ops.all (CP P)&&(!draw||XJ P N ops [] (ann.t id))
 | .seq x y=>codeOk P N ann x&&codeOk P N ann y
 | .cond c x y=>anJ c&&(codeOk P N ann x&&codeOk P N ann y)
 | .block _ c=>codeOk P N ann c
 | .loop c=>codeOk P N ann c
 | .rangeFunc gf _ _ _=>anJ gf
 |_=>false
def sR:Code->Bool
 | .seq x y=>sR x&&sR y
 | .cond _ x y=>sR x&&sR y
 | .block _ c=>sR c
 | .loop c=>sR c
 | .scope c=>sR c
 | .rangeFunc .. =>false
 |_=>true
def anN:ResultVar->Bool
 | .tmp t=>Nat.blt t DS
 | .cell a _=>Nat.blt a DS
theorem OA(g:Env)(d i:Nat)(v:aOn):put g (some d) v i=if i=d then v else g i:=by
 unfold put
 by_cases h:i=d
 .subst h;simp
 .have:Nat.beq i d=false:=by
   cases hb:Nat.beq i d
   .rfl
   .exact absurd (aMj hb) h
  simp[this,h]
theorem asJ{P:Program}{o:Oper}(h:CP P o=true):agH P o=true:=by
 unfold CP at h;simp only[aLQ]at h;exact h.1
theorem axH{P:Program}{o:Oper}(h:CP P o=true):∀x∈o.op.operands,anJ x=true:=by
 unfold CP at h;simp only[aLQ]at h
 intro x hx
 exact aMn.1 h.2.1 x (by simpa using hx)
theorem axI{P:Program}{o:Oper}(h:CP P o=true):adT o=false:=by
 unfold CP at h;simp only[aLQ,aNi]at h;exact h.2.2.1
theorem axG{P:Program}{o:Oper}(h:CP P o=true):amV o=false:=by
 unfold CP at h;simp only[aLQ,aNi]at h;exact h.2.2.2
def WQ(N:Nat)(ops:Array Oper):Prop:=∀(i:Nat) (o:Oper),ops[i]?=some o->∀t,o.dst=some t->t<N
structure R9 (N:Nat)(g:Env)(a:Act):Prop where
 le:N<=DS
 defers:a.defers=asV (g DS)
 size:a.tmps.size=N
 at_:∀i,i≠DS->a.tmps.getD i undef=g i
theorem R9.ev {N:Nat}{g:Env}{a:Act}(h:R9 N g a)(x:Operand)(hx:anJ x=true):a.eval x=ev g x:=by
 cases x with
 |tmp t=>
  have:t<DS:=(aNL (x:=t) (y:=DS))▸hx
  have e:=h.at_ t (Nat.ne_of_lt this)
  simp[Act.eval,En.ev,<-e]
 |_=>simp[Act.eval,En.ev]
theorem R9.put {N:Nat}{g:Env}{a:Act}(h:R9 N g a)(d:Option Tmp)(v:aOn)(hd:∀t,d=some t->t<N):
 R9 N (put g d v) (a.put d v):=by
 cases d with
 |none=>exact h
 |some t=>
  obtain⟨h0,h1,h2,h3⟩:=h
  have ht:=hd t rfl
  refine⟨h0, ?_,by simp[Act.put,h2],λi hne=> ?_⟩
  .rw [OA,if_neg (Nat.ne_of_gt (aNr ht h0))];exact h1
  .rw [OA,<-h3 i hne]
   by_cases hi:i=t
   .subst hi;simp[Act.put,h2,ht]
   .have hi':t≠i:=λe=>hi e.symm
    simp[Act.put,hi,aMv hi']
theorem R9.wanted {N:Nat}{g:Env}{a:Act}(h:R9 N g a)(ops:Array Oper)(hd:WQ N ops)(o:Oper):
 Region.wanted o (yielded ops a.tmps)=match o.guard with|none=>true|some (j,want)=>Bo g (Fl ops j) want:=by
 unfold Region.wanted
 cases o.guard with
 |none=>rfl
 |some p=>
  obtain⟨j,want⟩:=p
  simp only[yielded,Bo,Fl]
  cases ho:ops[j]? with
  |none=>simp
  |some o'=>
   cases hdd:o'.dst with
   |none=>simp[hdd]
   |some t=>
    have hlt:=hd j o' ho t hdd
    have hle:=h.le
    have h3:=h.at_ t (Nat.ne_of_lt (aNr hlt hle))
    simp only[hdd,Option.bind_some,bK,asB,<-h3]
    simp only[aLM]
    cases ht:a.tmps[t]? with
    |none=>simp[undef]
    |some v=>cases v<;>simp
def upX(P:Program)(o:Oper)(a:Act)(next:Act->aOm->Prop):Result Next->Prop
 | .ok (.value v) w'=>next (a.put o.dst v) w'
 | .ok .skip w'=>next (a.put o.dst undef) w'
 | .ok (.enter f args) w'=>∃v w'',Ret P f args w' v w''/\next (a.put o.dst v) w''
 | .ok (.round l f tmps aLr bd) w'=>∃v w'',aJn P l f tmps aLr bd w' v w''/\next (a.put o.dst v) w''
 |_=>False
def azL(P:Program)(o:Oper)(a:Act)(w:aOm)(next:Act->aOm->Prop):Prop:=amV o=false/\upX P o a next ((execOp a.eval o).run P w)
def Ut(P:Program)(ops:Array Oper)(i:Nat)(K:Act->aOm->Prop)(a:Act)(w:aOm):Prop:=
 match ops[i]? with
 |none=>K a w
 |some o=>if Region.wanted o (yielded ops a.tmps)then azL P o a w K else K (a.put o.dst undef) w
def FP(P:Program)(ops:Array Oper)(Q:Act->aOm->Prop):List Nat->Act->aOm->Prop
 |[],a,w=>Q a w
 |i::rest,a,w=>Ut P ops i (FP P ops Q rest) a w
def akH(P:Program)(ops:Array Oper)(Q:Act->aOm->Prop):Nat->Array Bool->Act->aOm->Prop
 |0,listed,a,w=>Region.ready .any ops listed=[]/\Q a w
 |fuel+1,listed,a,w=>
  (Region.ready .any ops listed=[]->Q a w)/\∀i∈Region.ready .any ops listed,Ut P ops i (akH P ops Q fuel (listed.setIfInBounds i true)) a w
theorem anP{P:Program}{o:Oper}{a:Act}{w:aOm}{K K':Act->aOm->Prop}(h:∀a w,K a w->K' a w)(hh:azL P o a w K):azL P o a w K':=by
 refine⟨hh.1, ?_⟩
 have hh:=hh.2
 generalize(execOp a.eval o).run P w=r at*
 cases r with
 |ok x w'=>
  cases x<;>simp only[upX]at hh⊢<;>first|exact h _ _ hh|(obtain⟨v,w'',h1,h2⟩:=hh;exact⟨v,w'',h1,h _ _ h2⟩)|exact hh
 |halt x w'=>exact hh.elim
theorem aAc{P:Program}{ops:Array Oper}{i:Nat}{a:Act}{w:aOm}{K K':Act->aOm->Prop}(h:∀a w,K a w->K' a w)(hh:Ut P ops i K a w):Ut P ops i K' a w:=by
 unfold Ut at*
 split
 .exact h _ _ (by simpa[*]using hh)
 .rename_i o ho
  simp only[ho]at hh
  split
  .rename_i hw;simp only[hw,if_true]at hh;exact anP h hh
  .rename_i hw;simp only[hw]at hh;exact h _ _ hh
def akG(ro:Option Nat):Fence:={Fence.wide with round:=ro}
theorem aCU{P:Program}{ops:Array Oper}{Q:Act->aOm->Prop}(ro:Option Nat):∀(L:List Nat) (a:Act) (w:aOm),FP P ops Q L a w→
 wpOpsIn (akG ro) 0 P ops (λe a w=>e= .normal/\Q a w) L a w:=by
 intro L
 induction L with
 |nil=>intro a w h;exact⟨rfl,h⟩
 |cons i L ih=>
  intro a w h
  simp only[FP,Ut]at h
  simp only[wpOpsIn]
  cases ho:ops[i]? with
  |none=>rw[ho]at h;exact ih _ _ h
  |some o=>
   rw[ho]at h
   simp only at h⊢
   by_cases hw:Region.wanted o (yielded ops a.tmps)=true
   .rw [if_pos hw]at h⊢
    obtain⟨hd,h⟩:=h
    refine⟨λ_ _=>trivial, ?_⟩
    rw[Oper.semAt_eq _ _ _ (λc hc=>by simp[amV,hc]at hd)]
    generalize(execOp a.eval o).run P w=r at*
    cases r with
    |halt x w'=>exact h.elim
    |ok x w'=>
     cases x<;>simp only[upX]at h<;>simp only[Oper.uponIn]<;>try(exact h.elim)
     .exact ih _ _ h
     .exact ih _ _ h
     .obtain ⟨v,w'',h1,h2⟩:=h
      refine⟨λhn=>by simp[akG,Fence.wide]at hn, ?_⟩
      have:=callsIn_wide (n:=0).2 h1
      refine CallsIn.mono (F:=akG ro) (n:=0) this ?_
      rintro e w3 ⟨rfl,rfl⟩
      exact ih _ _ h2
     .obtain ⟨v,w'',h1,h2⟩:=h
      refine⟨λhn=>by simp[akG,Fence.wide]at hn, ?_⟩
      refine RoundIn.mono (F:=akG ro) (n:=0) h1 ?_
      rintro e w3 ⟨rfl,rfl⟩
      exact ih _ _ h2
   .rw [if_neg hw]at h⊢
    exact⟨λ_ _=>trivial,ih _ _ h⟩
section
variable{P:Program}{ops:Array Oper}
def adE(P:Program)(ops:Array Oper)(g:Env)(o:Oper)(w:aOm)(v:aOn)(w':aOm):Prop:=
 ∀K:aOn->aOm->Prop,K v w'->Ka P ops g o w K
theorem aAn{s:Sem Next}{w:aOm}{K:aOn->aOm->Prop}(h:aA P s w K):
 ∃v w',(∀K':aOn->aOm->Prop,K' v w'->aA P s w K')/\K v w':=by
 unfold aA at*
 generalize s.run P w=r at*
 match r,h with
 | .ok (.value v) w1,h=>exact⟨v,w1,λ_ h'=>h',h⟩
 | .ok .skip w1,h=>exact⟨undef,w1,λ_ h'=>h',h⟩
 | .ok (.enter f args) w1,h=>
   obtain⟨v,w',hr,hk⟩:=h
   exact⟨v,w',λ_ h'=>⟨v,w',hr,h'⟩,hk⟩
 | .ok (.round l f tmps aLr bd) w1,h=>
   obtain⟨v,w',hr,hk⟩:=h
   exact⟨v,w',λ_ h'=>⟨v,w',hr,h'⟩,hk⟩
theorem anI{g:Env}{o:Oper}{w:aOm}{K:aOn->aOm->Prop}(h:LO P g o w K):
 ∃v w',(∀K':aOn->aOm->Prop,K' v w'->LO P g o w K')/\K v w':=by
 unfold LO at*
 split at h
 .exact ⟨_,_,λ_ h'=>h',h⟩
 .exact ⟨_,_,λ_ h'=>h',h⟩
 .split at h
  .obtain ⟨v,w',a,b⟩:=h
   exact⟨v,w',λ_ h'=>⟨v,w',a,h'⟩,b⟩
  .exact aAn h
 .exact aAn h
theorem aGO(op:BinOp)(t:TypeId)(ox oy:Operand)(x y:aOn):aD op t ox oy x y=V (do eqGuard op t ox oy x y;binOp op t x y):=by
 cases op<;>simp[aD,KV,eqGuard]
theorem aEy{g:Env}{o:Oper}(ho:CP P o=true):Ox g o=execOp (ev g) o:=by
 have ho:=asJ ho
 unfold Ox
 split
 .rename_i op t x y yt hx
  simp only[execOp,hx,aGO,V]
 .rename_i fn first captured hx
  have e1:(List.map (ev g) first.toList).toArray=first.map (ev g):=by obtain⟨l⟩:=first;simp
  have e2:(List.map (ev g) captured.toList).toArray=captured.map (ev g):=by obtain⟨l⟩:=captured;simp
  simp only[execOp,hx,ajT,V,e1,e2]
 .rename_i t ps hx
  have e:(List.map (λp:Nat×Operand=>(p.1,ev g p.2)) ps.toList).toArray=ps.map (λp=>(p.1,ev g p.2)):=by obtain⟨l⟩:=ps;simp
  simp only[execOp,hx,bH,V,e]
 .rename_i t n ps hx
  have e:(List.map (λp:Nat×Operand=>(p.1,ev g p.2)) ps.toList).toArray=ps.map (λp=>(p.1,ev g p.2)):=by obtain⟨l⟩:=ps;simp
  simp only[execOp,hx,bT,V,e]
 .rename_i c hx
  split
  .rename_i b hb
   simp only[execOp,hx,resolve,hb,pure_bind,invoke,dD]
   unfold agH at ho
   simp only[hx,hb]at ho
   have e:(List.map (ev g) c.args.toList).toArray=c.args.map (ev g):=by obtain⟨l⟩:=c.args;simp
   rw[e]
   cases b<;>first|rfl|(cases ho)
  .rename_i f hb
   have e:(List.map (ev g) c.args.toList).toArray=c.args.map (ev g):=by obtain⟨l⟩:=c.args;simp
   simp only[execOp,hx,resolve,hb,BL,e]
  .rfl
 .rfl
theorem Yc{f:FuncId}{fn:Func}(hf:P.funcs[f]?=some fn)(hb:fn.body.isSome=true)(hn:(fn.name== "runtime.NumGoroutine")=false)
 (args:Array aOn) (w:aOm):(callFunc f args).run P w= .ok (.enter f args) w:=by
 unfold callFunc
 have hb':fn.body.isNone=false:=by cases h:fn.body<;>simp_all
 show Sem.run P (Sem.program λp=>_) w=_
 simp only[Sem.run]
 simp only[bind,Sem.bind,hf,hn,hb',aLF,if_false]
 rfl
theorem PX{g:Env}{o:Oper}{w:aOm}{K:aOn->aOm->Prop}(h:Ka P ops g o w K):
 ∃v w',adE P ops g o w v w'/\K v w':=by
 unfold adE
 unfold Ka at*
 split at h
 .obtain ⟨v,w',h1,h2⟩:=anI h
  exact⟨v,w',h1,h2⟩
 .rename_i j want hg
  unfold Gd at*
  cases hb:Bo g (Fl ops j) want with
  |true=>
   simp only[hb]at h
   obtain⟨v,w',h1,h2⟩:=anI h
   exact⟨v,w',λK hk=>h1 K hk,h2⟩
  |false=>
   simp only[hb]at h
   exact⟨_,_,λK hk=>hk,h⟩
theorem aeK{N i:Nat}{g:Env}{a:Act}{o:Oper}{w w':aOm}{v:aOn}{next:Act->aOm->Prop}
 (hi:ops[i]?=some o) (hc:CP P o=true) (hd:WQ N ops) (hr:R9 N g a) (hy:adE P ops g o w v w') (hn:next (a.put o.dst v) w'):Ut P ops i next a w:=by
 have h:=hy (λv2 w2=>v2=v/\w2=w') ⟨rfl,rfl⟩
 unfold Ut
 rw[hi]
 simp only[hr.wanted ops hd]
 have run:LO P g o w (λv2 w2=>v2=v/\w2=w')->azL P o a w next:=by
  intro h
  refine⟨axG hc, ?_⟩
  have hevs:execOp a.eval o=execOp (ev g) o:=execOp_congr o (λcs b he=>by have:=axI hc;simp[adT,he]at this) (λx hx=>hr.ev x (axH hc x hx))
  have stp:aA P (Ox g o) w (λv2 w2=>v2=v/\w2=w')->upX P o a next ((execOp (ev g) o).run P w):=by
   intro h
   rw[aEy hc]at h
   unfold aA at h
   generalize(execOp (ev g) o).run P w=r at*
   match r,h with
   | .ok (.value v) w1,h=>obtain⟨rfl,rfl⟩:=h;exact hn
   | .ok .skip w1,h=>obtain⟨rfl,rfl⟩:=h;exact hn
   | .ok (.enter f args) w1,h=>
     obtain⟨v2,w2,hret,rfl,rfl⟩:=h
     exact⟨_,_,hret,hn⟩
   | .ok (.round l f tmps aLr bd) w1,h=>
     obtain⟨v2,w2,hret,rfl,rfl⟩:=h
     exact⟨_,_,hret,hn⟩
  rw[hevs]
  unfold LO at h
  split at h
  .rename_i x hx
   obtain⟨rfl,rfl⟩:=h
   simp only[execOp,hx];exact hn
  .rename_i x hx
   obtain⟨rfl,rfl⟩:=h
   simp only[execOp,hx];exact hn
  .rename_i c hx
   split at h
   .rename_i f hcal
    obtain⟨v2,w2,hret,rfl,rfl⟩:=h
    have e:(execOp (ev g) o).run P w= .ok (.enter f (List.map (ev g) c.args.toList).toArray) w:=by
     have hc:=asJ hc
     unfold agH at hc
     simp only[hx,hcal]at hc
     cases hfn:P.funcs[f]? with
     |none=>rw[hfn]at hc;cases hc
     |some fn=>
      rw[hfn]at hc
      simp only[aLQ,aNi]at hc
      have ea:(List.map (ev g) c.args.toList).toArray=c.args.map (ev g):=by obtain⟨l⟩:=c.args;simp
      rw[ea]
      simp only[execOp,hx,resolve,hcal,ev,Deferred.ofValue,pure_bind,invoke]
      simp only[Array.empty_append,Array.append_empty]
      exact Yc hfn hc.1 hc.2 _ w
    rw[e]
    exact⟨_,_,hret,hn⟩
   .exact stp h
  .exact stp h
 unfold Ka at h
 cases hg:o.guard with
 |none=>
  rw[hg]at h
  simp only[if_true]
  exact run h
 |some p=>
  obtain⟨j,want⟩:=p
  simp only[hg]at h
  simp only
  by_cases hb:Bo g (Fl ops j) want=true
  .rw [if_pos hb]
   simp only[hb,Gd]at h
   exact run h
  .rw [if_neg hb]
   have hb':Bo g (Fl ops j) want=false:=by simpa using hb
   simp only[hb',Gd]at h
   obtain⟨rfl,rfl⟩:=h
   exact hn
def XY(P:Program)(ops:Array Oper):Prop:=∀(i:Nat) (o:Oper),ops[i]?=some o->CP P o=true
theorem aCc{N:Nat}(hd:WQ N ops)(hca:XY P ops){Q:Act->aOm->Prop}{K:Env->aOm->Prop}
 (hQ:∀g a w,R9 N g a->K g w->Q a w):
 ∀(l:List Oper) (k:Nat) (g:Env) (a:Act) (w:aOm),(∀j,l[j]?=ops[k+j]?)->R9 N g a->ahP P ops l g w K→
  FP P ops Q (List.range' k l.length) a w:=by
 intro l
 induction l with
 |nil=>intro k g a w _ hr h;exact hQ _ _ _ hr h
 |cons o l ih=>
  intro k g a w hl hr h
  have h0:ops[k]?=some o:=by have:=hl 0;simpa using this.symm
  obtain⟨v,w',hy,hk⟩:=PX h
  rw[aLS,aOd]
  show Ut P ops k (FP P ops Q _) a w
  refine aeK h0 (hca k o h0) hd hr hy ?_
  refine ih (k+1) _ _ _ (λj=> ?_) (hr.put _ _ (hd k o h0)) hk
  have:=hl (j+1)
  simp only[aLw]at this
  rw[this];congr 1;omega
def aeA(an:Ann)(O:Nat->Oper)(G:Nat->Env)(W:Nat->aOm)(V:Nat->aOn)(i:Nat):Rec:=
 ⟨pI i an.1,O i,G i,W i,V i⟩
def aAy(P:Program)(ops:Array Oper)(an:Ann)(O:Nat->Oper)(G:Nat->Env)(W:Nat->aOm)(V:Nat->aOn)(i j:Nat):Prop:=
 W4 P ops (aeA an O G W V i) (O j) (G j) (W (j+1)) (V j)
structure Run(P:Program)(ops:Array Oper)(an:Ann)(g0:Env)(w0:aOm)(n:Nat)(O:Nat->Oper)(G:Nat->Env)(W:Nat->aOm)(V:Nat->aOn):Prop where
 g0:G 0=g0
 w0:W 0=w0
 op:∀i,i<n->ops[i]?=some (O i)
 yld:∀i,i<n->adE P ops (G i) (O i) (W i) (V i) (W (i+1))
 light:∀i,i<n->pI i an.1=false->W (i+1)=W i
 env:∀i,i<n->G (i+1)=put (G i) (O i).dst (V i)
 chk:∀i j,i<j->j<n->aiV i j an.2=true->aAy P ops an O G W V i j
theorem asL{o:Oper}{g:Env}{w':aOm}{v:aOn}{hist:List Rec}:∀{ks:List Nat},aFW P ops o g w' v hist ks->∀k∈ks,∃q,auK hist k=some q/\W4 P ops q o g w' v:=by
 intro ks
 induction ks with
 |nil=>intro _ k hk;cases hk
 |cons a ks ih=>
  rintro⟨h1,h2⟩ k hk
  rcases aMd.1 hk with rfl|hk
  .cases hn:auK hist k with
   |none=>rw[hn]at h1;exact h1.elim
   |some q=>rw[hn]at h1;exact⟨q,rfl,h1⟩
  .exact ih h2 k hk
theorem aCi{n:Nat}{an:Ann}{pl:arU}(h:ajI n an pl=true){i:Nat}(hi:i<n):
 ∃ks,pl[i]?=some (pI i an.1,ks)/\∀j,aiV j i an.2=true->j<i/\(i-1-j)∈ks:=by
 have:=aMn.1 h i (aMs.2 hi)
 cases hp:pl[i]? with
 |none=>rw[hp]at this;cases this
 |some p=>
  obtain⟨hv,ks⟩:=p
  rw[hp]at this
  simp only[aLQ]at this
  obtain⟨h1,h2⟩:=this
  have h1:hv=pI i an.1:=by simpa using h1
  refine⟨ks,by rw[h1],λj hj=> ?_⟩
  have mm:∀(l:List (Nat×Nat)),aiV j i l=true->(j,i)∈l:=by
   intro l
   induction l with
   |nil=>intro h;cases h
   |cons q r ih=>
    obtain⟨a,b⟩:=q
    intro h
    unfold aiV at h
    cases ha:Nat.beq a j with
    |true=>
     simp only[ha]at h
     cases hb:Nat.beq b i with
     |true=>
      obtain rfl:=aMj ha
      obtain rfl:=aMj hb
      exact aMa
     |false=>simp only[hb]at h;exact aLN _ (ih h)
    |false=>simp only[ha]at h;exact aLN _ (ih h)
  have:=aMn.1 h2 (j,i) (mm _ hj)
  simp only[Nat.beq_refl,aMy,Bool.false_or,aLQ]at this
  refine⟨?_,by simpa using this.2⟩
  have hlt:=this.1
  exact(aNL (x:=j) (y:=i))▸hlt
theorem avI{an:Ann}{pl:arU}{g0:Env}{w0:aOm}{K:Env->aOm->Prop}(hpl:ajI ops.size an pl=true):
 ∀(l:List Oper) (m:Nat) (hist:List Rec) (O:Nat->Oper) (G:Nat->Env) (W:Nat->aOm) (V:Nat->aOn),
  (∀j,l[j]?=ops[m+j]?)->m+l.length=ops.size->Run P ops an g0 w0 m O G W V->(∀i,i<m->auK hist (m-1-i)=some (aeA an O G W V i))→
  rN P ops l (pl.drop m) hist (G m) (W m) K→
  ∃(O:Nat->Oper) (G:Nat->Env) (W:Nat->aOm) (V:Nat->aOn),Run P ops an g0 w0 (m+l.length) O G W V/\K (G (m+l.length)) (W (m+l.length)):=by
 intro l
 induction l with
 |nil=>intro m hist O G W V _ _ hr _ h;exact⟨O,G,W,V,hr,by unfold rN at h;exact h⟩
 |cons o l ih=>
  intro m hist O G W V hl hlen hr hh h
  have h0:ops[m]?=some o:=by have:=hl 0;simpa using this.symm
  have hmn:m<ops.size:=by rw[aLS]at hlen;omega
  obtain⟨ks,hk1,hk2⟩:=aCi hpl hmn
  have hdrop:pl.drop m=(pI m an.1,ks)::pl.drop (m+1):=by
   have hlt:m<pl.length:=by
    rcases aLL m pl.length with h|h
    .exact h
    .rw [aLH h]at hk1;cases hk1
   rw[aL8 hlt]
   rw[aLt hlt]at hk1
   rw[aLW hk1]
  rw[hdrop]at h
  obtain⟨v,w',hy,hk⟩:=PX h
  have key:(pI m an.1=false->w'=W m)/\(∀k∈ks,∃q,auK hist k=some q/\W4 P ops q o (G m) w' v)/\
      (rN P ops l (pl.drop (m+1)) (⟨pI m an.1,o,G m,W m,v⟩::hist) (put (G m) o.dst v) w' K):=by
   have nil:∀w',∀k∈([]:List Nat),∃q,auK hist k=some q/\W4 P ops q o (G m) w' v:=λ_ k hk=>(by cases hk)
   cases hm:pI m an.1 with
   |true=>
    rw[hm]at hk
    cases ks with
    |nil=>exact⟨λe=>(by cases e),nil _,hk⟩
    |cons k ks=>exact⟨λe=>(by cases e),asL hk.1,hk.2⟩
   |false=>
    rw[hm]at hk
    cases ks with
    |nil=>obtain⟨rfl,hk⟩:=hk;exact⟨λ_=>rfl,nil _,hk⟩
    |cons k ks=>obtain⟨rfl,hc,hk⟩:=hk;exact⟨λ_=>rfl,asL hc,hk⟩
  obtain⟨kl,c1,c2⟩:=key
  let O':Nat->Oper:=λi=>if i=m then o else O i
  let V':Nat->aOn:=λi=>if i=m then v else V i
  let G':Nat->Env:=λi=>if i=m+1 then put (G m) o.dst v else G i
  let W':Nat->aOm:=λi=>if i=m+1 then w' else W i
  have eO:∀i,i<m->O' i=O i:=λi hi=>if_neg (by omega)
  have eV:∀i,i<m->V' i=V i:=λi hi=>if_neg (by omega)
  have eG:∀i,i<=m->G' i=G i:=λi hi=>if_neg (by omega)
  have eW:∀i,i<=m->W' i=W i:=λi hi=>if_neg (by omega)
  have oO:O' m=o:=if_pos rfl
  have oV:V' m=v:=if_pos rfl
  have oG:G' (m+1)=put (G m) o.dst v:=if_pos rfl
  have oW:W' (m+1)=w':=if_pos rfl
  have eR:∀i,i<m->aeA an O' G' W' V' i=aeA an O G W V i:=λi hi=>by
   simp only[aeA,eO i hi,eV i hi,eG i (by omega),eW i (by omega)]
  have hr':Run P ops an g0 w0 (m+1) O' G' W' V':=by
   refine⟨by rw[eG 0 (by omega)];exact hr.g0,by rw[eW 0 (by omega)];exact hr.w0,λi hi=> ?_,λi hi=> ?_,λi hi hm=> ?_,λi hi=> ?_,λi j hij hj hm=> ?_⟩
   .by_cases hi':i=m
    .subst hi';rw[oO];exact h0
    .rw [eO i (by omega)];exact hr.op i (by omega)
   .by_cases hi':i=m
    .subst hi';rw[oO,oV,oW,eG i (by omega),eW i (by omega)];exact hy
    .rw [eO i (by omega),eV i (by omega),eG i (by omega),eW i (by omega),eW (i+1) (by omega)];exact hr.yld i (by omega)
   .by_cases hi':i=m
    .subst hi';rw[oW,eW i (by omega)];exact kl hm
    .rw [eW i (by omega),eW (i+1) (by omega)];exact hr.light i (by omega) hm
   .by_cases hi':i=m
    .subst hi';rw[oO,oV,oG,eG i (by omega)]
    .rw [eO i (by omega),eV i (by omega),eG i (by omega),eG (i+1) (by omega)];exact hr.env i (by omega)
   .unfold aAy
    by_cases hj':j=m
    .subst hj'
     rw[eR i (by omega),oO,oV,oW,eG j (by omega)]
     obtain⟨q,hq,hc⟩:=c1 _ (hk2 i hm).2
     rw[hh i hij]at hq
     obtain rfl:=aLW hq
     exact hc
    .rw [eR i (by omega),eO j (by omega),eV j (by omega),eG j (by omega),eW (j+1) (by omega)]
     exact hr.chk i j hij (by omega) hm
  have:=ih (m+1) (⟨pI m an.1,o,G m,W m,v⟩::hist) O' G' W' V' (λj=>by
      have:=hl (j+1)
      simp only[aLw]at this
      rw[this];congr 1;omega) (by rw[aLS]at hlen;omega) hr' (λi hi=>by
      by_cases hi':i=m
      .subst hi'
       rw[show i+1-1-i=0 from by omega]
       simp only[auK,aeA,oO,oV,eG i (by omega),eW i (by omega)]
      .rw [eR i (by omega),show m+1-1-i=(m-1-i)+1 from by omega]
       exact hh i (by omega)) (by rw[oG,oW];exact c2)
  rw[aLS,show m+(l.length+1)=m+1+l.length from by omega]
  exact this
end
section
variable{P:Program}{ops:Array Oper}{an:Ann}{g0:Env}{w0:aOm}{O:Nat->Oper}{G:Nat->Env}{W:Nat->aOm}{V:Nat->aOn}
def O6 (n:Nat)(O:Nat->Oper)(V:Nat->aOn)(g0:Env)(S:Nat->Prop)(g:Env):Prop:=
 ∀s,(∃j,j<n/\S j/\(O j).dst=some s/\(∀k,k<n->S k->(O k).dst=some s->k<=j)/\g s=V j)∨
  ((∀j,j<n->S j->(O j).dst≠some s)/\g s=g0 s)
theorem O6.agree {n:Nat}{S T:Nat->Prop}{g g':Env}(h:O6 n O V g0 S g)(h':O6 n O V g0 T g')(s:Nat)
 (hs:∀j,j<n->(O j).dst=some s->(S j↔T j)):g s=g' s:=by
 rcases h s with⟨j,h1,h2,h3,h4,h5⟩|⟨h1,h2⟩<;>rcases h' s with⟨k,k1,k2,k3,k4,k5⟩|⟨k1,k2⟩
 .have a:=h4 k k1 ((hs k k1 k3).2 k2) k3
  have b:=k4 j h1 ((hs j h1 h3).1 h2) h3
  have:j=k:=by omega
  subst this;rw[h5,k5]
 .exact absurd h3 (k1 j h1 ((hs j h1 h3).1 h2))
 .exact absurd k3 (h1 k k1 ((hs k k1 k3).2 k2))
 .rw [h2,k2]
theorem O6.step {n:Nat}{S:Nat->Prop}{g:Env}(h:O6 n O V g0 S g)(i:Nat)(hi:i<n)
 (hw:∀s,(O i).dst=some s->∀j,j<n->j≠i->(O j).dst=some s->S j->j<i):
 O6 n O V g0 (λj=>S j∨j=i) (put g (O i).dst (V i)):=by
 intro s
 cases hd:(O i).dst with
 |none=>
  rcases h s with⟨j,h1,h2,h3,h4,h5⟩|⟨h1,h2⟩
  .refine .inl ⟨j,h1,.inl h2,h3,λk k1 k2 k3=> ?_,h5⟩
   rcases k2 with k2|rfl
   .exact h4 k k1 k2 k3
   .rw [hd]at k3;cases k3
  .refine .inr ⟨λj h3 h4 h5=> ?_,h2⟩
   rcases h4 with h4|rfl
   .exact h1 j h3 h4 h5
   .rw [hd]at h5;cases h5
 |some t=>
  rw[OA]
  by_cases hst:s=t
  .subst hst
   rw[if_pos rfl]
   refine .inl ⟨i,hi,.inr rfl,hd,λk k1 k2 k3=> ?_,rfl⟩
   rcases k2 with k2|rfl
   .by_cases hk:k=i
    .omega
    .have:=hw s hd k k1 hk k3 k2;omega
   .omega
  .rw [if_neg hst]
   rcases h s with⟨j,h1,h2,h3,h4,h5⟩|⟨h1,h2⟩
   .refine .inl ⟨j,h1,.inl h2,h3,λk k1 k2 k3=> ?_,h5⟩
    rcases k2 with k2|rfl
    .exact h4 k k1 k2 k3
    .rw [hd]at k3;exact absurd (aLW k3).symm hst
   .refine .inr ⟨λj h3 h4 h5=> ?_,h2⟩
    rcases h4 with h4|rfl
    .exact h1 j h3 h4 h5
    .rw [hd]at h5;exact absurd (aLW h5).symm hst
theorem Run.envFor {n:Nat}(r:Run P ops an g0 w0 n O G W V):∀i,i<=n->O6 n O V g0 (λj=>j<i) (G i):=by
 intro i
 induction i with
 |zero=>intro _ s;exact .inr ⟨λj _ h=>absurd h (by omega),by rw[r.g0]⟩
 |succ i ih=>
  intro hi
  have h:=ih (by omega)
  have:=h.step (V:=V) i (by omega) (λs _ j _ _ _ hj=>hj)
  rw[<-r.env i (by omega)]at this
  intro s
  rcases this s with⟨j,h1,h2,h3,h4,h5⟩|⟨h1,h2⟩
  .exact .inl ⟨j,h1,by omega,h3,λk k1 k2 k3=>h4 k k1 (by omega) k3,h5⟩
  .exact .inr ⟨λj a b=>h1 j a (by omega),h2⟩
theorem Run.still {n:Nat}(r:Run P ops an g0 w0 n O G W V)(i:Nat):∀d,i+d<=n->(∀h,i<=h->h<i+d->pI h an.1=false)->W (i+d)=W i:=by
 intro d
 induction d with
 |zero=>intro _ _;rfl
 |succ d ih=>
  intro h1 h2
  rw[<-aMM,r.light (i+d) (by omega) (h2 _ (by omega) (by omega))]
  exact ih (by omega) (λh a b=>h2 h a (by omega))
theorem Run.still' {n:Nat}(r:Run P ops an g0 w0 n O G W V){i k:Nat}(hik:i<=k)(hk:k<=n)(hh:∀h,i<=h->h<k->pI h an.1=false):W k=W i:=by
 have:=r.still i (k-i) (by omega) (λh a b=>hh h a (by omega))
 rwa [show i+(k-i)=k from by omega]at this
theorem atV{i k:Nat}:(∃h,i<=h/\h<k/\pI h an.1=true)->∃h,i<=h/\h<k/\pI h an.1=true/\∀h',i<=h'->h'<h->pI h' an.1=false:=by
 rintro⟨h,h1,h2,h3⟩
 induction h using Nat.strongRecOn with
 |_ h ih=>
  by_cases hx:∃h',i<=h'/\h'<h/\pI h' an.1=true
  .obtain ⟨h',a,b,c⟩:=hx
   exact ih h' b a (by omega) c
  .refine ⟨h,h1,h2,h3,λh' a b=> ?_⟩
   cases hm:pI h' an.1
   .rfl
   .exact absurd ⟨h',a,b,hm⟩ hx
theorem aiD{i k:Nat}:(∃h,i<=h/\h<k/\pI h an.1=true)->∃h,i<=h/\h<k/\pI h an.1=true/\∀h',h<h'->h'<k->pI h' an.1=false:=by
 rintro⟨h,h1,h2,h3⟩
 induction hd:k-h using Nat.strongRecOn generalizing h with
 |_ d ih=>
  by_cases hx:∃h',h<h'/\h'<k/\pI h' an.1=true
  .obtain ⟨h',a,b,c⟩:=hx
   exact ih (k-h') (by omega) h' (by omega) b c rfl
  .refine ⟨h,h1,h2,h3,λh' a b=> ?_⟩
   cases hm:pI h' an.1
   .rfl
   .exact absurd ⟨h',a,b,hm⟩ hx
structure agS(ops:Array Oper)(an:Ann)(O:Nat->Oper)(b:Array Nat):Prop where
 back:∀i,i<ops.size->∀e∈(O i).after,Region.binds .any e=true->e.on<i
 closed:∀i j,i<ops.size->j<ops.size->bef b i j=true->∃e∈(O j).after,Region.binds .any e=true/\(e.on=i∨bef b i e.on=true)
 pair:∀i j,i<j->j<ops.size->TE ops b an i j (O i) (O j)=true
 sel:∀i,i<ops.size->adT (O i)=false
 fn:∀i,i<ops.size->aEd (O i)=true->pI i an.1=true
theorem aCH(h:ahQ ops an=true)(ho:∀i,i<ops.size->ops[i]?=some (O i)):agS ops an O (Region.before ops):=by
 unfold ahQ at h
 simp only[aLQ]at h
 obtain⟨⟨⟨⟨h1,h2⟩,h3⟩,h5⟩,h6⟩:=h
 refine⟨λi hi e he hb=> ?_,λi j hi hj hb=> ?_,λi j hij hj=> ?_,λi hi=> ?_,λi hi hf=> ?_⟩
 .unfold amN at h1
  have:=aMn.1 h1 i (aMs.2 hi)
  rw[ho i hi]at this
  have:=aM2.1 this e he
  simp only[hb,aMy,Bool.false_or]at this
  exact(aNL (x:=e.on) (y:=i))▸this
 .unfold amE at h2
  have:=aMn.1 (aMn.1 h2 j (aMs.2 hj)) i (aMs.2 hi)
  rw[ho j hj]at this
  simp only[hb,aMy,Bool.false_or]at this
  obtain⟨e,he,h⟩:=Array.any_eq_true'.1 this
  simp only[aLQ,aM8]at h
  refine⟨e,he,h.1,h.2.imp (λh=>aMj h) id⟩
 .unfold asE at h3
  have:=aMn.1 (aMn.1 h3 j (aMs.2 hj)) i (aMs.2 hij)
  rw[ho i (by omega),ho j hj]at this
  exact this
 .have:=aM2.1 h5 (O i) (aOe (ho i hi))
  simpa using this
 .have:=aMn.1 h6 i (aMs.2 hi)
  rw[ho i hi]at this
  simpa[hf]using this
theorem aEk{i j:Nat}:∀{l:List (Nat×Nat)},aiV i j l=true->(i,j)∈l:=by
 intro l
 induction l with
 |nil=>intro h;cases h
 |cons p r ih=>
  obtain⟨a,b⟩:=p
  intro h
  unfold aiV at h
  cases ha:Nat.beq a i with
  |true=>
   simp only[ha]at h
   cases hb:Nat.beq b j with
   |true=>
    obtain rfl:=aMj ha
    obtain rfl:=aMj hb
    exact aMa
   |false=>simp only[hb]at h;exact aLN _ (ih h)
  |false=>simp only[ha]at h;exact aLN _ (ih h)
theorem agS.order {b:Array Nat}(st:agS ops an O b){S:Nat->Prop}{i:Nat}(hi:i<ops.size)
 (hdown:∀j k,j<ops.size->k<ops.size->S k->bef b j k=true->S j) (hbi:∀j,j<ops.size->bef b j i=true->S j) (hni:¬S i)
 {s:Nat} (hs:s∈looks ops (O i)∨(O i).dst=some s) {j:Nat} (hj:j<ops.size) (hji:j≠i) (hd:(O j).dst=some s):S j↔j<i:=by
 rcases aLL j i with h|h
 .refine ⟨λ_=>h,λ_=> ?_⟩
  have p:=st.pair j i h hi
  unfold TE at p
  simp only[aM8,aLQ,aNi]at p
  rcases p with p|p
  .exact hbi j hj p
  .exfalso
   have p1:=p.1
   unfold aDC at p1
   simp only[hd,aNV]at p1
   rcases hs with hs|hs
   .have:=p1.1.1;simp[hs]at this
   .have:=p1.1.2;simp[hs]at this
 .have h':i<j:=by omega
  refine⟨λhS=> ?_,λhh=>by omega⟩
  exfalso
  have p:=st.pair i j h' hj
  unfold TE at p
  simp only[aM8,aLQ,aNi]at p
  rcases p with p|p
  .exact hni (hdown i j hi hj hS p)
  .have p1:=p.1
   unfold aDC at p1
   simp only[hd,aNV]at p1
   rcases hs with hs|hs
   .have:=p1.2;simp[hs]at this
   .have:=p1.1;rw[hs]at this;simp at this
theorem NT{g g':Env}{o:Oper}(h:∀s∈looks ops o,g s=g' s):∀x∈o.op.operands,ev g x=ev g' x:=by
 intro x hx
 cases x with
 |tmp t=>exact h t (aNs _ (List.mem_filterMap.2 ⟨.tmp t,by simpa using hx,rfl⟩))
 |_=>rfl
theorem auR{g g':Env}{o:Oper}(hs:adT o=false)(h:∀s∈looks ops o,g s=g' s):Ox g o=Ox g' o:=by
 have e:=execOp_congr o (λcs b he=>by simp[adT,he]at hs) (NT h)
 have k:=NT h
 unfold Ox
 split
 .rename_i op t x y yt hx
  rw[k x (by simp[hx,Op.operands]),k y (by simp[hx,Op.operands])]
 .rename_i fn first captured hx
  have e1:List.map (ev g) first.toList=List.map (ev g') first.toList:=aME λp hp=>k p (by simp[hx,Op.operands];exact .inl (by simpa using hp))
  have e2:List.map (ev g) captured.toList=List.map (ev g') captured.toList:=aME λp hp=>k p (by simp[hx,Op.operands];exact .inr (by simpa using hp))
  rw[e1,e2]
 .rename_i t ps hx
  congr 1
  refine aME λp hp=> ?_
  rw[k p.2 (by simp[hx,Op.operands];exact⟨p.1,by simpa using hp⟩)]
 .rename_i t n ps hx
  congr 1
  refine aME λp hp=> ?_
  rw[k p.2 (by simp[hx,Op.operands];exact⟨p.1,by simpa using hp⟩)]
 .rename_i c hx
  split
  .rename_i b hb
   congr 1
   refine aME λp hp=> ?_
   exact k p (by simp[hx,Op.operands,Call.operands,hb];simpa using hp)
  .rename_i f hb
   have:List.map (ev g) c.args.toList=List.map (ev g') c.args.toList:=aME λp hp=>k p (by simp[hx,Op.operands,Call.operands,hb];exact .inr (by simpa using hp))
   rw[this,k f (by simp[hx,Op.operands,Call.operands,hb])]
  .exact e
 .exact e
theorem alF{g g':Env}{o:Oper}{j:Nat}{want:Bool}(hg:o.guard=some (j,want))(h:∀s∈looks ops o,g s=g' s):
 Bo g (Fl ops j) want=Bo g' (Fl ops j) want:=by
 cases hs:Fl ops j with
 |none=>rfl
 |some t=>
  have:=h t (aNT _ (by simp[hg,hs]))
  simp[Bo,this]
theorem Zj{g g':Env}{o:Oper}{w:aOm}{K:aOn->aOm->Prop}(hs:adT o=false)(h:∀s∈looks ops o,g s=g' s)
 (hk:Ka P ops g o w K):Ka P ops g' o w K:=by
 have e:=auR (ops:=ops) hs h
 have run:LO P g o w=LO P g' o w:=by
  funext K
  unfold LO
  split
  .rename_i x hx
   have:=NT (ops:=ops) h x (by simp[hx,Op.operands])
   rw[this]
  .rename_i x hx
   have:=NT (ops:=ops) h x (by simp[hx,Op.operands])
   rw[this]
  .rename_i c hx
   have k:=NT h
   have:List.map (ev g) c.args.toList=List.map (ev g') c.args.toList:=aME λp hp=>k p (by simp[hx,Op.operands,Call.operands];exact .inr (by simpa using hp))
   rw[this,e]
  .rw [e]
 unfold Ka at*
 cases hg:o.guard with
 |none=>rw[hg]at hk;simp only at hk⊢;rwa [<-run]
 |some p=>
  obtain⟨j,want⟩:=p
  simp only[hg]at hk⊢
  rw[<-run,<-alF hg h]
  exact hk
theorem auA{n:Nat}(hn:n=ops.size){b:Array Nat}(r:Run P ops an g0 w0 n O G W V)(st:agS ops an O b){S:Nat->Prop}{i k:Nat}(hi:i<n)(hk:k<=n)
 (hdown:∀j k,j<ops.size->k<ops.size->S k->bef b j k=true->S j) (hbi:∀j,j<ops.size->bef b j i=true->S j) (hni:¬S i)
 (hS:∀h,h<n->pI h an.1=true->(S h↔h<k)) (hl:pI i an.1=false):
 adE P ops (G i) (O i) (W k) (V i) (W k):=by
 subst hn
 have same:Gs (gOf ops (O i) (G i)) (dT P (Ox (G i) (O i)) (V i) (W k))->PL (O i)=false->adE P ops (G i) (O i) (W k) (V i) (W k):=by
  intro hs hm K hK
  have run:dT P (Ox (G i) (O i)) (V i) (W k)->LO P (G i) (O i) (W k) K:=by
   intro hs
   unfold dT at hs
   have stp:aA P (Ox (G i) (O i)) (W k) K:=by unfold aA;rw[hs];exact hK
   unfold LO
   split
   .rename_i x hx;simp[PL,hx]at hm
   .rename_i x hx;simp[PL,hx]at hm
   .rename_i c hx
    have hf:aEd (O i)=false:=by
     cases hh:aEd (O i)
     .rfl
     .rw [st.fn i hi hh]at hl;cases hl
    obtain⟨cal,cargs,cats⟩:=c
    cases cal with
    |value f=>
     cases f with
     |func f=>simp[aEd,hx]at hf
     |_=>exact stp
    |_=>exact stp
   .exact stp
  have hy:=r.yld i hi (λv _=>v=V i) rfl
  unfold Ka at hy⊢
  unfold gOf at hs
  cases hg:(O i).guard with
  |none=>rw[hg]at hs;exact run hs
  |some p=>
   obtain⟨j,want⟩:=p
   rw[hg]at hs
   simp only[hg]at hs hy⊢
   cases hb:Bo (G i) (Fl ops j) want with
   |true=>rw[hb]at hs;exact run hs
   |false=>
    rw[hb]at hy
    have:undef=V i:=hy
    show K undef (W k)
    rw[this];exact hK
 have moved:PL (O i)=true->adE P ops (G i) (O i) (W k) (V i) (W k):=by
  intro hm K hK
  have hy:=r.yld i hi (λv _=>v=V i) rfl
  unfold Ka at hy⊢
  have mv:∀(K':aOn->aOm->Prop) w,LO P (G i) (O i) w K'↔∃x,((O i).op= .move x∨(O i).op= .assign x)/\K' (ev (G i) x) w:=by
   intro K' w
   unfold LO
   unfold PL at hm
   split
   .rename_i x hx;constructor
    .intro h;exact⟨x,.inl hx,h⟩
    .rintro ⟨y,h|h,h'⟩
     .rw [hx]at h;cases h;exact h'
     .rw [hx]at h;cases h
   .rename_i x hx;constructor
    .intro h;exact⟨x,.inr hx,h⟩
    .rintro ⟨y,h|h,h'⟩
     .rw [hx]at h;cases h
     .rw [hx]at h;cases h;exact h'
   .rename_i c hx;simp[hx]at hm
   .rename_i h1 h2 _;split at hm
    .rename_i x hx;exact absurd hx (h1 x)
    .rename_i x hx;exact absurd hx (h2 x)
    .cases hm
  cases hg:(O i).guard with
  |none=>
   rw[hg]at hy
   simp only at hy⊢
   rw[mv]at hy⊢
   obtain⟨x,hx,h⟩:=hy
   exact⟨x,hx,h▸hK⟩
  |some p=>
   obtain⟨j,want⟩:=p
   simp only[hg]at hy⊢
   unfold Gd at*
   cases hb:Bo (G i) (Fl ops j) want with
   |true=>
    simp only[hb]at hy⊢
    rw[mv]at hy⊢
    obtain⟨x,hx,h⟩:=hy
    exact⟨x,hx,h▸hK⟩
   |false=>
    simp only[hb]at hy⊢
    rwa [hy]
 rcases aOj k i with hki|hki
 .by_cases hx:∃h,k<=h/\h<i/\pI h an.1=true
  .obtain ⟨h,h1,h2,h3,h4⟩:=atV hx
   have e:W h=W k:=r.still' h1 (by omega) h4
   have p:=st.pair h i h2 hi
   unfold TE at p
   simp only[aM8,aLQ,aNi]at p
   rcases p with p|p
   .have:=hbi h (by omega) p
    have:=(hS h (by omega) h3).1 this
    omega
   .have p2:=p.2
    rw[h3,hl]at p2
    simp only[aM8]at p2
    cases hmv:PL (O i)with
    |true=>exact moved hmv
    |false=>
     rcases p2 with p2|p2
     .rw [hmv]at p2;cases p2
     .refine same ?_ hmv
      have c:=r.chk h i h2 hi p2
      unfold aAy W4 aeA at c
      simp only[h3]at c
      rw[<-e];exact c
  .have e:W i=W k:=r.still' hki (by omega) (λh a b=>by
    cases hm:pI h an.1
    .rfl
    .exact absurd ⟨h,a,b,hm⟩ hx)
   have hy:=r.yld i hi
   rw[r.light i hi hl,e]at hy
   exact hy
 .by_cases hx:∃h,i<=h/\h<k/\pI h an.1=true
  .obtain ⟨h,h1,h2,h3,h4⟩:=aiD hx
   have hne:h≠i:=λe=>by rw[e,hl]at h3;cases h3
   have e:W k=W (h+1):=r.still' (by omega) hk (λh' a b=>h4 h' (by omega) b)
   have p:=st.pair i h (by omega) (by omega)
   unfold TE at p
   simp only[aM8,aLQ,aNi]at p
   rcases p with p|p
   .exact absurd (hdown i h (by omega) (by omega) ((hS h (by omega) h3).2 h2) p) hni
   .have p2:=p.2
    rw[h3,hl]at p2
    simp only[aM8]at p2
    cases hmv:PL (O i)with
    |true=>exact moved hmv
    |false=>
     rcases p2 with p2|p2
     .rw [hmv]at p2;cases p2
     .refine same ?_ hmv
      have c:=r.chk i h (by omega) (by omega) p2
      unfold aAy W4 aeA at c
      simp only[hl]at c
      rw[e];exact c
  .have e:W k=W i:=r.still' hki hk (λh a b=>by
    cases hm:pI h an.1
    .rfl
    .exact absurd ⟨h,a,b,hm⟩ hx)
   have hy:=r.yld i hi
   rw[r.light i hi hl,<-e]at hy
   exact hy
def jV(listed:Array Bool)(i:Nat):Prop:=listed.getD i false=true
theorem aDS{N n:Nat}(hn:n=ops.size)(hd:WQ N ops)(hca:XY P ops){b:Array Nat}(r:Run P ops an g0 w0 n O G W V)(st:agS ops an O b)
 {Q:Act->aOm->Prop} (hQ:∀a,R9 N (G n) a->Q a (W n)):
 ∀(fuel:Nat) (listed:Array Bool) (g:Env) (a:Act) (k:Nat),listed.size=n->R9 N g a->k<=n→
  (∀j,j<n->jV listed j->∀e∈(O j).after,Region.binds .any e=true->jV listed e.on)→
  O6 n O V g0 (jV listed) g->(∀h,h<n->pI h an.1=true->(jV listed h↔h<k))→
  ((List.range n).filter λi=> !listed.getD i false).length<=fuel→
  akH P ops Q fuel listed a (W k):=by
 subst hn
 have ready_iff:∀(listed:Array Bool),listed.size=ops.size->∀i,i∈Region.ready .any ops listed↔(i<ops.size/\¬jV listed i/\∀e∈(O i).after,Region.binds .any e=true->jV listed e.on):=by
  intro listed hsz i
  unfold Region.ready jV
  rw[aN0,aMs]
  constructor
  .rintro ⟨h1,h2⟩
   rw[r.op i h1]at h2
   simp only[aLQ,aL6,aNw]at h2
   refine⟨h1, ?_,λe he hb=> ?_⟩
   .have:=h2.1
    rw[aLM]at this⊢
    rw[aL4 (by omega)]at this⊢
    simpa using this
   .have:=aM2.1 h2.2 e he
    simpa[hb]using this
  .rintro ⟨h1,h2,h3⟩
   refine⟨h1, ?_⟩
   rw[r.op i h1]
   simp only[aLQ,aL6,aNw]
   refine⟨?_,aM2.2 λe he=> ?_⟩
   .rw [aLM]at h2⊢
    rw[aL4 (by omega)]at h2⊢
    simpa using h2
   .by_cases hb:Region.binds .any e=true
    .simp [hb,h3 e he hb]
    .simp [hb]
 have none_ready:∀(listed:Array Bool),listed.size=ops.size->Region.ready .any ops listed=[]->∀i,i<ops.size->jV listed i:=by
  intro listed hsz hr i
  induction i using Nat.strongRecOn with
  |_ i ih=>
   intro hi
   refine Classical.byContradiction λhl=> ?_
   have:i∈Region.ready .any ops listed:=(ready_iff listed hsz i).2 ⟨hi,hl,λe he hb=>by
    have:=st.back i hi e he hb
    exact ih e.on this (by omega)⟩
   rw[hr]at this;cases this
 have all_done:∀(listed:Array Bool) (g:Env) (a:Act) (k:Nat),R9 N g a->k<=ops.size->O6 ops.size O V g0 (jV listed) g→
     (∀h,h<ops.size->pI h an.1=true->(jV listed h↔h<k))->(∀i,i<ops.size->jV listed i)->Q a (W k):=by
  intro listed g a k hr hk he hh hall
  have e:W ops.size=W k:=r.still' hk (aLA _) (λh h1 h2=>by
   cases hm:pI h an.1
   .rfl
   .have:=(hh h h2 hm).1 (hall h h2);omega)
  have eg:g=G ops.size:=funext λs=>he.agree (r.envFor ops.size (aLA _)) s (λj hj _=>⟨λ_=>hj,λ_=>hall j hj⟩)
  rw[<-e];exact hQ a (eg▸hr)
 intro fuel
 induction fuel with
 |zero=>
  intro listed g a k hsz hr hk hdep henv hh hc
  have hall:∀i,i<ops.size->jV listed i:=by
   intro i hi
   have hnil:((List.range ops.size).filter λi=> !listed.getD i false)=[]:=aMc.1 (by omega)
   have:=List.filter_eq_nil_iff.1 hnil i (aMs.2 hi)
   unfold jV;simpa using this
  refine⟨?_,all_done listed g a k hr hk henv hh hall⟩
  rw[List.eq_nil_iff_forall_not_mem]
  intro i hi
  have:=(ready_iff listed hsz i).1 hi
  exact this.2.1 (hall i this.1)
 |succ fuel ih=>
  intro listed g a k hsz hr hk hdep henv hh hc
  refine⟨λhn=>all_done listed g a k hr hk henv hh (none_ready listed hsz hn),λi hi=> ?_⟩
  obtain⟨h1,h2,h3⟩:=(ready_iff listed hsz i).1 hi
  have hdown:∀k j,j<ops.size->k<ops.size->jV listed k->bef b j k=true->jV listed j:=by
   intro k
   induction k using Nat.strongRecOn with
   |_ k ihk=>
    intro j hj hk hl hb
    obtain⟨e,he,hbi,h⟩:=st.closed j k hj hk hb
    have hle:=hdep k hk hl e he hbi
    rcases h with h|h
    .exact h▸hle
    .have hlt:=st.back k hk e he hbi
     exact ihk e.on hlt j hj (by omega) hle h
  have hbi:∀j,j<ops.size->bef b j i=true->jV listed j:=by
   intro j hj hb
   obtain⟨e,he,hbi,h⟩:=st.closed j i hj h1 hb
   have hle:=h3 e he hbi
   rcases h with h|h
   .exact h▸hle
   .have hlt:=st.back i h1 e he hbi
    exact hdown e.on j hj (by omega) hle h
  have hdown':∀j k,j<ops.size->k<ops.size->jV listed k->bef b j k=true->jV listed j:=λj k=>hdown k j
  have hlooks:∀s∈looks ops (O i),(G i) s=g s:=λs hs=>
   (r.envFor i (by omega)).agree henv s (λj hj hd=>by
     by_cases hji:j=i
     .subst hji
      exact⟨λh=>absurd h (by omega),λh=>absurd h h2⟩
     .exact (st.order h1 hdown' hbi h2 (.inl hs) hj hji hd).symm)
  have hl':∀j,jV (listed.setIfInBounds i true) j↔(jV listed j∨j=i):=by
   intro j
   unfold jV
   rw[aLM,aLM]
   by_cases hji:j=i
   .subst hji
    rw[aMi (by omega)]
    simp
   .rw [aMv (λe=>hji e.symm)]
    simp[hji]
  have next:∀k',k'<=ops.size->(∀h,h<ops.size->pI h an.1=true->((jV listed h∨h=i)↔h<k'))->adE P ops g (O i) (W k) (V i) (W k')→
      Ut P ops i (akH P ops Q fuel (listed.setIfInBounds i true)) a (W k):=by
   intro k' hk' hh' hy
   refine aeK (r.op i h1) (hca i _ (r.op i h1)) hd hr hy ?_
   refine ih _ (put g (O i).dst (V i)) _ k' (by simp[hsz]) (hr.put _ _ (hd i _ (r.op i h1))) hk' ?_ ?_ ?_ ?_
   .intro j hj hlj e he hb
    rw[hl']at hlj⊢
    rcases hlj with hlj|rfl
    .exact .inl (hdep j hj hlj e he hb)
    .exact .inl (h3 e he hb)
   .have:=henv.step i h1 (λs hs j hj hji hd hlj=>(st.order h1 hdown' hbi h2 (.inr hs) hj hji hd).1 hlj)
    intro s
    rcases this s with⟨j,j1,j2,j3,j4,j5⟩|⟨j1,j2⟩
    .exact .inl ⟨j,j1,(hl' j).2 j2,j3,λk k1 k2 k3=>j4 k k1 ((hl' k).1 k2) k3,j5⟩
    .exact .inr ⟨λj a b=>j1 j a ((hl' j).1 b),j2⟩
   .intro h a b;rw[hl'];exact hh' h a b
   .have hin:i∈(List.range ops.size).filter λi=> !listed.getD i false:=
     aN0.2 ⟨aMs.2 h1,by unfold jV at h2;simpa using h2⟩
    have e1:((List.range ops.size).filter λj=> !(listed.setIfInBounds i true).getD j false)=((List.range ops.size).filter λj=> !listed.getD j false).filter λj=>j !=i:=by
     rw[List.filter_filter]
     refine List.filter_congr λj _=> ?_
     have:=hl' j
     unfold jV at this
     by_cases hji:j=i
     .have hh:(listed.setIfInBounds i true).getD j false=true:=this.2 (.inr hji)
      rw[hh,hji];simp
     .have hne:(j !=i)=true:=by simpa using hji
      rw[hne,Bool.true_and]
      cases ha:listed.getD j false with
      |true=>rw[this.2 (.inl ha)]
      |false=>
       cases hb:(listed.setIfInBounds i true).getD j false with
       |false=>rfl
       |true=>rcases this.1 hb with h|h
              .rw [ha]at h;cases h
              .exact absurd h hji
    have hnd:((List.range ops.size).filter λj=> !listed.getD j false).Nodup:=List.nodup_range.filter _
    rw[e1,<-List.Nodup.erase_eq_filter hnd,aN2 hin]
    omega
  cases hm:pI i an.1 with
  |true=>
   have hS:∀h,h<ops.size->pI h an.1=true->(jV listed h↔h<i):=by
    intro h hh1 hhm
    rcases aNt h i with hlt|heq|hgt
    .refine ⟨λ_=>hlt,λ_=> ?_⟩
     have p:=st.pair h i hlt h1
     unfold TE at p
     rw[hhm,hm]at p
     simp only[aM8,aLQ,aLF,and_false,or_false]at p
     exact hbi h hh1 p
    .subst heq;exact⟨λhh=>absurd hh h2,λhh=>absurd hh (by omega)⟩
    .refine ⟨λhl=> ?_,λhh=>absurd hh (by omega)⟩
     have p:=st.pair i h hgt hh1
     unfold TE at p
     rw[hhm,hm]at p
     simp only[aM8,aLQ,aLF,and_false,or_false]at p
     exact absurd (hdown h i h1 hh1 hl p) h2
   have eW:W k=W i:=by
    rcases aOj k i with hki|hki
    .exact (r.still' hki (by omega) (λh a b=>by
      cases hx:pI h an.1
      .rfl
      .have:=(hh h (by omega) hx).1 ((hS h (by omega) hx).2 b);omega)).symm
    .exact r.still' hki hk (λh a b=>by
      cases hx:pI h an.1
      .rfl
      .have:=(hS h (by omega) hx).1 ((hh h (by omega) hx).2 b);omega)
   refine next (i+1) (by omega) (λh a b=> ?_) ?_
   .rw [hS h a b];omega
   .rw [eW]
    intro K hK
    exact Zj (ops:=ops) (st.sel i h1) hlooks (r.yld i h1 K hK)
  |false=>
   refine next k hk (λh a b=> ?_) ?_
   .rw [<-hh h a b]
    constructor
    .rintro (h'|rfl)
     .exact h'
     .rw [hm]at b;cases b
    .exact .inl
   .intro K hK
    exact Zj (ops:=ops) (st.sel i h1) hlooks (auA rfl r st h1 hk hdown' hbi h2 hh hm K hK)
end
abbrev agT(P:Program):Machine->Prop:=Machine.fenced P Fence.wide
def wpF(P:Program)(f:FuncId)(ro:Option Nat)(c:Code)(Q:Exit->Act->aOm->Prop)(a:Act)(w:aOm):Prop:=
 ∀(b:Frame) (k:List Item) (cs:List Frame),b.fn=f->b.roundOf=ro->∃e a' w',Q e a' w'/\ArrivesIn (agT P) P (lone (b.atR a (.code c::k)) cs w) b k cs e a' w'
section
variable{P:Program}{f:FuncId}{ro:Option Nat}{Q:Exit->Act->aOm->Prop}{a:Act}{w:aOm}
theorem J9 {m m1:Machine}(h:step P m= .next m1):StepsIn (agT P) P m m1:= .one (fenced_wide P m) h
theorem QP{m m1 m2:Machine}(h:step P m= .next m1)(h':StepsIn (agT P) P m1 m2):StepsIn (agT P) P m m2:= .head (fenced_wide P m) h h'
theorem aFq(h:Q .normal a w):wpF P f ro .skip Q a w:=λ_ _ _ _ _=>⟨.normal,a,w,h,J9 Go.stepR_skip⟩
theorem aCR{l:Nat}(h:Q .normal a w):wpF P f ro (.label l) Q a w:=λ_ _ _ _ _=>⟨.normal,a,w,h,J9 stepR_label⟩
theorem awK{id:Nat}(h:Q (.exit id) a w):wpF P f ro (.exit id) Q a w:=
 λ_ k _ _ _=>⟨.exit id,a,w,h,λ_ hk=>J9 (stepR_exit hk),λ_ hk=>⟨k,hk,.refl _⟩⟩
theorem aBk(h:Q .ret a w):wpF P f ro .ret Q a w:=
 λ_ k _ _ _=>⟨.ret,a,w,h,λhn=>⟨_,J9 (stepR_ret hn)⟩,λ_=>⟨k,.refl _⟩⟩
theorem aG2 {x y:Code}(h:wpF P f ro x (Exit.then (wpF P f ro y Q) Q) a w):wpF P f ro (.seq x y) Q a w:=by
 intro b k cs hb hro
 obtain⟨e,a1,w1,hq,har⟩:=h b (.code y::k) cs hb hro
 cases e with
 |normal=>
  obtain⟨e2,a2,w2,hq2,har2⟩:=hq b k cs hb hro
  exact⟨e2,a2,w2,hq2,.of_steps (QP stepR_seq har) har2⟩
 |_=>exact⟨_,a1,w1,hq,.of_steps (J9 stepR_seq) (.pass (x:= .code y) rfl (λ_ _=> .inl (by simp)) har)⟩
theorem aFo{c:Operand}{x y:Code}{t:Bool}(hc:a.eval c= .bool t)(h:wpF P f ro (if t then x else y) Q a w):wpF P f ro (.cond c x y) Q a w:=
 λb k cs hb hro=>let⟨e,a1,w1,q,r⟩:=h b k cs hb hro;⟨e,a1,w1,q,.of_steps (J9 (stepR_cond hc)) r⟩
theorem aCQ{id:Nat}{c:Code}(h:wpF P f ro c (Exit.inBlock id Q) a w):wpF P f ro (.block id c) Q a w:=by
 intro b k cs hb hro
 obtain⟨e,a1,w1,hq,har⟩:=h b (.inBlock id::k) cs hb hro
 cases e with
 |normal=>exact⟨.normal,a1,w1,hq,QP stepR_block (StepsIn.trans har (J9 stepR_inBlock))⟩
 |exit i=>
  by_cases hid:i=id
  .simp only[Exit.inBlock,hid,if_true]at hq
   exact⟨.normal,a1,w1,hq,QP stepR_block (har.1 k (by simp[exitTo,hid]))⟩
  .simp only[Exit.inBlock,hid,if_false]at hq
   have this:(id==i)=false:=by simp;exactλh=>hid h.symm
   have hx:exitTo i (.inBlock id::k)=exitTo i k:=by simp[exitTo,this]
   exact⟨.exit i,a1,w1,hq,λk' hk=>QP stepR_block (har.1 k' (by rw[hx];exact hk)),
    λhr' hk=>let⟨k1,h1,h2⟩:=har.2 hr' (by rw[hx];exact hk);⟨k1,h1,QP stepR_block h2⟩⟩
 |goto l=>
  have hx:gotoIn l (.inBlock id::k)=gotoIn l k:=by simp[gotoIn]
  exact⟨_,a1,w1,hq,λk' hk=>QP stepR_block (har.1 k' (by rw[hx];exact hk)),
   λhr' hk=>let⟨k1,h1,h2⟩:=har.2 hr' (by rw[hx];exact hk);⟨k1,h1,QP stepR_block h2⟩⟩
 |ret=>exact⟨_,a1,w1,hq,.of_steps (J9 stepR_block) har⟩
 |panic ch=>exact⟨_,a1,w1,hq,.of_steps (J9 stepR_block) har⟩
 |outgrown=>exact⟨_,a1,w1,hq,.of_steps (J9 stepR_block) har⟩
theorem Co{b:Frame}{k:List Item}{cs:List Frame}{c:Code}:
 step P (lone (b.atR a (.code (.scope c)::k)) cs w)= .next (lone (b.atR a (.code c:: .inScope c::k)) cs w):=
 step_lone_go (by simp[stepG,stepG.exec,Frame.atR])
theorem alV{b:Frame}{k:List Item}{cs:List Frame}{c:Code}:
 step P (lone (b.atR a (.inScope c::k)) cs w)= .next (lone (b.atR a k) cs w):=
 step_lone_go (by simp[stepG,stepG.exec,Frame.atR])
theorem aCT{c:Code}(h:wpF P f ro c (Exit.noGoto Q) a w):wpF P f ro (.scope c) Q a w:=by
 intro b k cs hb hro
 obtain⟨e,a1,w1,hq,har⟩:=h b (.inScope c::k) cs hb hro
 cases e with
 |normal=>exact⟨.normal,a1,w1,hq,QP Co (StepsIn.trans har (J9 alV))⟩
 |exit id=>
  have hx:exitTo id (.inScope c::k)=exitTo id k:=by simp[exitTo]
  exact⟨.exit id,a1,w1,hq,λk' hk=>QP Co (har.1 k' (by rw[hx];exact hk)),
   λhr' hk=>let⟨k1,h1,h2⟩:=har.2 hr' (by rw[hx];exact hk);⟨k1,h1,QP Co h2⟩⟩
 |goto l=>exact hq.elim
 |ret=>exact⟨_,a1,w1,hq,.of_steps (J9 Co) har⟩
 |panic ch=>exact⟨_,a1,w1,hq,.of_steps (J9 Co) har⟩
 |outgrown=>exact⟨_,a1,w1,hq,.of_steps (J9 Co) har⟩
theorem aFp{c:Code}(I:Act->aOm->Prop)(μ:Act->aOm->Nat)(h0:I a w)
 (round:∀a w,I a w->wpF P f ro c (Exit.then (λa' w'=>I a' w'/\μ a' w'<μ a w) Q) a w):wpF P f ro (.loop c) Q a w:=by
 intro b k cs hb hro
 have key:∀n a w,μ a w=n->I a w→
     ∃e a' w',Q e a' w'/\ArrivesIn (agT P) P (lone (b.atR a (.code c:: .inLoop c::k)) cs w) b k cs e a' w':=by
  intro n
  induction n using Nat.strongRecOn with
  |_ n ih=>
   intro a w hn hI
   obtain⟨e,a1,w1,hq,har⟩:=round a w hI b (.inLoop c::k) cs hb hro
   cases e with
   |normal=>
    obtain⟨hI1,hlt⟩:=hq
    obtain⟨e2,a2,w2,hq2,har2⟩:=ih (μ a1 w1) (hn▸hlt) a1 w1 rfl hI1
    exact⟨e2,a2,w2,hq2,.of_steps (StepsIn.trans har (J9 stepR_inLoop)) har2⟩
   |_=>exact⟨_,a1,w1,hq,.pass (x:= .inLoop c) rfl (λ_ _=> .inl (by simp)) har⟩
 obtain⟨e,a',w',hq,har⟩:=key _ a w rfl h0
 exact⟨e,a',w',hq,.of_steps (J9 stepR_loop) har⟩
theorem aBj{ops:Array Oper}{L:List Nat}(h:FP P ops (Q .normal) L a w)(b:Frame)(k:List Item)(cs:List Frame)(hro:b.roundOf=ro):
 ∃e a' w',Q e a' w'/\ArrivesIn (agT P) P (lone (b.atR a (.inRegion ops L::k)) cs w) b k cs e a' w':=by
 obtain⟨e,a',w',⟨rfl,hq⟩,hs⟩:=wp_opsIn (F:=akG ro) (n:=0) L a w (aCU ro L a w h) b k cs hro trivial (λ_ h=>by simp[akG,Fence.wide]at h)
 exact⟨.normal,a',w',hq,hs⟩
theorem aAb{id:Nat}{ops:Array Oper}(h:FP P ops (Q .normal) (List.range ops.size) a w):wpF P f ro (.region id ops false) Q a w:=by
 intro b k cs hb hro
 obtain⟨e,a1,w1,q,r⟩:=aBj h b k cs hro
 exact⟨e,a1,w1,q,.of_steps (J9 stepR_region) r⟩
theorem agE(hm:P.follows .mixedOrders=true){id:Nat}{ops:Array Oper}
 (h:FP P ops (Q .normal) (Region.schedule true ops (w.tape w.drawn (.order f id))) a {w with drawn:=w.drawn+1}):wpF P f ro (.region id ops true) Q a w:=by
 intro b k cs hb hro
 obtain⟨e,a1,w1,q,r⟩:=aBj h b k cs hro
 refine⟨e,a1,w1,q,.of_steps (J9 ?_) r⟩
 have:= @stepR_region_draw P b a k cs w ops id
 rw[hm,hb]at this
 exact this
def EB(v:aOn)(w:aOm)(K:aOm->Prop):Prop:=
 match v with
 | .pointer (some a)=>w.heap[a.block]?=some (.deferred (some []))/\K (w.putObj a.block (.deferred none))
 |_=>K w
def aBv(P:Program)(fn:Func)(R:aOn->aOm->Prop):Exit->Act->aOm->Prop
 | .normal,a,w| .ret,a,w=>∃m,a.defers=asV m/\EB m w λw'=>∃v,(results fn a.tmps).run P w'= .ok v w'/\R v w'
 |_,_,_=>False
theorem atW{fn:Func}{R:aOn->aOm->Prop}{fr:Frame}{cs:List Frame}(hm:fr.mode= .returning)(hf:P.funcs[fr.fn]?=some fn)(hk:fr.kind= .normal){m:aOn}(hd:fr.defers=asV m)
 (h:EB m w λw'=>∃v,(results fn fr.tmps).run P w'= .ok v w'/\R v w'):
 ∃v w' fr',R v w'/\Steps P (lone fr cs w) (lone fr' cs w')/\fr'.fn=fr.fn/\fr'.leaving P w' (.returned v):=by
 have nil:fr.defers=[]->(∃v,(results fn fr.tmps).run P w= .ok v w/\R v w)→
     ∃v w' fr',R v w'/\Steps P (lone fr cs w) (lone fr' cs w')/\fr'.fn=fr.fn/\fr'.leaving P w' (.returned v):=by
  rintro hd ⟨v,hv,hR⟩
  exact⟨v,w,fr,hR,.refl _ _,rfl,hm,hd,hk,fn,hf,hv⟩
 cases m with
 |pointer p=>
  cases p with
  |none=>exact nil hd h
  |some a=>
   obtain⟨h1,v,hv,hR⟩:=h
   have hs:=step_collected (P:=P) (fr:=fr) (cs:=cs) (w:=w) (d:={target:= .collected a.block,args:= #[]}) (r:=a.block) (ds:=[]) (calls:=[])
    (by rw[hm];simp) hd rfl (run_takeDeferred h1)
   exact⟨v,_,{fr with defers:=[]},hR,.head hs (.refl _ _),rfl,hm,rfl,hk,fn,hf,hv⟩
 |_=>exact nil hd h
theorem aoK{fn:Func}{c:Code}{args:Array aOn}{w:aOm}{R:aOn->aOm->Prop}
 (hf:P.funcs[f]?=some fn) (hb:fn.body=some c)
 (h:wpF P f none c (aBv P fn R) {tmps:=args++Array.replicate (fn.ntmps-args.size) undef,defers:=[]} w):Calls P f args w λe w'=>∃v,e= .returned v/\R v w':=by
 intro cs
 let b:Frame:={(default:Frame)with fn:=f,kind:= .normal,roundOf:=none}
 have henter:Frame.enter P f args .normal=b.atR {tmps:=args++Array.replicate (fn.ntmps-args.size) undef,defers:=[]} [.code c]:=by
  simp[Frame.enter,Frame.atR,hf,hb,b]
 obtain⟨e,a',w',hq,har⟩:=h b [] cs rfl rfl
 rw[<-henter]at har
 cases e with
 |normal=>
  obtain⟨m,hd,hq⟩:=hq
  obtain⟨v,w2,fr,hR,hs,hfn,hl⟩:=atW (P:=P) (cs:=cs) (fr:={b.atR a' []with mode:= .returning}) rfl hf rfl hd hq
  exact⟨.returned v,w2,fr,⟨v,rfl,hR⟩,(StepsIn.steps har).trans (.head (stepR_end rfl) hs),hfn,hl⟩
 |ret=>
  obtain⟨m,hd,hq⟩:=hq
  obtain⟨todo,hs0⟩:=har.1 rfl
  obtain⟨v,w2,fr,hR,hs,hfn,hl⟩:=atW (P:=P) (cs:=cs) (fr:={b.atR a' todo with mode:= .returning}) rfl hf rfl hd hq
  exact⟨.returned v,w2,fr,⟨v,rfl,hR⟩,(StepsIn.steps hs0).trans hs,hfn,hl⟩
 |panic chain=>exact hq.elim
 |exit id=>exact hq.elim
 |goto l=>exact hq.elim
 |outgrown=>exact hq.elim
def aHp(P:Program)(f:FuncId)(Q:Exit->Act->aOm->Prop)(a:Act)(w:aOm):Option Code->Prop
 |none=>Q .normal a w
 |some c=>wpF P f none c Q a w
theorem aCS{gf:Operand}{ps:Array Tmp}{aLr bd:Code}{d:Deferred}{g:FuncId}{args:Array aOn}{w1:aOm}{l:Nat}{mark:List Deferred}{w2 w3:aOm}{v:aOn}
 (he:(Instr.enterLoop f a.tmps ps aLr bd none).run P w= .ok (l,mark) w1)
 (hres:(resolve a.eval (rangeCall gf l) 0).run P w1= .ok d w1) (hinv:(invoke d.target d.args).run P w1= .ok (.enter g args) w2)
 (hcall:Ret P g args w2 v w3)
 {jump:Option Code} {w4:aOm} (hend:(Instr.endLoop l).run P w3= .ok jump w4)
 (hj:aHp P f Q {a with defers:=mark++a.defers} w4 jump):
 wpF P f none (.rangeFunc gf ps aLr bd) Q a w:=by
 intro b k cs hb hro
 rw[<-hb,<-hro]at he
 have henter:=stepR_rangeFunc (P:=P) (b:=b) (a:=a) (k:=k) (cs:=cs) (w:=w) he hres hinv
 obtain⟨e,w3',fr,⟨rfl,rfl⟩,hsteps,hfn,hleave⟩:=hcall (b.atR {a with defers:=mark++a.defers} (.inRangeFunc l::k)::cs)
 have sback:StepsIn (agT P) P (lone (b.atR a (.code (.rangeFunc gf ps aLr bd)::k)) cs w) (lone (b.atR {a with defers:=mark++a.defers} ((jump.map Item.code).toList++k)) cs w4):=by
  refine QP henter (StepsIn.trans (stepsIn_wide.2 hsteps) (QP (m1:=lone (b.atR {a with defers:=mark++a.defers} (.endRangeFunc l::k)) cs w3') ?_ (J9 (stepR_endRangeFunc hend))))
  rw[<-finish_atR_inRangeFunc l v];exact step_leave_returned hleave
 cases jump with
 |none=>exact⟨.normal,_,w4,hj,sback⟩
 |some c=>
  obtain⟨e',a'',w5,hq,harr⟩:=hj b k cs hb hro
  exact⟨e',a'',w5,hq,.of_steps sback harr⟩
def azI(P:Program)(l:Nat)(R:aOn->aOm->Prop):Exit->Act->aOm->Prop
 | .normal,_,w=>∃v w',(Instr.endRound l none).run P w= .ok v w'/\R v w'
 | .ret,_,w=>∃v w',(Instr.endRound l (some .ret)).run P w= .ok v w'/\R v w'
 | .exit id,_,w=>∃v w',(Instr.endRound l (some (.exit id))).run P w= .ok v w'/\R v w'
 |_,_,_=>False
theorem aqN{l:Nat}{tmps:Array aOn}{aLr bd:Code}{R:aOn->aOm->Prop}
 (h:wpF P f (some l) aLr (Exit.then (λa1 w1=>∃w2,(Instr.beginRound l).run P w1= .ok () w2/\wpF P f (some l) bd (azI P l R) a1 w2) (λ_ _ _=>False))
   {tmps:=tmps,defers:=[]} w):
 RoundIn Fence.wide 0 P l f tmps aLr bd w λe w'=>∃v,e= .returned v/\R v w':=by
 refine⟨trivial,λc cs _=> ?_⟩
 let b:Frame:={(default:Frame)with fn:=f,kind:= .normal,roundOf:=some l}
 have hb0:Frame.round l f tmps aLr bd .normal=b.atR {tmps:=tmps,defers:=[]} [.code aLr,.beginRound,.code bd]:=by
  simp[Frame.round,Frame.atR,b]
 obtain⟨e,a1,w1,hq,harr⟩:=h b [.beginRound,.code bd] (c::cs) rfl rfl
 rw[<-hb0]at harr
 cases e with
 |normal=>
  obtain⟨w2,hbr,hbody⟩:=hq
  have s1:=J9 (stepR_beginRound (P:=P) (b:=b) (a:=a1) (k:=[.code bd]) (cs:=c::cs) rfl hbr)
  obtain⟨e2,a2,w3,hq2,harr2⟩:=hbody b [] (c::cs) rfl rfl
  cases e2 with
  |normal=>
   obtain⟨v,w4,hend,hR⟩:=hq2
   exact⟨.returned v,w4,⟨v,rfl,hR⟩,(StepsIn.trans harr s1).trans (StepsIn.trans harr2 (J9 (stepR_round_end rfl rfl hend)))⟩
  |ret=>
   obtain⟨v,w4,hend,hR⟩:=hq2
   obtain⟨k1,hs⟩:=harr2.2 rfl
   exact⟨.returned v,w4,⟨v,rfl,hR⟩,(StepsIn.trans harr s1).trans (StepsIn.trans hs (J9 (stepR_round_ret rfl rfl hend)))⟩
  |exit id=>
   obtain⟨v,w4,hend,hR⟩:=hq2
   obtain⟨k1,hk,hs⟩:=harr2.2 rfl rfl
   exact⟨.returned v,w4,⟨v,rfl,hR⟩,(StepsIn.trans harr s1).trans (StepsIn.trans hs (J9 (stepR_round_exit rfl rfl hk hend)))⟩
  |goto t=>exact hq2.elim
  |panic chain=>exact hq2.elim
  |outgrown=>exact hq2.elim
 |exit id=>exact hq.elim
 |goto t=>exact hq.elim
 |ret=>exact hq.elim
 |panic chain=>exact hq.elim
 |outgrown=>exact hq.elim
end
def aoF(ops:Array Oper):Nat->Array Bool->List Nat->Prop
 |0,_,L=>L=[]
 |_+1,listed,[]=>Region.ready .any ops listed=[]
 |n+1,listed,i::L=>i∈Region.ready .any ops listed/\aoF ops n (listed.setIfInBounds i true) L
section
variable{P:Program}{ops:Array Oper}{Q:Act->aOm->Prop}
theorem aGm:∀(fuel t:Nat) (listed:Array Bool),aoF ops fuel listed (Region.linearise.go .any ops fuel t listed []):=by
 intro fuel
 induction fuel with
 |zero=>intro t listed;simp[Region.linearise.go,aoF]
 |succ fuel ih=>
  intro t listed
  simp only[Region.linearise.go]
  change aoF ops (fuel+1) listed (match(Region.ready .any ops listed)[t%(Region.ready .any ops listed).length]? with
   |some i=>Region.linearise.go .any ops fuel (t/(Region.ready .any ops listed).length) (listed.setIfInBounds i true) [i]
   |none=>[].reverse)
  cases hi:(Region.ready .any ops listed)[t%(Region.ready .any ops listed).length]? with
  |none=>
   have:Region.ready .any ops listed=[]:=by
    cases hr:Region.ready .any ops listed with
    |nil=>rfl
    |cons x xs=>
     rw[hr]at hi
     have hlt:t%(x::xs).length<(x::xs).length:=aNM _ (by simp)
     rw[aLt hlt]at hi
     cases hi
   simpa[aoF]using this
  |some i=>
   simp only[]
   rw[linearise_go_acc]
   exact⟨aMm hi,ih _ _⟩
theorem ZW:∀(fuel:Nat) (listed:Array Bool) (L:List Nat) (a:Act) (w:aOm),akH P ops Q fuel listed a w->aoF ops fuel listed L->FP P ops Q L a w:=by
 intro fuel
 induction fuel with
 |zero=>intro listed L a w h hL;obtain rfl:L=[]:=hL;exact h.2
 |succ fuel ih=>
  intro listed L a w h hL
  cases L with
  |nil=>exact h.1 hL
  |cons i L=>
   exact aAc (λa w hh=>ih _ _ a w hh hL.2) (h.2 i hL.1)
end
structure Perm(π:List Nat)(ops:Array Oper):Prop where
 len:π.length=ops.size
 to:∀i,i<ops.size->yR π i<ops.size/\π[yR π i]?=some i
 back:∀k,k<ops.size->∃i,π[k]?=some i/\yR π i=k/\i<ops.size
 after:∀(i:Nat) (o:Oper),ops[i]?=some o->∀e∈o.after,e.on<ops.size
 guard:∀(i:Nat) (o:Oper) (j:Nat) (b:Bool),ops[i]?=some o->o.guard=some (j,b)->j<ops.size
theorem aGE{π:List Nat}{ops:Array Oper}(h:ayT π ops=true):Perm π ops:=by
 unfold ayT at h
 simp only[aLQ]at h
 obtain⟨⟨⟨h1,h2⟩,h3⟩,h4⟩:=h
 have h1:=aMj h1
 have at4:∀(i:Nat) (o:Oper),ops[i]?=some o->(o.after.all λe=>Nat.blt e.on ops.size)=true/\(match o.guard with|some (j,_)=>Nat.blt j ops.size|none=>true)=true:=by
  intro i o ho
  have hi:i<ops.size:=by
   rcases aLL i ops.size with h|h
   .exact h
   .rw [aMH h]at ho;cases ho
  have:=aMn.1 h4 i (aMs.2 hi)
  rw[ho]at this
  simp only[aLQ]at this
  refine⟨this.1, ?_⟩
  have h:=this.2
  revert h
  cases o.guard<;>exact id
 refine⟨h1,λi hi=> ?_,λk hk=> ?_,λi o ho e he=> ?_,λi o j b ho hg=> ?_⟩
 .have:=aMn.1 h3 i (aMs.2 hi)
  cases hp:π[yR π i]? with
  |none=>rw[hp]at this;cases this
  |some j=>
   rw[hp]at this
   obtain rfl:=aMj this
   refine⟨?_,rfl⟩
   rcases aLL (yR π j) π.length with h|h
   .omega
   .rw [aLH h]at hp;cases hp
 .have:=aMn.1 h2 k (aMs.2 hk)
  cases hp:π[k]? with
  |none=>rw[hp]at this;cases this
  |some i=>
   rw[hp]at this
   simp only[aLQ]at this
   exact⟨i,rfl,aMj this.1,(aNL (x:=i) (y:=ops.size))▸this.2⟩
 .have:=aM2.1 (at4 i o ho).1 e he
  exact(aNL (x:=e.on) (y:=ops.size))▸this
 .have:=(at4 i o ho).2
  rw[hg]at this
  exact(aNL (x:=j) (y:=ops.size))▸this
theorem anK{π:List Nat}{es:List (Nat×Nat)}{l:List Oper}:∀(r:List Nat),(∀i∈r,i<l.length)->(Zn π es l r).length=r.length/\∀k i:Nat,r[k]?=some i->(Zn π es l r)[k]?=(l[i]?).map (MQ π es i):=by
 intro r
 induction r with
 |nil=>intro _;exact⟨rfl,λk i h=>by simp at h⟩
 |cons j r ih=>
  intro h
  obtain⟨h1,h2⟩:=ih λi hi=>h i (aLN _ hi)
  have hj:j<l.length:=h j (by simp)
  simp only[Zn,aLt hj]
  refine⟨by simp[h1],λk i hk=> ?_⟩
  cases k with
  |zero=>simp at hk;subst hk;simp[aLt hj]
  |succ k=>simp at hk⊢;exact h2 k i hk
section
variable{P:Program}{ops:Array Oper}{Q:Act->aOm->Prop}{π:List Nat}{es:List (Nat×Nat)}
theorem Perm.mem (p:Perm π ops):∀i∈π,i<ops.toList.length:=by
 intro i hi
 obtain⟨k,hk,e⟩:=aLY hi
 obtain⟨j,h1,_,h2⟩:=p.back k (by rw[<-p.len];exact hk)
 rw[aLt hk]at h1
 cases h1
 rw[<-e];simpa using h2
theorem Perm.size (p:Perm π ops):(oR π es ops).size=ops.size:=by
 unfold oR
 rw[List.size_toArray,(anK (es:=es) (π:=π) π p.mem).1,p.len]
theorem Perm.get (p:Perm π ops){i:Nat}(hi:i<ops.size):(oR π es ops)[yR π i]?=(ops[i]?).map (MQ π es i):=by
 unfold oR
 have:=(anK (es:=es) (π:=π) π p.mem).2 (yR π i) i (p.to i hi).2
 rw[aNS]at this
 simpa using this
theorem ayU{i:Nat}{o:Oper}{a:Act}{w:aOm}{K:Act->aOm->Prop}:azL P (MQ π es i o) a w K↔azL P o a w K:=by
 unfold azL
 have h1:execOp a.eval (MQ π es i o)=execOp a.eval o:=by
  obtain⟨d,op,ty,ps,af,g⟩:=o
  cases op<;>rfl
 have h2:amV (MQ π es i o)=amV o:=rfl
 rw[h1,h2]
 generalize(execOp a.eval o).run P w=r
 cases r with
 |ok n w=>cases n<;>exact Iff.rfl
 |halt x w=>exact Iff.rfl
theorem auU(p:Perm π ops){i:Nat}{o:Oper}(ho:ops[i]?=some o)(tmps:Array aOn):
 Region.wanted (MQ π es i o) (yielded (oR π es ops) tmps)=Region.wanted o (yielded ops tmps):=by
 unfold Region.wanted MQ
 simp only
 cases hg:o.guard with
 |none=>rfl
 |some q=>
  obtain⟨j,b⟩:=q
  simp only
  have hj:=p.guard i o j b ho hg
  have:(oR π es ops)[yR π j]?.bind (·.dst)=(ops[j]?).bind (·.dst):=by
   rw[p.get hj]
   cases ops[j]?<;>rfl
  unfold yielded
  rw[this]
theorem aAd(p:Perm π ops):∀(L:List Nat),(∀i∈L,i<ops.size)->∀(a:Act) (w:aOm),FP P (oR π es ops) Q (L.map (yR π)) a w->FP P ops Q L a w:=by
 intro L
 induction L with
 |nil=>intro _ a w h;exact h
 |cons i L ih=>
  intro hL a w h
  rw[aL7]at h
  simp only[FP]at h⊢
  have hi:=hL i (by simp)
  have ih:=ih λi hi=>hL i (aLN _ hi)
  unfold Ut at h⊢
  rw[p.get hi]at h
  rw[aL4 hi]at h⊢
  simp only[aL6]at h
  rw[auU p (aL4 hi)]at h
  simp only
  split
  .rename_i hw
   rw[if_pos hw,ayU]at h
   exact anP (λa w=>ih a w) h
  .rename_i hw
   rw[if_neg hw]at h
   exact ih _ _ h
theorem UL{ops:Array Oper}{listed:Array Bool}(hsz:listed.size=ops.size)(i:Nat):
 i∈Region.ready .any ops listed↔(i<ops.size/\listed.getD i false=false/\∀o,ops[i]?=some o->∀e∈o.after,Region.binds .any e=true->listed.getD e.on false=true):=by
 unfold Region.ready
 rw[aN0,aMs]
 constructor
 .rintro ⟨h1,h2⟩
  rw[aL4 h1]at h2
  simp only[aLQ,aL6,aNw]at h2
  refine⟨h1, ?_,λo ho e he hb=> ?_⟩
  .have:=h2.1
   rw[aLM]at this⊢
   rw[aL4 (by omega)]at this⊢
   simpa using this
  .rw [aL4 h1]at ho
   cases ho
   have:=aM2.1 h2.2 e he
   simpa[hb]using this
 .rintro ⟨h1,h2,h3⟩
  refine⟨h1, ?_⟩
  rw[aL4 h1]
  simp only[aLQ,aL6,aNw]
  refine⟨?_,aM2.2 λe he=> ?_⟩
  .rw [aLM]at h2⊢
   rw[aL4 (by omega)]at h2⊢
   simpa using h2
  .by_cases hb:Region.binds .any e=true
   .simp [hb,h3 _ (aL4 h1) e he hb]
   .simp [hb]
theorem aED{π:List Nat}{i:Nat}:∀{es:List (Nat×Nat)} {e:Edge},e∈IQ π i es->∃a,(a,i)∈es/\e.on=yR π a:=by
 intro es
 induction es with
 |nil=>intro e h;simp[IQ]at h
 |cons q r ih=>
  obtain⟨a,b⟩:=q
  intro e h
  simp only[IQ]at h
  cases hb:Nat.beq b i with
  |true=>
   rw[hb]at h
   obtain rfl:=aMj hb
   rcases aMd.1 h with rfl|h
   .exact ⟨a,by simp,rfl⟩
   .obtain ⟨a,h1,h2⟩:=ih h;exact⟨a,aLN _ h1,h2⟩
  |false=>rw[hb]at h;obtain⟨a,h1,h2⟩:=ih h;exact⟨a,aLN _ h1,h2⟩
theorem aB6 (p:Perm π ops){L0:List Nat}(hes:∀q∈es,L0.idxOf q.1<=L0.idxOf q.2/\q.1≠q.2/\q.1<ops.size):
 ∀(fuel:Nat) (listed listed':Array Bool) (pre L:List Nat),L0=pre++L->listed.size=ops.size->listed'.size=ops.size→
  (∀j,j<ops.size->listed'.getD (yR π j) false=listed.getD j false)->(∀j∈pre,listed.getD j false=true)->(∀j,listed.getD j false=true->j∈pre)→
  aoF ops fuel listed L->aoF (oR π es ops) fuel listed' (L.map (yR π))/\∀i∈L,i<ops.size:=by
 intro fuel
 induction fuel with
 |zero=>intro listed listed' pre L _ _ _ _ _ _ h;obtain rfl:L=[]:=h;exact⟨rfl,by simp⟩
 |succ fuel ih=>
  intro listed listed' pre L hL0 hs hs' hrel hpre hpre' h
  have hsz:(oR π es ops).size=ops.size:=p.size
  cases L with
  |nil=>
   refine⟨?_,by simp⟩
   show Region.ready .any (oR π es ops) listed'=[]
   rw[List.eq_nil_iff_forall_not_mem]
   intro k hk
   obtain⟨h1,h2,h3⟩:=(UL (by omega) k).1 hk
   obtain⟨i,hi1,hi2,hi3⟩:=p.back k (by omega)
   have:i∈Region.ready .any ops listed:=by
    refine(UL hs i).2 ⟨hi3, ?_,λo ho e he hb=> ?_⟩
    .rw [<-hrel i hi3,hi2];exact h2
    .have g:=p.get (es:=es) hi3
     rw[hi2,ho]at g
     have hon:=p.after i o ho e he
     have:=h3 _ g ⟨yR π e.on,e.ground⟩ (by
      simp only[MQ,List.mem_toArray,aMq,aL5]
      exact .inl ⟨e,by simpa using he,rfl⟩) (by unfold Region.binds at hb⊢;exact hb)
     rw[<-hrel e.on hon];exact this
   rw[show Region.ready .any ops listed=[]from h]at this
   cases this
  |cons i L=>
   obtain⟨h1,h2⟩:=h
   obtain⟨r1,r2,r3⟩:=(UL hs i).1 h1
   have hnot:i∉pre:=λhm=>by rw[hpre i hm]at r2;cases r2
   have hidx:L0.idxOf i=pre.length:=by
    rw[hL0,List.idxOf_append,if_neg hnot];simp
   have ready':yR π i∈Region.ready .any (oR π es ops) listed':=by
    refine(UL (by omega) _).2 ⟨by rw[hsz];exact(p.to i r1).1,by rw[hrel i r1];exact r2,λo' ho' e' he' hb=> ?_⟩
    rw[p.get r1,aL4 r1]at ho'
    simp only[aL6,aNR]at ho'
    subst ho'
    simp only[MQ,List.mem_toArray,aMq,aL5]at he'
    rcases he' with⟨e,he,rfl⟩|he'
    .have ho:=aL4 r1
     have he2:e∈ops[i].after:=by simpa using he
     rw[hrel e.on (p.after i _ ho e he2)]
     exact r3 _ ho e he2 (by unfold Region.binds at hb⊢;exact hb)
    .obtain ⟨a,ha,hon⟩:=aED he'
     obtain⟨q1,q2,q3⟩:=hes _ ha
     simp only at q1 q2 q3
     rw[hon,hrel a q3]
     refine hpre a ?_
     rw[hidx]at q1
     rw[hL0,List.idxOf_append]at q1
     by_cases hm:a∈pre
     .exact hm
     .rw [if_neg hm]at q1
      exfalso
      have hz:(i::L).idxOf a=0:=by omega
      rw[List.idxOf_cons]at hz
      cases hb:(i==a)with
      |true=>exact q2 (by simpa using(beq_iff_eq.1 hb).symm)
      |false=>rw[hb]at hz;simp at hz
   have hlen':listed'.size=ops.size:=hs'
   obtain⟨k1,k2⟩:=ih (listed.setIfInBounds i true) (listed'.setIfInBounds (yR π i) true) (pre++[i]) L (by rw[hL0];simp) (by simp[hs]) (by simp[hs'])
    (λj hj=>by
     by_cases hji:j=i
     .subst hji
      rw[aLM,aLM,aMi (by rw[hs'];exact(p.to j hj).1),aMi (by omega)]
     .have hne:yR π i≠yR π j:=λe=>by
       have a1:=(p.to i r1).2
       have a2:=(p.to j hj).2
       rw[e]at a1
       rw[a1]at a2
       exact hji (aLW a2).symm
      have:=hrel j hj
      rw[aLM,aLM]at this⊢
      rw[aMv hne,aMv (λe=>hji e.symm)]
      exact this)
    (λj hj=>by
     rw[aLM]
     rcases aMq.1 hj with hj|hj
     .by_cases hji:j=i
      .subst hji;rw[aMi (by omega)]<;>rfl
      .rw [aMv (λe=>hji e.symm),<-aLM];exact hpre j hj
     .have:j=i:=by simpa using hj
      subst this
      rw[aMi (by omega)]<;>rfl)
    (λj hj=>by
     by_cases hji:j=i
     .subst hji;simp
     .rw [aLM,aMv (λe=>hji e.symm),<-aLM]at hj
      exact aNs _ (hpre' j hj))
    h2
   exact⟨⟨ready',k1⟩,λj hj=>(aMd.1 hj).elim (λe=>e▸r1) (k2 j)⟩
end
section
variable{P:Program}{ops:Array Oper}
theorem adM{N:Nat}{an:Ann}{pl:arU}(hok:ahQ ops an=true)(hpl:ajI ops.size an pl=true)(hd:WQ N ops)(hca:XY P ops)
 {K:Env->aOm->Prop} {Q:Act->aOm->Prop} (hQ:∀g a w,R9 N g a->K g w->Q a w) {g:Env} {a:Act} {w:aOm} (hr:R9 N g a)
 (h:rN P ops ops.toList pl [] g w K):akH P ops Q ops.size (Array.replicate ops.size false) a w:=by
 have r0:Run P ops an g w 0 (λ_=>default) (λ_=>g) (λ_=>w) (λ_=>undef):=
  ⟨rfl,rfl,λi hi=>by omega,λi hi=>by omega,λi hi=>by omega,λi hi=>by omega,λi j _ hj=>by omega⟩
 obtain⟨O,G,W,V,r,hk⟩:=avI hpl ops.toList 0 [] _ _ _ _ (λj=>by simp) (by simp) r0 (λi hi=>by omega) h
 simp only[aLI,aNu]at r hk
 have st:=aCH hok r.op
 have:=aDS (Q:=Q) (n:=ops.size) rfl hd hca r st (λa hra=>hQ _ a _ hra hk) ops.size (Array.replicate ops.size false) g a 0 (by simp) hr (by omega)
  (λj hj hl=>by unfold jV at hl;simp[aLM,hj]at hl)
  (λs=> .inr ⟨λj hj hl=>by unfold jV at hl;simp[aLM,hj]at hl,rfl⟩)
  (λh hh _=>⟨λhl=>by unfold jV at hl;simp[aLM,hh]at hl,λhl=>by omega⟩)
  (aMu (List.length_filter_le _ _) (by simp))
 rw[r.w0]at this
 exact this
theorem Z8 {N:Nat}{ops:Array Oper}(h:ops.all (aAC N)=true):WQ N ops:=by
 intro i o ho t ht
 have:=aM2.1 h o (aOe ho)
 unfold aAC at this
 rw[ht]at this
 exact(aNL (x:=t) (y:=N))▸this
theorem agV{ops:Array Oper}(h:ops.all (CP P)=true):XY P ops:=
 λ_ o ho=>aM2.1 h o (aOe ho)
theorem azU{N:Nat}{f:FuncId}{id:Nat}(hd:WQ N ops)(hca:XY P ops)
 {K:Env->aOm->Prop} {Q:Act->aOm->Prop} (hQ:∀g a w,R9 N g a->K g w->Q a w) {g:Env} {a:Act} {w0 w:aOm} (hr:R9 N g a):
 ∀(T:HT) (path:List (Nat×Nat)),XJ P N ops path T=true→
  (∀q∈path,(Region.schedule true ops (w0.tape w0.drawn (.order f id))).idxOf q.1<=(Region.schedule true ops (w0.tape w0.drawn (.order f id))).idxOf q.2/\q.1≠q.2)→
  asU P f id ops T g w0 w K->FP P ops Q (Region.schedule true ops (w0.tape w0.drawn (.order f id))) a w:=by
 have lin:aoF ops ops.size (Array.replicate ops.size false) (Region.schedule true ops (w0.tape w0.drawn (.order f id))):=by
  unfold Region.schedule
  simp only[Bool.true_or,if_true]
  exact aGm _ _ _
 generalize hL:Region.schedule true ops (w0.tape w0.drawn (.order f id))=L at lin⊢
 intro T
 induction T with
 |leaf an pl=>
  intro path hok _ h
  simp only[XJ,aLQ]at hok
  exact ZW _ _ _ _ _ (adM hok.1 hok.2 hd hca hQ hr h) lin
 |perm π es an pl=>
  intro path hok hpath h
  simp only[XJ,aLQ]at hok
  obtain⟨⟨⟨⟨⟨h1,h2⟩,h3⟩,h4⟩,h5⟩,h6⟩:=hok
  have p:=aGE h2
  have hes:∀q∈es,L.idxOf q.1<=L.idxOf q.2/\q.1≠q.2/\q.1<ops.size:=λq hq=>by
   have:=aMn.1 h1 q hq
   simp only[aLQ]at this
   have hp:=hpath q (aEk this.1)
   exact⟨hp.1,hp.2,(aNL (x:=q.1) (y:=ops.size))▸this.2⟩
  obtain⟨k1,k2⟩:=aB6 (es:=es) p hes ops.size (Array.replicate ops.size false) (Array.replicate ops.size false) [] L rfl (by simp) (by simp)
   (λj hj=>by simp[aLM,hj,(p.to j hj).1]) (by simp)
   (λj hj=>by rw[aLM]at hj;by_cases hh:j<ops.size<;>simp[hh]at hj) lin
  have hw:=adM h5 h6 (Z8 h3) (agV h4) hQ hr h
  rw[p.size]at hw
  exact aAd (es:=es) p L k2 a w (ZW _ _ _ _ _ hw k1)
 |split x y A B ihA ihB=>
  intro path hok hpath h
  simp only[XJ,aLQ]at hok
  have hne:x≠y:=by
   intro e
   have:=hok.1.1
   rw[e]at this
   simp at this
  simp only[asU]at h
  unfold Ord aqE at h
  rw[hL]at h
  cases hb:Nat.ble (L.idxOf x) (L.idxOf y)with
  |true=>
   rw[hb]at h
   refine ihA _ hok.1.2 (λq hq=> ?_) h
   rcases aMd.1 hq with rfl|hq
   .exact ⟨aNq hb,hne⟩
   .exact hpath q hq
  |false=>
   rw[hb]at h
   refine ihB _ hok.2 (λq hq=> ?_) h
   rcases aMd.1 hq with rfl|hq
   .refine ⟨?_,hne.symm⟩
    simp only
    rcases aLL (L.idxOf y) (L.idxOf x)with hh|hh
    .omega
    .have:=Nat.ble_eq_true_of_le hh;rw[this]at hb;cases hb
   .exact hpath q hq
end
section
variable{P:Program}{ann:FA}
def mM:List Oper->List Nat
 |[]=>[]
 |o::r=>match o.dst with|some d=>d::mM r|none=>mM r
def U4:Code->List Nat
 | .region _ ops _=>mM ops.toList
 | .seq x y=>U4 x++U4 y
 | .cond _ x y=>U4 x++U4 y
 | .block _ c=>U4 c
 | .scope c=>U4 c
 | .loop c=>U4 c
 | .rangeFunc .. =>[DS]
 |_=>[]
def jR(l:List Nat)(g g':Env):Prop:=∀s,s∉l->g' s=g s
theorem jR.refl (l:List Nat)(g:Env):jR l g g:=λ_ _=>rfl
theorem jR.trans {l l1 l2:List Nat}{a b c:Env}(h:jR l1 a b)(k:jR l2 b c)(h1:∀s,s∈l1->s∈l)(h2:∀s,s∈l2->s∈l):jR l a c:=
 λs hs=>(k s λh=>hs (h2 s h)).trans (h s λh=>hs (h1 s h))
theorem jR.mono {l l1:List Nat}{a b:Env}(h:jR l1 a b)(h1:∀s,s∈l1->s∈l):jR l a b:=λs hs=>h s λhh=>hs (h1 s hh)
theorem jR.put {l:List Nat}{a:Env}(d:Option Tmp)(v:aOn)(h:∀t,d=some t->t∈l):jR l a (put a d v):=by
 intro s hs
 cases d with
 |none=>rfl
 |some t=>
  rw[OA,if_neg (λe=>hs (by rw[e];exact h t rfl))]
theorem axL{ops:Array Oper}{K:Env->aOm->Prop}:∀(l:List Oper) (g:Env) (w:aOm),ahP P ops l g w K→
 ∃g' w',K g' w'/\jR (mM l) g g'/\∀K':Env->aOm->Prop,K' g' w'->ahP P ops l g w K':=by
 intro l
 induction l with
 |nil=>intro g w h;exact⟨g,w,h,jR.refl _ _,λ_ h=>h⟩
 |cons o l ih=>
  intro g w h
  obtain⟨v,w1,hy,h1⟩:=PX h
  obtain⟨g',w',hk,ha,hall⟩:=ih _ _ h1
  refine⟨g',w',hk, ?_,λK' hk'=>hy _ (hall K' hk')⟩
  refine jR.trans (jR.put o.dst v (l:=mM (o::l)) λt ht=>by simp[mM,ht]) ha (λ_ h=>h) (λs hs=> ?_)
  unfold mM
  split
  .exact aLN _ hs
  .exact hs
theorem adL{ops:Array Oper}{K:Env->aOm->Prop}:∀(l:List Oper) (pl:arU) (hist:List Rec) (g:Env) (w:aOm),rN P ops l pl hist g w K→
 ∃g' w',K g' w'/\jR (mM l) g g'/\∀K':Env->aOm->Prop,K' g' w'->rN P ops l pl hist g w K':=by
 intro l
 induction l with
 |nil=>intro pl hist g w h;unfold rN at h;exact⟨g,w,h,jR.refl _ _,λ_ h=>(by unfold rN;exact h)⟩
 |cons o l ih=>
  intro pl hist g w h
  cases pl with
  |nil=>exact h.elim
  |cons p pl=>
   obtain⟨hv,ks⟩:=p
   obtain⟨v,w1,hy,h1⟩:=PX h
   have tail:∀(w2:aOm) (hist':List Rec),rN P ops l pl hist' (put g o.dst v) w2 K→
       ∃g' w',K g' w'/\jR (mM (o::l)) g g'/\∀K':Env->aOm->Prop,K' g' w'->rN P ops l pl hist' (put g o.dst v) w2 K':=by
    intro w2 hist' c2
    obtain⟨g',w',hk,ha,hall⟩:=ih _ _ _ _ c2
    refine⟨g',w',hk, ?_,hall⟩
    refine jR.trans (jR.put o.dst v (l:=mM (o::l)) λt ht=>by simp[mM,ht]) ha (λ_ h=>h) (λs hs=> ?_)
    unfold mM
    split
    .exact aLN _ hs
    .exact hs
   cases hv with
   |true=>
    cases ks with
    |nil=>
     obtain⟨g',w',hk,ha,hall⟩:=tail w1 _ h1
     exact⟨g',w',hk,ha,λK' hk'=>hy _ (hall K' hk')⟩
    |cons k ks=>
     obtain⟨hc,h1⟩:=h1
     obtain⟨g',w',hk,ha,hall⟩:=tail w1 _ h1
     exact⟨g',w',hk,ha,λK' hk'=>hy _ ⟨hc,hall K' hk'⟩⟩
   |false=>
    cases ks with
    |nil=>
     obtain⟨rfl,h1⟩:=h1
     obtain⟨g',w',hk,ha,hall⟩:=tail w1 _ h1
     exact⟨g',w',hk,ha,λK' hk'=>hy _ ⟨rfl,hall K' hk'⟩⟩
    |cons k ks=>
     obtain⟨rfl,hc,h1⟩:=h1
     obtain⟨g',w',hk,ha,hall⟩:=tail w1 _ h1
     exact⟨g',w',hk,ha,λK' hk'=>hy _ ⟨rfl,hc,hall K' hk'⟩⟩
theorem Lq{l:List Oper}{s:Nat}:s∈mM l↔∃o∈l,o.dst=some s:=by
 induction l with
 |nil=>simp[mM]
 |cons o l ih=>
  unfold mM
  cases hd:o.dst with
  |none=>simp[ih,hd]
  |some d=>simp[ih,hd,eq_comm]
theorem axO{π:List Nat}{es:List (Nat×Nat)}{l:List Oper}{s:Nat}:∀(r:List Nat),s∈mM (Zn π es l r)->s∈mM l:=by
 intro r
 induction r with
 |nil=>intro h;simp[Zn,mM]at h
 |cons i r ih=>
  intro h
  simp only[Zn]at h
  cases ho:l[i]? with
  |none=>rw[ho]at h;exact ih h
  |some o=>
   rw[ho]at h
   obtain⟨o',h1,h2⟩:=Lq.1 h
   rcases aMd.1 h1 with rfl|h1
   .exact Lq.2 ⟨o,aMm ho,h2⟩
   .exact ih (Lq.2 ⟨o',h1,h2⟩)
theorem aDO{f:FuncId}{id:Nat}{ops:Array Oper}{K:Env->aOm->Prop}{g:Env}{w0:aOm}:∀(T:HT) (w:aOm),asU P f id ops T g w0 w K→
 ∃g' w',K g' w'/\jR (mM ops.toList) g g'/\∀K':Env->aOm->Prop,K' g' w'->asU P f id ops T g w0 w K':=by
 intro T
 induction T with
 |leaf an pl=>intro w h;exact adL _ _ _ _ _ h
 |perm π es an pl=>
  intro w h
  obtain⟨g',w',a,b,c⟩:=adL _ _ _ _ _ h
  exact⟨g',w',a,b.mono (λs hs=>axO π (by simpa[oR]using hs)),c⟩
 |split x y A B ihA ihB=>
  intro w h
  simp only[asU,Ord]at h⊢
  cases hb:aqE f id ops x y w0 with
  |true=>rw[hb]at h;exact ihA w h
  |false=>rw[hb]at h;exact ihB w h
theorem aX.head {α:Type}{F:(α->aOm->Prop)->α->aOm->Prop}(hmono:∀X Y g w,(∀g w,X g w->Y g w)->F X g w->F Y g w)
 {g:α} {w:aOm} (h:F (λg' w'=>aX F g' w') g w) (hdet:∃g' w',aX F g' w'/\∀X:α->aOm->Prop,X g' w'->F X g w):aX F g w:=by
 obtain⟨g1,w1,⟨I,⟨n1,h1⟩,hI⟩,hF⟩:=hdet
 refine⟨λn g' w'=>I n g' w'∨(n=n1+1/\g'=g/\w'=w),⟨n1+1,.inr ⟨rfl,rfl,rfl⟩⟩, ?_⟩
 rintro n g' w' (h|⟨rfl,rfl,rfl⟩)
 .exact hmono _ _ _ _ (λ_ _ ⟨m,hm,hh⟩=>⟨m,hm,.inl hh⟩) (hI _ _ _ h)
 .exact hF _ ⟨n1,by omega,.inl h1⟩
theorem aHJ{f:FuncId}{gf:Operand}{ps:Array Tmp}{aLr bd:Code}{Q:Exit->Env->aOm->Prop}{g:Env}{w:aOm}(h:RF P f gf ps aLr bd Q g w):
 ∃e g' w',Q e g' w'/\jR [DS] g g'/\∀Q':Exit->Env->aOm->Prop,Q' e g' w'->RF P f gf ps aLr bd Q' g w:=by
 unfold RF at h⊢
 cases hn:noMark (g DS)with
 |false=>rw[hn]at h;exact h.elim
 |true=>
  rw[hn]at h
  simp only at h⊢
  generalize(BL (ev g gf) [KO (w.heap.size+1)]).run P (rfW f (abZ P f) ps aLr bd g w)=r at*
  match r,h with
  | .ok (.enter f2 args) w1,h=>
    obtain⟨v,w3,hret,r,h1,h2,h3⟩:=h
    have ha:jR [DS] g (put g (some DS) (.pointer (some ⟨w.heap.size,0,none⟩))):=jR.put _ _ (λt ht=>by cases ht;simp)
    cases hp:r.pending with
    |none=>
     rw[hp]at h3
     exact⟨.normal,_,_,h3,ha,λQ' h=>⟨v,w3,hret,r,h1,h2,by rw[hp];exact h⟩⟩
    |some c=>
     rw[hp]at h3
     cases c<;>first
      |exact h3.elim
      |exact⟨.ret,_,_,h3,ha,λQ' h=>⟨v,w3,hret,r,h1,h2,by rw[hp];exact h⟩⟩
      |exact⟨.exit _,_,_,h3,ha,λQ' h=>⟨v,w3,hret,r,h1,h2,by rw[hp];exact h⟩⟩
theorem agJ:∀(c:Code) (Q:Exit->Env->aOm->Prop) (g:Env) (w:aOm),cP P ann c Q g w→
 ∃e g' w',Q e g' w'/\jR (U4 c) g g'/\∀Q':Exit->Env->aOm->Prop,Q' e g' w'->cP P ann c Q' g w:=by
 intro c
 induction c with
 |skip=>intro Q g w h;exact⟨_,_,_,h,jR.refl _ _,λ_ h=>h⟩
 |region id ops draw=>
  intro Q g w h
  cases draw with
  |false=>
   obtain⟨g',w',a,b,c⟩:=axL _ _ _ h
   exact⟨.normal,g',w',a,b,λQ' h=>c _ h⟩
  |true=>
   obtain⟨g',w',a,b,c⟩:=aDO _ _ h
   exact⟨.normal,g',w',a,b,λQ' h=>c _ h⟩
 |seq x y ihx ihy=>
  intro Q g w h
  obtain⟨e,g1,w1,a,b,c⟩:=ihx _ _ _ h
  cases e with
  |normal=>
   obtain⟨e2,g2,w2,a2,b2,c2⟩:=ihy _ _ _ a
   exact⟨e2,g2,w2,a2,b.trans b2 (λs h=>aNs _ h) (λs h=>aNT _ h),λQ' h=>c _ (c2 _ h)⟩
  |_=>exact⟨_,g1,w1,a,b.mono (λs h=>aNs _ h),λQ' h=>c _ h⟩
 |cond c x y ihx ihy=>
  intro Q g w h
  simp only[cP]at h⊢
  unfold bQ at h⊢
  cases hc:ev g c with
  |bool b=>
   rw[hc]at h
   cases b with
   |true=>
    obtain⟨e,g',w',a,b,c⟩:=ihx _ _ _ h
    exact⟨e,g',w',a,b.mono (λs h=>aNs _ h),c⟩
   |false=>
    obtain⟨e,g',w',a,b,c⟩:=ihy _ _ _ h
    exact⟨e,g',w',a,b.mono (λs h=>aNT _ h),c⟩
  |_=>rw[hc]at h;exact h.elim
 |block id c ih=>
  intro Q g w h
  obtain⟨e,g',w',a,b,c⟩:=ih _ _ _ h
  cases e with
  |exit i=>
   simp only[blk]at a
   cases hb:Nat.beq i id with
   |true=>
    simp only[hb]at a
    refine⟨.normal,g',w',a,b,λQ' h=>c _ ?_⟩
    simp only[blk,hb];exact h
   |false=>
    simp only[hb]at a
    refine⟨.exit i,g',w',a,b,λQ' h=>c _ ?_⟩
    simp only[blk,hb];exact h
  |_=>exact⟨_,g',w',a,b,λQ' h=>c _ h⟩
 |loop c ih=>
  intro Q g w h
  have hmono:∀(Q:Exit->Env->aOm->Prop) (X Y:Env->aOm->Prop) g w,(∀g w,X g w->Y g w)->cP P ann c (Cp X Q) g w->cP P ann c (Cp Y Q) g w:=by
   intro Q X Y g w hxy h
   obtain⟨e,g',w',a,_,k⟩:=ih _ _ _ h
   refine k _ ?_
   cases e with
   |normal=>exact hxy _ _ a
   |_=>exact a
  obtain⟨I,⟨n,h0⟩,hI⟩:=h
  have key:∀n g w,I n g w->∃e g' w',Q e g' w'/\jR (U4 c) g g'/\∀Q':Exit->Env->aOm->Prop,Q' e g' w'->aX (λX g w=>cP P ann c (Cp X Q') g w) g w:=by
   intro n
   induction n using Nat.strongRecOn with
   |_ n ih2=>
    intro g w hg
    obtain⟨e,g1,w1,a,b,k⟩:=ih _ _ _ (hI n g w hg)
    have once:∀(Q':Exit->Env->aOm->Prop),(∀X:Env->aOm->Prop,cP P ann c (Cp X Q') g w)->aX (λX g w=>cP P ann c (Cp X Q') g w) g w:=by
     intro Q' h
     refine⟨λn g' w'=>g'=g/\w'=w,⟨0,rfl,rfl⟩, ?_⟩
     rintro _ g' w' ⟨rfl,rfl⟩
     exact h _
    cases e with
    |normal=>
     obtain⟨m,hm,hIm⟩:=a
     obtain⟨e2,g2,w2,a2,b2,k2⟩:=ih2 m hm g1 w1 hIm
     refine⟨e2,g2,w2,a2,b.trans b2 (λ_ h=>h) (λ_ h=>h),λQ' h=> ?_⟩
     have hl:=k2 Q' h
     exact aX.head (hmono Q') (k _ hl) ⟨g1,w1,hl,λX hx=>k _ hx⟩
    |_=>exact⟨_,g1,w1,a,b,λQ' h=>once Q' λX=>k _ h⟩
  exact key n g w h0
 |exit id=>intro Q g w h;exact⟨_,_,_,h,jR.refl _ _,λ_ h=>h⟩
 |label l=>intro Q g w h;exact⟨_,_,_,h,jR.refl _ _,λ_ h=>h⟩
 |scope c ih=>intro Q g w h;exact ih Q g w h
 |ret=>intro Q g w h;exact⟨_,_,_,h,jR.refl _ _,λ_ h=>h⟩
 |rangeFunc gf ps aLr bd=>intro Q g w h;exact aHJ h
 |_=>intro Q g w h;exact h.elim
theorem Gy{c:Code}{Q Q':Exit->Env->aOm->Prop}{g:Env}{w:aOm}(h:cP P ann c Q g w)
 (hq:∀e g' w',jR (U4 c) g g'->Q e g' w'->Q' e g' w'):cP P ann c Q' g w:=
 let⟨_,_,_,a,b,k⟩:=agJ c Q g w h
 k _ (hq _ _ _ b a)
def noG(Q:Exit->Env->aOm->Prop):Exit->Env->aOm->Prop
 | .goto _,_,_=>False
 |e,g,w=>Q e g w
theorem axM:∀(c:Code) (Q:Exit->Env->aOm->Prop) (g:Env) (w:aOm),cP P ann c Q g w->cP P ann c (noG Q) g w:=by
 intro c
 induction c with
 |skip=>intro Q g w h;exact h
 |region id ops draw=>intro Q g w h;cases draw<;>exact h
 |seq x y ihx ihy=>
  intro Q g w h
  show cP P ann x (Cp (λg w=>cP P ann y (noG Q) g w) (noG Q)) g w
  refine Gy (ihx _ _ _ h) (λe g' w' _ hq=> ?_)
  cases e with
  |normal=>exact ihy _ _ _ hq
  |goto l=>exact hq.elim
  |_=>exact hq
 |cond c x y ihx ihy=>
  intro Q g w h
  simp only[cP]at h⊢
  unfold bQ at h⊢
  cases hc:ev g c with
  |bool b=>
   rw[hc]at h
   cases b with
   |true=>exact ihx _ _ _ h
   |false=>exact ihy _ _ _ h
  |_=>rw[hc]at h;exact h.elim
 |block id c ih=>
  intro Q g w h
  show cP P ann c (blk id (noG Q)) g w
  refine Gy (ih _ _ _ h) (λe g' w' _ hq=> ?_)
  cases e with
  |exit i=>
   simp only[noG,blk]at hq⊢
   cases hb:Nat.beq i id with
   |true=>rw[hb]at hq;exact hq
   |false=>rw[hb]at hq;exact hq
  |goto l=>exact hq.elim
  |_=>exact hq
 |loop c ih=>
  intro Q g w h
  obtain⟨I,h0,hI⟩:=h
  refine⟨I,h0,λn g w hi=> ?_⟩
  refine Gy (ih _ _ _ (hI n g w hi)) (λe g' w' _ hq=> ?_)
  cases e with
  |normal=>exact hq
  |goto l=>exact hq.elim
  |_=>exact hq
 |exit id=>intro Q g w h;exact h
 |label l=>intro Q g w h;exact h
 |scope c ih=>intro Q g w h;exact ih Q g w h
 |ret=>intro Q g w h;exact h
 |rangeFunc gf ps aLr bd=>
  intro Q g w h
  have h:RF P ann.f gf ps aLr bd Q g w:=h
  show RF P ann.f gf ps aLr bd (noG Q) g w
  unfold RF at h⊢
  cases hn:noMark (g DS)with
  |false=>rw[hn]at h;exact h.elim
  |true=>
   rw[hn]at h
   simp only at h⊢
   generalize(BL (ev g gf) [KO (w.heap.size+1)]).run P (rfW ann.f (abZ P ann.f) ps aLr bd g w)=r at*
   match r,h with
   | .ok (.enter f2 args) w1,h=>
     obtain⟨v,w3,hret,r,h1,h2,h3⟩:=h
     refine⟨v,w3,hret,r,h1,h2, ?_⟩
     cases hp:r.pending with
     |none=>rw[hp]at h3;exact h3
     |some c=>rw[hp]at h3;cases c<;>exact h3
 |_=>intro Q g w h;exact h.elim
theorem akD{N:Nat}{g:Env}{a:Act}(h:R9 N g a):a.tmps=tmpsOf N g:=by
 refine Array.ext (by simp[tmpsOf,h.size]) λi h1 h2=> ?_
 have hi:i<N:=by rw[<-h.size];exact h1
 have:=h.at_ i (Nat.ne_of_lt (aNr hi h.le))
 rw[aLM,aL4 h1]at this
 simp[tmpsOf]at this⊢
 exact this
theorem aDR{v:aOn}(h:noMark v=true):asV v=[]:=by cases v<;>first|rfl|cases h
theorem aaT{N:Nat}(hm:P.follows .mixedOrders=true){ro:Option Nat}(hN:abZ P ann.f=N):∀(c:Code),codeOk P N ann c=true->ro=none∨sR c=true→
 ∀(Q:Exit->Env->aOm->Prop) (QA:Exit->Act->aOm->Prop) (g:Env) (a:Act) (w:aOm),R9 N g a→
  (∀e g a w,R9 N g a->Q e g w->QA e a w)->cP P ann c Q g w->wpF P ann.f ro c QA a w:=by
 intro c
 induction c with
 |skip=>intro _ _ Q QA g a w hr hq h;exact aFq (hq _ _ _ _ hr h)
 |region id ops draw=>
  intro hok _ Q QA g a w hr hq h
  simp only[codeOk,aLQ,aM8,aNi]at hok
  have hd:=Z8 hok.1.1
  have hca:=agV hok.1.2
  cases draw with
  |false=>
   refine aAb ?_
   have:=aCc hd hca (P:=P) (Q:=QA .normal) (K:=Q .normal) (λg a w=>hq .normal g a w) ops.toList 0 g a w (λj=>by simp) hr h
   rw[List.range_eq_range']
   simpa using this
  |true=>
   rcases hok.2 with h1|h1
   .cases h1
   .exact agE hm (azU hd hca (λg a w=>hq .normal g a w) hr _ [] h1 (by simp) h)
 |seq x y ihx ihy=>
  intro hok hfl Q QA g a w hr hq h
  simp only[codeOk,aLQ]at hok
  have hfx:ro=none∨sR x=true:=hfl.imp id λh=>by simp only[sR,aLQ]at h;exact h.1
  have hfy:ro=none∨sR y=true:=hfl.imp id λh=>by simp only[sR,aLQ]at h;exact h.2
  refine aG2 (ihx hok.1 hfx _ _ g a w hr (λe g a w hr h=> ?_) h)
  cases e with
  |normal=>exact ihy hok.2 hfy _ _ g a w hr hq h
  |_=>exact hq _ _ _ _ hr h
 |cond c x y ihx ihy=>
  intro hok hfl Q QA g a w hr hq h
  simp only[codeOk,aLQ]at hok
  have hfx:ro=none∨sR x=true:=hfl.imp id λh=>by simp only[sR,aLQ]at h;exact h.1
  have hfy:ro=none∨sR y=true:=hfl.imp id λh=>by simp only[sR,aLQ]at h;exact h.2
  simp only[cP]at h
  unfold bQ at h
  have he:=hr.ev c hok.1
  cases hc:ev g c with
  |bool b=>
   rw[hc]at h he
   refine aFo he ?_
   cases b with
   |true=>exact ihx hok.2.1 hfx _ _ g a w hr hq h
   |false=>exact ihy hok.2.2 hfy _ _ g a w hr hq h
  |_=>rw[hc]at h;exact h.elim
 |block id c ih=>
  intro hok hfl Q QA g a w hr hq h
  refine aCQ (ih hok hfl _ _ g a w hr (λe g a w hr h=> ?_) h)
  cases e with
  |exit i=>
   unfold Exit.inBlock
   simp only[blk]at h
   by_cases hi:i=id
   .subst hi
    simp only[if_true]
    simp only[Nat.beq_refl]at h
    exact hq _ _ _ _ hr h
   .simp only[hi,if_false]
    have:Nat.beq i id=false:=by
     cases hb:Nat.beq i id
     .rfl
     .exact absurd (aMj hb) hi
    simp only[this]at h
    exact hq _ _ _ _ hr h
  |_=>exact hq _ _ _ _ hr h
 |loop c ih=>
  intro hok hfl Q QA g a w hr hq h
  obtain⟨I,h0,hround⟩:=h
  have hex:∀a w,(∃n g,R9 N g a/\I n g w)->∃n,(∃g,R9 N g a/\I n g w)/\∀m,(∃g,R9 N g a/\I m g w)->n<=m:=by
   rintro a w ⟨n,hn⟩
   induction n using Nat.strongRecOn with
   |_ n ih2=>
    by_cases hx:∃m,m<n/\∃g,R9 N g a/\I m g w
    .obtain ⟨m,hm,h⟩:=hx;exact ih2 m hm h
    .exact ⟨n,hn,λm hm=>Nat.le_of_not_lt λhlt=>hx ⟨m,hlt,hm⟩⟩
  have hdec:∀a w,Decidable (∃n g,R9 N g a/\I n g w):=λa w=>Classical.propDecidable _
  let μ:Act->aOm->Nat:=λa w=>if hh:∃n g,R9 N g a/\I n g w then Classical.choose (hex a w hh)else 0
  have hμ:∀a w n g,R9 N g a->I n g w->μ a w<=n/\∃g,R9 N g a/\I (μ a w) g w:=by
   intro a w n g hr hI
   have hh:∃n g,R9 N g a/\I n g w:=⟨n,g,hr,hI⟩
   have e:μ a w=Classical.choose (hex a w hh):=dif_pos hh
   have s:=Classical.choose_spec (hex a w hh)
   rw[e]
   exact⟨s.2 n ⟨g,hr,hI⟩,s.1⟩
  obtain⟨n0,h0⟩:=h0
  refine aFp (λa w=>∃n g,R9 N g a/\I n g w) μ ⟨n0,g,hr,h0⟩ ?_
  rintro a w ⟨n,g,hr,hI⟩
  obtain⟨_,g',hr',hI'⟩:=hμ a w n g hr hI
  refine ih hok hfl _ _ g' a w hr' (λe g1 a1 w1 hr1 h=> ?_) (hround _ _ _ hI')
  cases e with
  |normal=>
   obtain⟨m,hm,hIm⟩:=h
   have:=hμ a1 w1 m g1 hr1 hIm
   exact⟨⟨m,g1,hr1,hIm⟩,by omega⟩
  |_=>exact hq _ _ _ _ hr1 h
 |label l=>intro _ _ Q QA g a w hr hq h;exact aCR (hq _ _ _ _ hr h)
 |scope c ih=>
  intro hok hfl Q QA g a w hr hq h
  refine aCT (ih hok hfl (noG Q) _ g a w hr (λe g a w hr h=> ?_) (axM c _ g w h))
  cases e with
  |goto l=>exact h.elim
  |_=>exact hq _ _ _ _ hr h
 |exit id=>intro _ _ Q QA g a w hr hq h;exact awK (hq _ _ _ _ hr h)
 |ret=>intro _ _ Q QA g a w hr hq h;exact aBk (hq _ _ _ _ hr h)
 |rangeFunc gf ps aLr bd=>
  intro hok hfl Q QA g a w hr hq h
  have hro:ro=none:=hfl.resolve_right (by simp[sR])
  subst hro
  have hok:anJ gf=true:=hok
  have h:RF P ann.f gf ps aLr bd Q g w:=h
  unfold RF at h
  cases hn:noMark (g DS)with
  |false=>rw[hn]at h;exact h.elim
  |true=>
   rw[hn]at h
   simp only[hN]at h
   have ed:a.defers=[]:=by rw[hr.defers,aDR hn]
   have er:=run_enterLoop_outer (P:=P) (w:=w) ann.f a.tmps ps aLr bd
   rw[akD hr]at er
   have er:(Instr.enterLoop ann.f a.tmps ps aLr bd none).run P w= .ok (w.heap.size+1,[{target:= .collected w.heap.size,args:= #[]}]) (rfW ann.f N ps aLr bd g w):=by rw[akD hr];exact er
   generalize rfW ann.f N ps aLr bd g w=w1 at*
   have ee:=hr.ev gf hok
   unfold BL at h
   have hres:resolve a.eval (rangeCall gf (w.heap.size+1)) 0=Deferred.ofValue (ev g gf) #[KO (w.heap.size+1)]:=by
    have:resolve a.eval (rangeCall gf (w.heap.size+1)) 0=Deferred.ofValue (a.eval gf) #[KO (w.heap.size+1)]:=by
     simp only[resolve,List.map_toArray,aL7,aN3];rfl
    rw[this,ee]
   rw[show([KO (w.heap.size+1)]:List aOn).toArray= #[KO (w.heap.size+1)]from rfl,<-hres,Sem.run_bind]at h
   cases hv:(resolve a.eval (rangeCall gf (w.heap.size+1)) 0).run P w1 with
   |halt x wx=>rw[hv]at h;exact h.elim
   |ok d wx=>
    have hwx:wx=w1:=by
     rw[hres]at hv
     unfold Deferred.ofValue at hv
     split at hv<;>first|(simp only[Sem.run_pure]at hv;cases hv;rfl)|(simp[stuck]at hv)
    subst hwx
    rw[hv]at h
    simp only[Result.andThen]at h
    cases hi:(invoke d.target d.args).run P wx with
    |halt x w2=>rw[hi]at h;exact h.elim
    |ok nx w2=>
     rw[hi]at h
     cases nx<;>try(exact h.elim)
     obtain⟨v,w3,hret,r,h1,h2,h3⟩:=h
     have hrel:∀w,R9 N (put g (some DS) (.pointer (some ⟨w,0,none⟩))) {a with defers:=[{target:= .collected w,args:= #[]}]++a.defers}:=λw=>by
      refine⟨hr.le, ?_,hr.size,λi hi=> ?_⟩
      .rw [OA,if_pos rfl,ed]<;>rfl
      .rw [OA,if_neg hi];exact hr.at_ i hi
     have key:∀(j:Option Code) (w5:aOm),aHY Q (put g (some DS) (.pointer (some ⟨w.heap.size,0,none⟩))) j w5→
         aHp P ann.f QA {a with defers:=[{target:= .collected w.heap.size,args:= #[]}]++a.defers} w5 j:=by
      intro j w5 h
      cases j with
      |none=>exact hq _ _ _ _ (hrel _) h
      |some c=>
       cases c<;>first
        |exact h.elim
        |exact aBk (hq _ _ _ _ (hrel _) h)
        |exact awK (hq _ _ _ _ (hrel _) h)
     exact aCS er hv hi hret (run_endLoop h1 h2) (key _ _ h3)
 |_=>intro hok;simp[codeOk]at hok
def qK(P:Program):List ResultVar->Env->aOm->(List aOn->Prop)->Prop
 |[],_,_,K=>K []
 | .tmp t::r,g,w,K=>qK P r g w λvs=>K (g t::vs)
 | .cell a t::r,g,w,K=>∃v,(do loadVar t (<-asAddr (g a)):Sem aOn).run P w= .ok v w/\qK P r g w λvs=>K (v::vs)
def tup:List aOn->aOn
 |[v]=>v
 |vs=> .tuple vs.toArray
def aJV(P:Program)(rs:List ResultVar)(R:aOn->aOm->Prop):Exit->Env->aOm->Prop
 | .normal,g,w=>qK P rs g w λvs=>R (tup vs) w
 | .ret,g,w=>qK P rs g w λvs=>R (tup vs) w
 |_,_,_=>False
theorem avE{N:Nat}{g:Env}{a:Act}{w:aOm}(hr:R9 N g a):∀(rs:List ResultVar),rs.all anN=true->∀(K:List aOn->Prop),qK P rs g w K→
 ∃vs,K vs/\(rs.mapM λ| .tmp t=>pure (a.tmps.getD t undef)| .cell b t=>do loadVar t (<-asAddr (a.tmps.getD b undef)):Sem (List aOn)).run P w= .ok vs w:=by
 have ne:∀t:Nat,Nat.blt t DS=true->a.tmps.getD t undef=g t:=λt h=>hr.at_ t (Nat.ne_of_lt ((aNL (x:=t) (y:=DS))▸h))
 intro rs
 induction rs with
 |nil=>intro _ K h;exact⟨[],h,by simp⟩
 |cons r rs ih=>
  intro hok K h
  simp only[List.all_cons,aLQ]at hok
  cases r with
  |tmp t=>
   obtain⟨vs,h1,h2⟩:=ih hok.2 _ h
   refine⟨_,h1, ?_⟩
   rw[List.mapM_cons]
   rw[pure_bind,Sem.run_bind]
   simp only[h2,Result.andThen,Sem.run_pure,ne t hok.1]
  |cell b t=>
   obtain⟨v,hv,h⟩:=h
   obtain⟨vs,h1,h2⟩:=ih hok.2 _ h
   refine⟨_,h1, ?_⟩
   rw[List.mapM_cons]
   rw[<-ne b hok.1]at hv
   rw[Sem.run_bind]
   simp only[hv,Result.andThen]
   rw[Sem.run_bind]
   simp only[h2,Result.andThen]
   rfl
theorem aIP(vs:Array aOn):(if h:vs.size=1 then vs[0]else Value.tuple vs)=tup vs.toList:=by
 obtain⟨l⟩:=vs
 match l with
 |[]=>rfl
 |[v]=>rfl
 |a::b::r=>simp[tup]
theorem avJ{N:Nat}{g:Env}{a:Act}{w:aOm}(fn:Func){rs:List ResultVar}(hok:rs.all anN=true)(hrs:fn.results=rs.toArray)(hr:R9 N g a){R:aOn->aOm->Prop}
 (h:qK P rs g w λvs=>R (tup vs) w):∃v,(results fn a.tmps).run P w= .ok v w/\R v w:=by
 obtain⟨vs,h1,h2⟩:=avE hr rs hok _ h
 refine⟨tup vs, ?_,h1⟩
 unfold results
 rw[hrs,Array.mapM_eq_mapM_toList,aMX]
 simp only[bind_assoc,map_eq_pure_bind]
 rw[Sem.run_bind]
 refine Eq.trans (congrArg (λr=>Result.andThen r _) h2) ?_
 simp only[Result.andThen]
 simp only[pure_bind,Sem.run_pure,aIP]
def adN(args:List aOn):Env:=λi=>args.getD i undef
def aIE(P:Program)(rs:List ResultVar)(R:aOn->aOm->Prop):Exit->Env->aOm->Prop
 | .normal,g,w=>EB (g DS) w λw=>qK P rs g w λvs=>R (tup vs) w
 | .ret,g,w=>EB (g DS) w λw=>qK P rs g w λvs=>R (tup vs) w
 |_,_,_=>False
theorem avD{g:Env}{w:aOm}:∀(rs:List ResultVar) (K:List aOn->Prop),qK P rs g w K->∃vs,K vs/\∀K':List aOn->Prop,K' vs->qK P rs g w K':=by
 intro rs
 induction rs with
 |nil=>intro K h;exact⟨_,h,λ_ h=>h⟩
 |cons r rs ih=>
  intro K h
  cases r with
  |tmp t=>
   obtain⟨vs,a,b⟩:=ih _ h
   exact⟨_,a,λK' h=>b _ h⟩
  |cell b t=>
   obtain⟨v,hv,h⟩:=h
   obtain⟨vs,a,b⟩:=ih _ h
   exact⟨_,a,λK' h=>⟨v,hv,b _ h⟩⟩
theorem anS{v:aOn}{w:aOm}{K:aOm->Prop}(h:EB v w K):∃w',K w'/\∀K':aOm->Prop,K' w'->EB v w K':=by
 cases v with
 |pointer p=>
  cases p with
  |none=>exact⟨_,h,λ_ h=>h⟩
  |some a=>exact⟨_,h.2,λ_ h'=>⟨h.1,h'⟩⟩
 |_=>exact⟨_,h,λ_ h=>h⟩
theorem azQ{v:aOn}{w:aOm}{K K':aOm->Prop}(h:EB v w K)(hk:∀w,K w->K' w):EB v w K':=
 let⟨w',a,b⟩:=anS h;b _ (hk w' a)
theorem asZ{args:List aOn}{N i:Nat}(hle:args.length<=N)(hi:N<=i):adN args i=undef:=by
 unfold adN
 rw[aLz,aLH (by omega)]<;>rfl
theorem Yo{f:FuncId}{fn:Func}{c:Code}{args:List aOn}{w:aOm}{rs:List ResultVar}{R:aOn->aOm->Prop}(hm:P.follows .mixedOrders=true)(hAf:ann.f=f)
 (hf:P.funcs[f]?=some fn) (hb:fn.body=some c) (hrs:fn.results=rs.toArray) {N:Nat} (hN:fn.ntmps=N) (hle:args.length<=N)
 (hok:codeOk P N ann c=true) (hro:rs.all anN=true) (hND:Nat.ble N DS=true) (h:cP P ann c (aIE P rs R) (adN args) w):aK P f args.toArray w R:=by
 obtain⟨e,g',w',hq,_,hall⟩:=agJ _ _ _ _ h
 have hND:=aNq hND
 have hNt:abZ P ann.f=N:=by unfold abZ;rw[hAf,hf];exact hN
 have hrv:EB (g' DS) w' λw=>qK P rs g' w λvs=>R (tup vs) w:=by cases e<;>first|exact hq|exact hq.elim
 obtain⟨w2,hrv2,hsh⟩:=anS hrv
 obtain⟨vs,hv,hrest⟩:=avD _ _ hrv2
 refine⟨tup vs,w2, ?_,hv⟩
 have hrel:R9 N (adN args) {tmps:=args.toArray++Array.replicate (fn.ntmps-args.toArray.size) undef,defers:=[]}:=by
  refine⟨hND,by rw[asZ hle hND]<;>rfl,by simp[hN];omega,λi _=> ?_⟩
  simp only[adN,aLM,aLz]
  by_cases hi:i<args.length
  .simp [Array.getElem?_append,hi]
  .simp only[Array.getElem?_append,List.size_toArray,hi,if_false,Array.getElem?_replicate]
   rw[aLH (by omega)]
   split<;>rfl
 have key:=aoK (P:=P) (f:=f) hf hb (R:=λv3 w3=>v3=tup vs/\w3=w2) (args:=args.toArray) (w:=w)
  (hAf▸aaT hm hNt c hok (.inl rfl) (aIE P rs λv3 w3=>v3=tup vs/\w3=w2) _ _ _ _ hrel (λe g a w hr h=> ?_) (hall _ ?_))
 .refine Calls.mono key ?_
  rintro e w3 ⟨v,rfl,rfl,rfl⟩
  exact⟨rfl,rfl⟩
 .have hx:∀{w},(EB (g DS) w λw=>qK P rs g w λvs'=>tup vs'=tup vs/\w=w2)->∃m,a.defers=asV m/\EB m w λw'=>∃v,(results fn a.tmps).run P w'= .ok v w'/\(v=tup vs/\w'=w2):=by
   intro w h
   exact⟨_,hr.defers,azQ h λw h=>avJ fn hro hrs hr (R:=λv3 w3=>v3=tup vs/\w3=w2) h⟩
  cases e with
  |normal=>exact hx h
  |ret=>exact hx h
  |_=>exact h.elim
 .have:=hsh (λw=>qK P rs g' w λvs'=>tup vs'=tup vs/\w=w2) (hrest _ ⟨rfl,rfl⟩)
  cases e<;>first|exact this|exact hq.elim
theorem aGb{N:Nat}:∀(c:Code),codeOk P N ann c=true->sR c=true->∀s∈U4 c,s<N:=by
 intro c
 induction c with
 |region id ops draw=>
  intro hok _ s hs
  simp only[codeOk,aLQ]at hok
  obtain⟨o,h1,h2⟩:=Lq.1 hs
  obtain⟨i,hi,rfl⟩:=aLY h1
  exact Z8 hok.1.1 i _ (by simp at hi⊢) s h2
 |seq x y ihx ihy=>
  intro hok hfl s hs
  simp only[codeOk,sR,aLQ]at hok hfl
  rcases aMq.1 hs with hs|hs
  .exact ihx hok.1 hfl.1 s hs
  .exact ihy hok.2 hfl.2 s hs
 |cond c x y ihx ihy=>
  intro hok hfl s hs
  simp only[codeOk,sR,aLQ]at hok hfl
  rcases aMq.1 hs with hs|hs
  .exact ihx hok.2.1 hfl.1 s hs
  .exact ihy hok.2.2 hfl.2 s hs
 |block id c ih=>intro hok hfl s hs;exact ih hok hfl s hs
 |loop c ih=>intro hok hfl s hs;exact ih hok hfl s hs
 |scope c ih=>intro hok hfl s hs;exact ih hok hfl s hs
 |rangeFunc=>intro _ hfl;simp[sR]at hfl
 |_=>intro _ _ s hs;simp[U4]at hs
theorem asW{f:FuncId}{fn:Func}{c:Code}{args:List aOn}{w:aOm}{rs:List ResultVar}{R:aOn->aOm->Prop}(hm:P.follows .mixedOrders=true)(hAf:ann.f=f)
 (hf:P.funcs[f]?=some fn) (hb:fn.body=some c) (hrs:fn.results=rs.toArray) {N:Nat} (hN:fn.ntmps=N) (hle:args.length<=N)
 (hok:codeOk P N ann c=true) (hro:rs.all anN=true) (hND:Nat.ble N DS=true) (hfl:sR c=true) (h:cP P ann c (aJV P rs R) (adN args) w):aK P f args.toArray w R:=by
 refine Yo hm hAf hf hb hrs hN hle hok hro hND (Gy h λe g' w' ha hq=> ?_)
 have hND:=aNq hND
 have:g' DS=undef:=by
  rw[ha DS (λhd=>absurd (aGb c hok hfl DS hd) (Nat.not_lt.2 hND)),asZ hle hND]
 cases e with
 |normal=>show EB (g' DS) w' (λw=>qK P rs g' w λvs=>R (tup vs) w);rw[this];exact hq
 |ret=>show EB (g' DS) w' (λw=>qK P rs g' w λvs=>R (tup vs) w);rw[this];exact hq
 |_=>exact hq.elim
def RE(tmps:Array aOn):Env:=λi=>tmps.getD i undef
def aqM(l:Nat)(R:aOn->aOm->Prop):Exit->Env->aOm->Prop
 | .normal,_,w=>∃r:Loop,w.heap[l]?=some (.loop r)/\R (.bool true) (w.putObj l (.loop {r with state:= .ready,pending:=none}))
 | .ret,_,w=>∃r:Loop,w.heap[l]?=some (.loop r)/\R (.bool false) (w.putObj l (.loop {r with state:= .done,pending:=some .ret}))
 | .exit i,_,w=>∃r:Loop,w.heap[l]?=some (.loop r)/\R (.bool false) (w.putObj l (.loop {r with state:= .done,pending:=some (.exit i)}))
 |_,_,_=>False
def asQ(P:Program)(ann:FA)(l:Nat)(bd:Code)(R:aOn->aOm->Prop):Exit->Env->aOm->Prop
 | .normal,g,w=>∃r:Loop,w.heap[l]?=some (.loop r)/\r.state= .ready/\cP P ann bd (aqM l R) g (w.putObj l (.loop {r with state:= .busy}))
 |_,_,_=>False
theorem aoW{f:FuncId}{l:Nat}{tmps:Array aOn}{aLr bd:Code}{w:aOm}{R:aOn->aOm->Prop}(hm:P.follows .mixedOrders=true)(hAf:ann.f=f){N:Nat}(hN:abZ P f=N)(hND:Nat.ble N DS=true)
 (hsz:tmps.size=N) (hok1:codeOk P N ann aLr=true) (hf1:sR aLr=true) (hok2:codeOk P N ann bd=true) (hf2:sR bd=true)
 (h:cP P ann aLr (asQ P ann l bd R) (RE tmps) w):amA P l f tmps aLr bd w R:=by
 subst hAf
 have hND:=aNq hND
 obtain⟨e,g1,w1,hq,ha,hall⟩:=agJ _ _ _ _ h
 cases e with
 |normal=>
  obtain⟨r,h1,h2,hd⟩:=hq
  obtain⟨e2,g2,w2,hq2,ha2,hall2⟩:=agJ _ _ _ _ hd
  have hx:∃v w4,R v w4/\∀R':aOn->aOm->Prop,R' v w4->aqM l R' e2 g2 w2:=by
   cases e2 with
   |normal=>obtain⟨r2,k1,k2⟩:=hq2;exact⟨_,_,k2,λR' h=>⟨r2,k1,h⟩⟩
   |ret=>obtain⟨r2,k1,k2⟩:=hq2;exact⟨_,_,k2,λR' h=>⟨r2,k1,h⟩⟩
   |exit i=>obtain⟨r2,k1,k2⟩:=hq2;exact⟨_,_,k2,λR' h=>⟨r2,k1,h⟩⟩
   |_=>exact hq2.elim
  obtain⟨v,w4,hR,hrest⟩:=hx
  refine⟨v,w4, ?_,hR⟩
  have hrel:R9 N (RE tmps) {tmps:=tmps,defers:=[]}:=by
   refine⟨hND, ?_,hsz,λi _=>rfl⟩
   have:RE tmps DS=undef:=by unfold RE;rw[aLM,aMH (by omega)]<;>rfl
   rw[this]<;>rfl
  have key:RoundIn Fence.wide 0 P l ann.f tmps aLr bd w λe w'=>∃v',e= .returned v'/\(v'=v/\w'=w4):=by
   refine aqN (aaT hm hN aLr hok1 (.inr hf1) (λe g w=>e= .normal/\g=g1/\w=w1) _ _ _ _ hrel ?_ (hall _ ⟨rfl,rfl,rfl⟩))
   rintro e g a w hra ⟨rfl,rfl,rfl⟩
   refine⟨_,run_beginRound h1 h2,aaT hm hN bd hok2 (.inr hf2) (aqM l λv' w'=>v'=v/\w'=w4) _ _ _ _ hra ?_ (hall2 _ (hrest _ ⟨rfl,rfl⟩))⟩
   intro e g a w _ h
   cases e with
   |normal=>obtain⟨r,k1,k2⟩:=h;exact⟨_,_,run_endRound none k1,k2⟩
   |ret=>obtain⟨r,k1,k2⟩:=h;exact⟨_,_,run_endRound (some .ret) k1,k2⟩
   |exit i=>obtain⟨r,k1,k2⟩:=h;exact⟨_,_,run_endRound (some (.exit i)) k1,k2⟩
   |_=>exact h.elim
  refine RoundIn.mono key ?_
  rintro e w' ⟨v',rfl,rfl,rfl⟩
  exact⟨rfl,rfl⟩
 |_=>exact hq.elim
theorem akY{f:FuncId}{args:Array aOn}{w:aOm}{R:aOn->aOm->Prop}(h:aK P f args w R):
 Calls P f args w λe w'=>∃v,e= .returned v/\R v w':=by
 obtain⟨v,w',hr,hR⟩:=h
 refine Calls.mono hr ?_
 rintro e w'' ⟨rfl,rfl⟩
 exact⟨v,rfl,hR⟩
end
def sA:Code->Code| .seq a _=>a|c=>c
def cT:Code->Code| .cond _ a _=>a|c=>c
def cE:Code->Code| .cond _ _ b=>b|c=>c
def bI:Code->Code| .block _ c=>c| .loop c=>c| .scope c=>c|c=>c
def aY(f:Func):Code:=match f.body with|some c=>c|none=> .skip
def aQ:Nat->Code->Code
 |0,c=>c
 |1,c=>sA c
 |n+1,.seq a b=> .seq a (aQ n b)
 |_,c=>c
def aI:Nat->Code->Code
 |0,c=>c
 |n+1,.seq _ b=>aI n b
 |_,c=>c
def axV:Nat->Code->Bool
 |1,.seq _ _=>true
 |n+1,.seq _ b=>axV n b
 |_,_=>false
def dr(w:aOm):aOm:={w with drawn:=w.drawn+1}
def vV(P:Program)(t:TypeId)(a:aOn)(w:aOm)(K:aOn->Prop):Prop:=∃v,(do loadVar t (<-asAddr a):Sem aOn).run P w= .ok v w/\K v
def exL:List (Nat×(Env->aOm->Prop))->Nat->Env->aOm->Prop
 |[],_,_,_=>False
 |(j,k)::r,i,g,w=>match Nat.beq i j with|true=>k g w|false=>exL r i g w
def exQ(kn kr:Env->aOm->Prop)(l:List (Nat×(Env->aOm->Prop))):Exit->Env->aOm->Prop
 | .normal,g,w=>kn g w
 | .ret,g,w=>kr g w
 | .exit i,g,w=>exL l i g w
 |_,_,_=>False
def arQ(Q:Exit->Env->aOm->Prop):List (Nat×(Env->aOm->Prop))->Prop
 |[]=>True
 |(i,k)::r=>(∀g w,k g w->Q (.exit i) g w)/\arQ Q r
def cD(c a b:aOn):Sem Next:=do pure (.value (if<-asBool c then a else b))
def bG(t:TypeId):Sem Next:=V (Instr.alloc t true (.tuple #[]))
def Ba(t:TypeId)(x:aOn):Sem Next:=V (Instr.box t x)
def aH(t:TypeId)(a:aOn):Sem Next:=V (Instr.loadAt t a)
def aM(t:TypeId)(a x:aOn):Sem Next:=U (Instr.storeAt t a x)
def dS(x:aOn):Sem Next:=execOp (λ_=>x) ⟨none,.nilCheck (.tmp 0),0,default,#[],none⟩
def sUn(op:UnOp)(x:aOn):Sem Next:=V (Op.unary op x)
def cH(s d:TypeId)(x:aOn):Sem Next:=V (convert s d x)
def aGN(t:TypeId)(x:aOn):Sem Next:=V (Instr.arrayAt t x)
def XH(t:TypeId)(x:aOn):Sem Next:=V (Instr.makeInterface t x)
def acQ(t:TypeId)(r:Option aOn):Sem Next:=V (Instr.makeMap t r)
def iX(t:TypeId)(l c:aOn):Sem Next:=V (Instr.makeSlice t l c)
def bP(t:TypeId)(x:aOn)(lo hi mx:Option aOn):Sem Next:=V (Instr.sliceAt t x lo hi mx)
def aJ(t:TypeId)(x:aOn)(f:Nat):Sem Next:=V (Instr.fieldAt t x f)
def aO(t:TypeId)(x i:aOn):Sem Next:=V (Instr.indexAt t x i)
def IJ(t:TypeId)(x i:aOn):Sem Next:=V (Instr.index t x i)
def avL(t:TypeId)(x i:aOn)(ok:Bool):Sem Next:=V (Instr.lookup t x i ok)
def ajS(t:TypeId)(m k x:aOn):Sem Next:=U (Instr.mapUpdate t m k x)
def aV(t:aOn)(i:Nat):Sem Next:=V (Instr.extract t i)
section
variable{P:Program}{ann:FA}
theorem aHZ{Q:Exit->Env->aOm->Prop}:∀{l:List (Nat×(Env->aOm->Prop))},arQ Q l->∀{i:Nat} {g:Env} {w:aOm},exL l i g w->Q (.exit i) g w:=by
 intro l
 induction l with
 |nil=>intro _ i g w h;exact h.elim
 |cons p r ih=>
  obtain⟨j,k⟩:=p
  rintro⟨h1,h2⟩ i g w h
  simp only[exL]at h
  cases hb:Nat.beq i j with
  |true=>
   simp only[hb]at h
   obtain rfl:=aMj hb
   exact h1 _ _ h
  |false=>simp only[hb]at h;exact ih h2 h
theorem aF7 {c:Code}{kn kr:Env->aOm->Prop}{l:List (Nat×(Env->aOm->Prop))}{Q:Exit->Env->aOm->Prop}{g:Env}{w:aOm}{A:Prop}
 (e:A=cP P ann c (exQ kn kr l) g w) (h:A) (hn:∀g w,kn g w->Q .normal g w) (hr:∀g w,kr g w->Q .ret g w) (hl:arQ Q l):cP P ann c Q g w:=by
 rw[e]at h
 refine Gy h (λe g' w' _ hq=> ?_)
 cases e with
 |normal=>exact hn _ _ hq
 |ret=>exact hr _ _ hq
 |exit i=>exact aHZ hl hq
 |_=>exact hq.elim
theorem aBG{x y z:Code}{Q:Exit->Env->aOm->Prop}{g:Env}{w:aOm}(h:cP P ann (.seq (.seq x y) z) Q g w):cP P ann (.seq x (.seq y z)) Q g w:=by
 show cP P ann x (Cp (λg w=>cP P ann y (Cp (λg w=>cP P ann z Q g w) Q) g w) Q) g w
 have h:cP P ann x (Cp (λg w=>cP P ann y (Cp (λg w=>cP P ann z Q g w) Q) g w) (Cp (λg w=>cP P ann z Q g w) Q)) g w:=h
 refine Gy h (λe g' w' _ hq=> ?_)
 cases e<;>exact hq
theorem aE{K:Env->aOm->Prop}{Q:Exit->Env->aOm->Prop}{g:Env}{w:aOm}(h:K g w):Cp K Q .normal g w:=h
theorem aBI{Q:Exit->Env->aOm->Prop}:∀(n:Nat) (c:Code) (g:Env) (w:aOm),axV n c=true->cP P ann (.seq (aQ n c) (aI n c)) Q g w->cP P ann c Q g w:=by
 intro n
 induction n with
 |zero=>intro c g w h;simp[axV]at h
 |succ n ih=>
  intro c g w h hd
  cases c with
  |seq a b=>
   cases n with
   |zero=>exact hd
   |succ n=>
    have hb:axV (n+1) b=true:=by simpa[axV]using h
    have hd':cP P ann (.seq (.seq a (aQ (n+1) b)) (aI (n+1) b)) Q g w:=hd
    have:=aBG hd'
    show cP P ann a (Cp (λg w=>cP P ann b Q g w) Q) g w
    have h2:cP P ann a (Cp (λg w=>cP P ann (.seq (aQ (n+1) b) (aI (n+1) b)) Q g w) Q) g w:=this
    refine Gy h2 (λe g' w' _ hq=> ?_)
    cases e with
    |normal=>exact ih b g' w' hb hq
    |_=>exact hq
  |_=>cases n<;>simp[axV]at h
def aHn(id:Nat):Code->Bool| .block i _=>Nat.beq i id|_=>false
def aEe:Code->Bool| .loop _=>true|_=>false
def aDG:Code->Option Operand| .cond o _ _=>some o|_=>none
theorem aF5 {Q:Exit->Env->aOm->Prop}(id:Nat)(c:Code)(g:Env)(w:aOm)(h:aHn id c=true)(hd:cP P ann (bI c) (blk id Q) g w):cP P ann c Q g w:=by
 cases c with
 |block i c=>
  obtain rfl:=aMj (show Nat.beq i id=true from h)
  exact hd
 |_=>cases h
def aHo:Code->Bool| .scope _=>true|_=>false
theorem aF8 {Q:Exit->Env->aOm->Prop}(c:Code)(g:Env)(w:aOm)(h:aHo c=true)(hd:cP P ann (bI c) Q g w):cP P ann c Q g w:=by
 cases c with
 |scope c=>exact hd
 |_=>cases h
theorem aF6 {Q:Exit->Env->aOm->Prop}(o:Operand)(c:Code)(g:Env)(w:aOm)(h:aDG c=some o)
 (hd:bQ (ev g o) (cP P ann (cT c) Q g w) (cP P ann (cE c) Q g w)):cP P ann c Q g w:=by
 cases c with
 |cond o' a b=>obtain rfl:=aLW h;exact hd
 |_=>cases h
theorem aDe{v:aOn}{A B A' B':Prop}(ha:A->A')(hb:B->B')(h:bQ v A B):bQ v A' B':=by
 unfold bQ at*
 cases v with
 |bool b=>cases b<;>first|exact ha h|exact hb h
 |_=>exact h
theorem aDP{T:Type}(proj:Env->T)(F:(T->aOm->Prop)->T->aOm->Prop){c:Code}{Q:Exit->Env->aOm->Prop}{g:Env}{w:aOm}
 (hF:∀(X:T->aOm->Prop) g' w',jR (U4 c) g g'->F X (proj g') w'->cP P ann c (Cp (λg'' w''=>X (proj g'') w'') Q) g' w')
 (h:aX F (proj g) w):cP P ann (.loop c) Q g w:=by
 obtain⟨I,⟨n,h0⟩,hI⟩:=h
 refine⟨λn g' w'=>jR (U4 c) g g'/\I n (proj g') w',⟨n,jR.refl _ _,h0⟩, ?_⟩
 rintro n g' w' ⟨ha,hi⟩
 have:=hF _ g' w' ha (hI n _ _ hi)
 refine Gy this (λe g2 w2 ha2 hq=> ?_)
 cases e with
 |normal=>
  obtain⟨m,hm,hh⟩:=hq
  exact⟨m,hm,ha.trans ha2 (λ_ h=>h) (λ_ h=>h),hh⟩
 |_=>exact hq
theorem aBH{T:Type}(proj:Env->T)(F:(T->aOm->Prop)->T->aOm->Prop)(c:Code){Q:Exit->Env->aOm->Prop}{g:Env}{w:aOm}(hl:aEe c=true)
 (h:aX F (proj g) w)
 (hF:∀(X:T->aOm->Prop) g' w',jR (U4 (bI c)) g g'->F X (proj g') w'->cP P ann (bI c) (Cp (λg'' w''=>X (proj g'') w'') Q) g' w'):cP P ann c Q g w:=by
 cases c with
 |loop c=>exact aDP proj F hF h
 |_=>cases hl
theorem ayK{l:List Nat}{s:Nat}(hs:pI s l=false):s∉l:=by
 induction l with
 |nil=>simp
 |cons a r ih=>
  unfold pI at hs
  cases hb:Nat.beq a s with
  |true=>simp only[hb]at hs;cases hs
  |false=>
   simp only[hb]at hs
   intro hm
   rcases aMd.1 hm with e|hm
   .subst e;simp at hb
   .exact ih hs hm
theorem aDo{l:List Nat}{g g':Env}(h:jR l g g'){s:Nat}(hs:pI s l=false):g' s=g s:=h s (ayK hs)
def Kb(id:Nat):Code->Array Oper
 | .region i ops _=>match Nat.beq i id with|true=>ops|false=> #[]
 | .seq a b=>match(Kb id a).size with|0=>Kb id b|_+1=>Kb id a
 | .cond _ a b=>match(Kb id a).size with|0=>Kb id b|_+1=>Kb id a
 | .block _ c=>Kb id c
 | .loop c=>Kb id c
 | .scope c=>Kb id c
 |_=> #[]
theorem Nb{b:Bool}{A B:Prop}(ha:A)(hb:B):Ord b A B:=by cases b<;>assumption
theorem aX.rule {α:Type}{F:(α->aOm->Prop)->α->aOm->Prop}(I:Nat->α->aOm->Prop){g:α}{w:aOm}(n:Nat)(h0:I n g w)
 (hr:∀n g w,I n g w->F (λg' w'=>∃m,m<n/\I m g' w') g w):aX F g w:=⟨I,⟨n,h0⟩,hr⟩
theorem bD(A B:Prop):bQ (.bool true) A B=A:=Eq.trans rfl rfl
theorem aR(A B:Prop):bQ (.bool false) A B=B:=Eq.trans rfl rfl
theorem jF(s:(aOn->aOm->Prop)->Prop)(w:aOm)(K:aOn->aOm->Prop):Gd true s w K=s K:=Eq.trans rfl rfl
theorem gF(s:(aOn->aOm->Prop)->Prop)(w:aOm)(K:aOn->aOm->Prop):Gd false s w K=K undef w:=Eq.trans rfl rfl
theorem Iz(p:Prop):Gs true p=p:=Eq.trans rfl rfl
theorem CF(p:Prop):Gs false p=True:=Eq.trans rfl rfl
theorem wE:bK (.bool true) true=true:=Eq.trans rfl rfl
theorem Dj:bK (.bool true) false=false:=Eq.trans rfl rfl
theorem yK:bK (.bool false) true=false:=Eq.trans rfl rfl
theorem Ao:bK (.bool false) false=true:=Eq.trans rfl rfl
def aG:Operand:= .tmp 0
theorem exD{c:Code}{kn kr:Env->aOm->Prop}{l:List (Nat×(Env->aOm->Prop))}{Q:Exit->Env->aOm->Prop}{g:Env}{w:aOm}{A:Prop}
 (h:A) (hn:∀g w,kn g w->Q .normal g w) (hr:∀g w,kr g w->Q .ret g w) (hl:arQ Q l) (e:A=cP P ann c (exQ kn kr l) g w:=by kernel_rfl):cP P ann c Q g w:=aF7 e h hn hr hl
theorem bZ{Q:Exit->Env->aOm->Prop}(n:Nat){c:Code}{g:Env}{w:aOm}
 (hd:cP P ann (aQ n c) (Cp (λg w=>cP P ann (aI n c) Q g w) Q) g w) (h:axV n c=true:=by kernel_rfl):cP P ann c Q g w:=aBI n c g w h hd
theorem qU{Q:Exit->Env->aOm->Prop}(id:Nat){c:Code}{g:Env}{w:aOm}(hd:cP P ann (bI c) (blk id Q) g w)(h:aHn id c=true:=by kernel_rfl):cP P ann c Q g w:=aF5 id c g w h hd
theorem scD{Q:Exit->Env->aOm->Prop}{c:Code}{g:Env}{w:aOm}(hd:cP P ann (bI c) Q g w)(h:aHo c=true:=by kernel_rfl):cP P ann c Q g w:=aF8 c g w h hd
theorem cdD{Q:Exit->Env->aOm->Prop}(o:Operand){c:Code}{g:Env}{w:aOm}{A B:Prop}(ha:A->cP P ann (cT c) Q g w)(hb:B->cP P ann (cE c) Q g w)(hd:bQ (ev g o) A B)(h:aDG c=some o:=by kernel_rfl):cP P ann c Q g w:=
 aF6 o c g w h (aDe ha hb hd)
theorem AR{T:Type}(proj:Env->T)(F:(T->aOm->Prop)->T->aOm->Prop){c:Code}{Q:Exit->Env->aOm->Prop}{g:Env}{w:aOm}
 (h:aX F (proj g) w)
 (hF:∀(X:T->aOm->Prop) g' w',jR (U4 (bI c)) g g'->F X (proj g') w'->cP P ann (bI c) (Cp (λg'' w''=>X (proj g'') w'') Q) g' w') (hl:aEe c=true:=by kernel_rfl):cP P ann c Q g w:=aBH proj F c hl h hF
theorem cI{l:List Nat}{g g':Env}(s:Nat)(h:jR l g g')(hs:pI s l=false:=by kernel_rfl):g' s=g s:=aDo h hs
theorem lC{ann:FA}(fn:Func)(c:Code)(args:List aOn)(rs:List ResultVar)(N:Nat){f:FuncId}{w:aOm}{R:aOn->aOm->Prop}(hm:P.follows .mixedOrders=true)
 (hf:P.funcs[f]?=some fn) (h:cP P ann c (aJV P rs R) (adN args) w) (hAf:ann.f=f:=by kernel_rfl) (hb:fn.body=some c:=by kernel_rfl) (hrs:fn.results=rs.toArray:=by kernel_rfl) (hN:fn.ntmps=N:=by kernel_rfl) (hle:Nat.ble args.length N=true:=by kernel_rfl)
 (hok:codeOk P N ann c=true:=by kernel_rfl) (hro:rs.all anN=true:=by kernel_rfl) (hND:Nat.ble N DS=true:=by kernel_rfl) (hfl:sR c=true:=by kernel_rfl):aK P f args.toArray w R:=
 asW hm hAf hf hb hrs hN (aNq hle) hok hro hND hfl h
def alK:Code->Option (Operand×Array Tmp×Code×Code)
 | .rangeFunc g ps aLr bd=>some (g,ps,aLr,bd)
 | .seq a b=>(match alK a with|some r=>some r|none=>alK b)
 | .cond _ a b=>(match alK a with|some r=>some r|none=>alK b)
 | .block _ c=>alK c
 | .loop c=>alK c
 | .scope c=>alK c
 |_=>none
def aEO(c:Code):Array Tmp:=match alK c with|some (_,ps,_)=>ps|none=> #[]
def aCu(c:Code):Code:=match alK c with|some (_,_,aLr,_)=>aLr|none=> .skip
def azG(c:Code):Code:=match alK c with|some (_,_,_,bd)=>bd|none=> .skip
def Rdy(l:Nat)(w:aOm)(K:aOm->Prop):Prop:=∃r:Loop,w.heap[l]?=some (.loop r)/\r.state= .ready/\K (w.putObj l (.loop {r with state:= .busy}))
def jSt:Option Code->LoopState
 |none=> .ready
 |some _=> .done
def arV(l:Nat)(j:Option Code)(R:aOn->aOm->Prop)(w:aOm):Prop:=
 ∃r:Loop,w.heap[l]?=some (.loop r)/\R (.bool j.isNone) (w.putObj l (.loop {r with state:=jSt j,pending:=j}))
def aIG:List ResultVar:=[]
theorem dsF{ann:FA}(fn:Func)(c:Code)(args:List aOn)(rs:List ResultVar)(N:Nat){f:FuncId}{w:aOm}{R:aOn->aOm->Prop}(hm:P.follows .mixedOrders=true)
 (hf:P.funcs[f]?=some fn) (h:cP P ann c (aIE P rs R) (adN args) w) (hAf:ann.f=f:=by kernel_rfl) (hb:fn.body=some c:=by kernel_rfl) (hrs:fn.results=rs.toArray:=by kernel_rfl) (hN:fn.ntmps=N:=by kernel_rfl) (hle:Nat.ble args.length N=true:=by kernel_rfl)
 (hok:codeOk P N ann c=true:=by kernel_rfl) (hro:rs.all anN=true:=by kernel_rfl) (hND:Nat.ble N DS=true:=by kernel_rfl):aK P f args.toArray w R:=
 Yo hm hAf hf hb hrs hN (aNq hle) hok hro hND h
theorem dsR{ann:FA}(N:Nat){f:FuncId}{l:Nat}{tmps:Array aOn}{aLr bd:Code}{w:aOm}{R:aOn->aOm->Prop}(hm:P.follows .mixedOrders=true)(hsz:tmps.size=N)
 (h:cP P ann aLr (asQ P ann l bd R) (RE tmps) w) (hN:abZ P f=N) (hok1:codeOk P N ann aLr=true) (hok2:codeOk P N ann bd=true) (hAf:ann.f=f:=by kernel_rfl) (hND:Nat.ble N DS=true:=by kernel_rfl)
 (hf1:sR aLr=true:=by kernel_rfl) (hf2:sR bd=true:=by kernel_rfl):amA P l f tmps aLr bd w R:=
 aoW hm hAf hN hND hsz hok1 hf1 hok2 hf2 h
end
end Go.En
namespace Go.Proofs.YtoecppploooloaaGreatDoor
open Go Go.En
noncomputable abbrev pg:Program:=Tryz.prog
theorem TryzM.mixed:pg.follows .mixedOrders=true:=Tryz.checked.mixed
abbrev K0:=aOm->Prop
abbrev K1:=aOn->K0
abbrev K2:=aOn->K1
abbrev K3:=aOn->K2
abbrev K4:=aOn->K3
abbrev K5:=aOn->K4
abbrev K6:=aOn->K5
abbrev K7:=aOn->K6
abbrev K8:=aOn->K7
abbrev K9:=aOn->K8
abbrev Z3:=aOn->K9
abbrev K11:=aOn->Z3
abbrev HR(rs:List ResultVar)(R:K1)(Q:Exit->Env->aOm->Prop):Prop:=∀g w,(qK pg rs g w λvs=>R (tup vs) w)->Q .ret g w
abbrev HRF(rs:List ResultVar)(R:K1)(Q:Exit->Env->aOm->Prop):Prop:=∀g w,(EB (g DS) w λw=>qK pg rs g w λvs=>R (tup vs) w)->Q .ret g w
abbrev no:Env->aOm->Prop:=λ_ _=>False
theorem D1 {Q:Env->aOm->Prop}:∀g w,no g w->Q g w:=λ_ _ h=>h.elim
def fz:Nat->List (Bool×List Nat)->List (Bool×List Nat)
 |0,l=>l
 |n+1,l=>(false,[])::fz n l
def ft(a:List Nat)(l:List (Bool×List Nat)):List (Bool×List Nat):=(true,a)::l
def fu(a:List Nat)(l:List (Bool×List Nat)):List (Bool×List Nat):=(false,a)::l
theorem cO{Q:Env->aOm->Prop}:∀g w,Q g w->Q g w:=λ_ _ h=>h
section
variable{P:Program}{ann:FA}{c:Code}{kr:Env->aOm->Prop}{Q:Exit->Env->aOm->Prop}{g:Env}{w:aOm}{A:Prop}
theorem zO(l:List (Nat×(Env->aOm->Prop)))(kn:Env->aOm->Prop)(h:A)(hn:∀g w,kn g w->Q .normal g w)(hr:∀g w,kr g w->Q .ret g w)(hl:arQ Q l)(e:A=cP P ann c (exQ kn kr l) g w:=by kernel_rfl):cP P ann c Q g w:=exD h hn hr hl e
theorem Mn(kn:Env->aOm->Prop)(h:A)(hn:∀g w,kn g w->Q .normal g w)(hr:∀g w,kr g w->Q .ret g w)(e:A=cP P ann c (exQ kn kr []) g w:=by kernel_rfl):cP P ann c Q g w:=exD (l:=[]) h hn hr trivial e
theorem eM(kn:Env->aOm->Prop)(h:A)(hn:∀g w,kn g w->Q .normal g w)(e:A=cP P ann c (exQ kn no []) g w:=by kernel_rfl):cP P ann c Q g w:=exD (l:=[]) h hn D1 trivial e
theorem lX(h:A)(hr:∀g w,kr g w->Q .ret g w)(e:A=cP P ann c (exQ no kr []) g w:=by kernel_rfl):cP P ann c Q g w:=exD (l:=[]) h D1 hr trivial e
end
abbrev Mq0 (k:K0):Env->aOm->Prop:=λg w=>k w
abbrev UO(k:K1)(x0:Nat):Env->aOm->Prop:=λg w=>k (g x0) w
abbrev Lg(k:K2)(x0 x1:Nat):Env->aOm->Prop:=λg w=>k (g x0) (g x1) w
abbrev UB(k:K3)(x0 x1 x2:Nat):Env->aOm->Prop:=λg w=>k (g x0) (g x1) (g x2) w
abbrev AQ(k:K4)(x0 x1 x2 x3:Nat):Env->aOm->Prop:=λg w=>k (g x0) (g x1) (g x2) (g x3) w
abbrev O9 (k:K5)(x0 x1 x2 x3 x4:Nat):Env->aOm->Prop:=λg w=>k (g x0) (g x1) (g x2) (g x3) (g x4) w
abbrev UP(k:K6)(x0 x1 x2 x3 x4 x5:Nat):Env->aOm->Prop:=λg w=>k (g x0) (g x1) (g x2) (g x3) (g x4) (g x5) w
abbrev KQ(k:K7)(x0 x1 x2 x3 x4 x5 x6:Nat):Env->aOm->Prop:=λg w=>k (g x0) (g x1) (g x2) (g x3) (g x4) (g x5) (g x6) w
abbrev Mq8 (k:K8)(x0 x1 x2 x3 x4 x5 x6 x7:Nat):Env->aOm->Prop:=λg w=>k (g x0) (g x1) (g x2) (g x3) (g x4) (g x5) (g x6) (g x7) w
abbrev Mq9 (k:K9)(x0 x1 x2 x3 x4 x5 x6 x7 x8:Nat):Env->aOm->Prop:=λg w=>k (g x0) (g x1) (g x2) (g x3) (g x4) (g x5) (g x6) (g x7) (g x8) w
abbrev X1 (k:Z3)(x0 x1 x2 x3 x4 x5 x6 x7 x8 x9:Nat):Env->aOm->Prop:=λg w=>k (g x0) (g x1) (g x2) (g x3) (g x4) (g x5) (g x6) (g x7) (g x8) (g x9) w
abbrev aKs(k:K11)(x0 x1 x2 x3 x4 x5 x6 x7 x8 x9 x10:Nat):Env->aOm->Prop:=λg w=>k (g x0) (g x1) (g x2) (g x3) (g x4) (g x5) (g x6) (g x7) (g x8) (g x9) (g x10) w
abbrev Ag:FuncId:=3
abbrev FT:FuncId:=8
abbrev lP:FuncId:=9
abbrev rY:FuncId:=10
abbrev FU:FuncId:=11
abbrev Bg:FuncId:=12
abbrev FQ:FuncId:=20
abbrev pJ:FuncId:=21
abbrev Cs:FuncId:=22
abbrev Na:FuncId:=23
abbrev Iu:FuncId:=24
abbrev gG:FuncId:=25
abbrev eZ:FuncId:=27
abbrev bA:FuncId:=28
abbrev eJ:FuncId:=29
abbrev xY:FuncId:=30
abbrev Bh:FuncId:=31
abbrev tI:FuncId:=32
abbrev UA:FuncId:=33
abbrev zE:FuncId:=34
abbrev CE:FuncId:=35
abbrev fN:FuncId:=36
abbrev eU:FuncId:=37
abbrev cC:FuncId:=38
abbrev cU:FuncId:=39
abbrev pP:FuncId:=40
abbrev rI:FuncId:=41
abbrev nJ:FuncId:=42
abbrev rZ:FuncId:=43
abbrev Cz:FuncId:=44
abbrev Ct:FuncId:=45
abbrev zC:FuncId:=46
abbrev wW:FuncId:=47
abbrev pS:FuncId:=48
abbrev B8:FuncId:=49
abbrev zF:FuncId:=50
abbrev xA:FuncId:=51
abbrev dG:FuncId:=52
abbrev kT:FuncId:=53
abbrev gQ:FuncId:=54
abbrev Iv:FuncId:=55
abbrev pO:FuncId:=56
abbrev jZ:FuncId:=57
abbrev sD:FuncId:=58
abbrev fD:FuncId:=59
abbrev lZ:FuncId:=60
abbrev zD:FuncId:=61
abbrev iI:FuncId:=62
abbrev Cy:FuncId:=63
abbrev iC:FuncId:=64
abbrev wS:FuncId:=65
abbrev Bi:FuncId:=66
abbrev Iy:FuncId:=67
abbrev wU:FuncId:=68
abbrev wX:FuncId:=69
abbrev kV:FuncId:=70
abbrev tJ:FuncId:=71
abbrev fE:FuncId:=72
abbrev tL:FuncId:=73
abbrev Cu:FuncId:=74
abbrev iH:FuncId:=75
abbrev wT:FuncId:=76
abbrev pT:FuncId:=77
abbrev aeL:FuncId:=78
abbrev kU:FuncId:=79
abbrev rL:FuncId:=80
abbrev sB:FuncId:=81
abbrev vU:FuncId:=82
abbrev rJ:FuncId:=83
abbrev wZ:FuncId:=84
abbrev wY:FuncId:=85
abbrev uZ:FuncId:=86
abbrev rK:FuncId:=87
abbrev nI:FuncId:=88
abbrev O7:FuncId:=89
abbrev zB:FuncId:=90
abbrev CD:FuncId:=91
abbrev IN:FuncId:=92
abbrev B6:FuncId:=93
abbrev B7:FuncId:=94
abbrev vJ:FuncId:=95
abbrev CB:FuncId:=96
abbrev kJ:FuncId:=97
abbrev Lf:FuncId:=98
abbrev Iw:FuncId:=99
abbrev bX:FuncId:=100
abbrev It:FuncId:=101
abbrev kS:FuncId:=102
abbrev Bj:FuncId:=103
abbrev pR:FuncId:=107
abbrev vA:FuncId:=108
abbrev FR:FuncId:=109
abbrev Cx:FuncId:=110
abbrev B5:FuncId:=111
abbrev pQ:FuncId:=112
abbrev CA:FuncId:=113
abbrev Cv:FuncId:=114
abbrev pK:FuncId:=115
abbrev CC:FuncId:=116
abbrev sC:FuncId:=117
abbrev wR:FuncId:=118
abbrev XZ:FuncId:=119
abbrev wV:FuncId:=120
abbrev Bk:FuncId:=132
abbrev oI:FuncId:=133
abbrev pL:FuncId:=134
abbrev eN:FuncId:=135
abbrev Ix:FuncId:=136
abbrev tK:FuncId:=145
abbrev fO:FuncId:=151
abbrev N0 (Q : Exit -> Env -> aOm -> Prop) (k : K0) : Prop := ∀ g w, k w -> Q .normal g w
abbrev E0 (Q : Exit -> Env -> aOm -> Prop) (k : K0) (x0 : Nat) : Prop := ∀ g w, k w -> Q (.exit x0) g w
abbrev N1 (Q : Exit -> Env -> aOm -> Prop) (k : K1) (a_ : Nat) : Prop := ∀ g w, k (g a_) w -> Q .normal g w
abbrev E1 (Q : Exit -> Env -> aOm -> Prop) (k : K1) (x0 : Nat) (a_ : Nat) : Prop := ∀ g w, k (g a_) w -> Q (.exit x0) g w
abbrev N2 (Q : Exit -> Env -> aOm -> Prop) (k : K2) (a_ b_ : Nat) : Prop := ∀ g w, k (g a_) (g b_) w -> Q .normal g w
abbrev E2 (Q : Exit -> Env -> aOm -> Prop) (k : K2) (x0 : Nat) (a_ b_ : Nat) : Prop := ∀ g w, k (g a_) (g b_) w -> Q (.exit x0) g w
abbrev N3 (Q : Exit -> Env -> aOm -> Prop) (k : K3) (a_ b_ c_ : Nat) : Prop := ∀ g w, k (g a_) (g b_) (g c_) w -> Q .normal g w
abbrev E3 (Q : Exit -> Env -> aOm -> Prop) (k : K3) (x0 : Nat) (a_ b_ c_ : Nat) : Prop := ∀ g w, k (g a_) (g b_) (g c_) w -> Q (.exit x0) g w
abbrev N4 (Q : Exit -> Env -> aOm -> Prop) (k : K4) (a_ b_ c_ d_ : Nat) : Prop := ∀ g w, k (g a_) (g b_) (g c_) (g d_) w -> Q .normal g w
abbrev E4 (Q : Exit -> Env -> aOm -> Prop) (k : K4) (x0 : Nat) (a_ b_ c_ d_ : Nat) : Prop := ∀ g w, k (g a_) (g b_) (g c_) (g d_) w -> Q (.exit x0) g w
abbrev N5 (Q : Exit -> Env -> aOm -> Prop) (k : K5) (a_ b_ c_ d_ e_ : Nat) : Prop := ∀ g w, k (g a_) (g b_) (g c_) (g d_) (g e_) w -> Q .normal g w
abbrev E5 (Q : Exit -> Env -> aOm -> Prop) (k : K5) (x0 : Nat) (a_ b_ c_ d_ e_ : Nat) : Prop := ∀ g w, k (g a_) (g b_) (g c_) (g d_) (g e_) w -> Q (.exit x0) g w
abbrev N6 (Q : Exit -> Env -> aOm -> Prop) (k : K6) (a_ b_ c_ d_ e_ f_ : Nat) : Prop := ∀ g w, k (g a_) (g b_) (g c_) (g d_) (g e_) (g f_) w -> Q .normal g w
abbrev E6 (Q : Exit -> Env -> aOm -> Prop) (k : K6) (x0 : Nat) (a_ b_ c_ d_ e_ f_ : Nat) : Prop := ∀ g w, k (g a_) (g b_) (g c_) (g d_) (g e_) (g f_) w -> Q (.exit x0) g w
abbrev N7 (Q : Exit -> Env -> aOm -> Prop) (k : K7) (a_ b_ c_ d_ e_ f_ g_ : Nat) : Prop := ∀ g w, k (g a_) (g b_) (g c_) (g d_) (g e_) (g f_) (g g_) w -> Q .normal g w
abbrev E7 (Q : Exit -> Env -> aOm -> Prop) (k : K7) (x0 : Nat) (a_ b_ c_ d_ e_ f_ g_ : Nat) : Prop := ∀ g w, k (g a_) (g b_) (g c_) (g d_) (g e_) (g f_) (g g_) w -> Q (.exit x0) g w
abbrev N10 (Q : Exit -> Env -> aOm -> Prop) (k : Z3) (a_ b_ c_ d_ e_ f_ g_ h_ i_ j_ : Nat) : Prop := ∀ g w, k (g a_) (g b_) (g c_) (g d_) (g e_) (g f_) (g g_) (g h_) (g i_) (g j_) w -> Q .normal g w
abbrev E10 (Q : Exit -> Env -> aOm -> Prop) (k : Z3) (x0 : Nat) (a_ b_ c_ d_ e_ f_ g_ h_ i_ j_ : Nat) : Prop := ∀ g w, k (g a_) (g b_) (g c_) (g d_) (g e_) (g f_) (g g_) (g h_) (g i_) (g j_) w -> Q (.exit x0) g w
abbrev aOo (n_ : Int) : aOn := .int .i64 n_
end Go.Proofs.YtoecppploooloaaGreatDoor
namespace Go.Proofs.YtoecppploooloaaGreatDoor
open Go Go.En
set_option maxRecDepth 20000
attribute [local irreducible] Go.En.cP
variable (Q : Exit -> Env -> aOm -> Prop) (g : Env) (w : aOm)
def Rq:FA:=⟨Ag,λi=> .leaf ([],[]) []⟩
def TS:List ResultVar:=[.tmp 6]
noncomputable def Ps:Code:=aY Tryz.f3
def GG(R:K1) jI oM UG w:=
 aK pg FT #[] w λc0 w=>
 aA pg (sUn .not c0) w λc2 w=>
 bQ c2
  (R (.bool false) w)
  (aA pg (dD .len #[22] 3 [jI]) w λc4 w=>
  aA pg (aD .gtr 3 aG aG c4 (aOo 3000)) w λc5 w=>
  Gd (bK c5 false) (λK=>K UG w) w λc7 w=>
  Gd (bK c5 false) (λK=>aA pg (aD .gtr 3 aG aG c7 (aOo 16777216)) w K) w λc8 w=>
  aA pg (cD c5 (.bool true) c8) w λc9 w=>
  bQ c9
   (R (.bool true) w)
   (aA pg (aD .rem 5 aG aG oM (.int .u8 10)) w λd3 w=>
   aA pg (cH 5 3 d3) w λd4 w=>
   aK pg lP #[jI,d4,(.bool true)] w λd5 w=>
   aA pg (aV d5 0) w λd6 w=>
   aA pg (aV d5 1) w λd7 w=>
   aA pg (aD .eql 24 (.tmp 28) (.const (aOo 0)) d7 (aOo 0)) w λd9 w=>
   Gd (bK d9 true) (λK=>K d6 w) w λe1 w=>
   Gd (bK d9 true) (λK=>aA pg (dD .len #[22] 3 [e1]) w K) w λe2 w=>
   Gd (bK d9 true) (λK=>K jI w) w λe3 w=>
   Gd (bK d9 true) (λK=>aA pg (dD .len #[22] 3 [e3]) w K) w λe4 w=>
   Gd (bK d9 true) (λK=>aK pg rY #[e4] w K) w λe5 w=>
   Gd (bK d9 true) (λK=>aA pg (aD .leq 3 aG aG e2 e5) w K) w λe6 w=>
   aA pg (cD d9 e6 (.bool false)) w λe7 w=>
   Gd (bK e7 true) (λK=>K UG w) w λe9 w=>
   Gd (bK e7 true) (λK=>aK pg rY #[e9] w K) w λf0 w=>
   Gd (bK e7 true) (λK=>K UG w) w λf1 w=>
   Gd (bK e7 true) (λK=>aK pg FU #[f1] w K) w λf2 w=>
   Gd (bK e7 true) (λK=>aA pg (aD .eql 3 (.tmp 40) (.tmp 42) f0 f2) w K) w λf3 w=>
   aA pg (cD e7 f3 (.bool false)) w λf4 w=>
   R f4 w))
def LF a0 a1 a2 w(R:K1):=
 GG R a0 a1 a2 w
theorem PM{a0 a1 a2 w R}(h:LF a0 a1 a2 w R):aK pg Ag #[a0,a1,a2] w R:=
 lC (ann:=Rq) Tryz.f3 Ps [a0,a1,a2] TS 45 TryzM.mixed Tryz.func3 (lX h cO)
def aeP:FA:=⟨FT,λi=> .leaf ([],[]) []⟩
def ajQ:List ResultVar:=[.tmp 0]
noncomputable def aaM:Code:=aY Tryz.f8
def Tm(R:K1) w:=
 aA pg (bT 22 2 [(0,(.int .u8 7)),(1,(.int .u8 8))]) w λb8 w=>
 aK pg lP #[b8,(aOo 0),(.bool false)] w λb9 w=>
 aA pg (aV b9 0) w λc0 w=>
 aA pg (aV b9 1) w λc1 w=>
 aK pg Bg #[c0,(aOo 22),(aOo 100)] w λc4 w=>
 aA pg (aV c4 0) w λc5 w=>
 aA pg (aV c4 1) w λc6 w=>
 aK pg lP #[(.slice none 0 0),(aOo 10),(.bool false)] w λc8 w=>
 aA pg (aV c8 0) w λc9 w=>
 aA pg (aV c8 1) w λd0 w=>
 aA pg (aD .eql 24 (.tmp 21) (.const (aOo 0)) c1 (aOo 0)) w λd2 w=>
 Gd (bK d2 true) (λK=>K c0 w) w λd4 w=>
 Gd (bK d2 true) (λK=>aA pg (dD .len #[22] 3 [d4]) w K) w λd5 w=>
 Gd (bK d2 true) (λK=>aA pg (aD .gtr 3 aG aG d5 (aOo 6)) w K) w λd6 w=>
 aA pg (cD d2 d6 (.bool false)) w λd7 w=>
 Gd (bK d7 true) (λK=>K c0 w) w λd9 w=>
 Gd (bK d7 true) (λK=>aA pg (bP 22 d9 none (some (aOo 6)) none) w K) w λe0 w=>
 Gd (bK d7 true) (λK=>aA pg (cH 22 9 e0) w K) w λe1 w=>
 Gd (bK d7 true) (λK=>aA pg (aD .eql 9 (.tmp 31) (.const (.string ⟨#[40,181,47,253,32,2]⟩)) e1 (.string ⟨#[40,181,47,253,32,2]⟩)) w K) w λe2 w=>
 aA pg (cD d7 e2 (.bool false)) w λe3 w=>
 Gd (bK e3 true) (λK=>K c5 w) w λe5 w=>
 Gd (bK e3 true) (λK=>aA pg (cH 22 9 e5) w K) w λe6 w=>
 Gd (bK e3 true) (λK=>aA pg (aD .eql 9 (.tmp 36) (.const (.string ⟨#[7,8]⟩)) e6 (.string ⟨#[7,8]⟩)) w K) w λe7 w=>
 aA pg (cD e3 e7 (.bool false)) w λe8 w=>
 Gd (bK e8 true) (λK=>K c6 w) w λf0 w=>
 Gd (bK e8 true) (λK=>aA pg (aD .eql 24 (.tmp 40) (.const (aOo 0)) f0 (aOo 0)) w K) w λf1 w=>
 aA pg (cD e8 f1 (.bool false)) w λf2 w=>
 Gd (bK f2 true) (λK=>K d0 w) w λf4 w=>
 Gd (bK f2 true) (λK=>aA pg (aD .eql 24 (.tmp 44) (.const (aOo 1)) f4 (aOo 1)) w K) w λf5 w=>
 aA pg (cD f2 f5 (.bool false)) w λf6 w=>
 Gd (bK f6 true) (λK=>aK pg rY #[(aOo 5)] w K) w λf8 w=>
 Gd (bK f6 true) (λK=>aA pg (aD .eql 3 (.tmp 48) (.const (aOo 29)) f8 (aOo 29)) w K) w λf9 w=>
 aA pg (cD f6 f9 (.bool false)) w λi0 w=>
 R i0 w
def adU w(R:K1):=
 Tm R w
theorem abM{w R}(h:adU w R):aK pg FT #[] w R:=
 lC (ann:=aeP) Tryz.f8 aaM [] ajQ 51 TryzM.mixed Tryz.func8 (lX h cO)
def CI:FA:=⟨lP,λi=>match Nat.beq i 13 with|true=> .leaf ([2,5],[(2,3)]) (fz 2 (ft [] (fu [0] (fz 1 (ft [] [])))))|false=> .leaf ([],[]) []⟩
def Fi:List ResultVar:=[.tmp 6,.tmp 7]
noncomputable def BG:Code:=aY Tryz.f9
def zI(R:K1) yQ w:=
 R (.tuple #[yQ,(aOo 0)]) w
def NO(kn:K1) jI DE yQ w:=
 bQ DE
  (aK pg Na #[jI] w λj5 w=>
  aA pg (cH 32 5 j5) w λj8 w=>
  aA pg (aD .shr 32 aG aG j5 (.int .u64 8)) w λl0 w=>
  aA pg (cH 32 5 l0) w λl1 w=>
  aA pg (aD .shr 32 aG aG j5 (.int .u64 16)) w λl3 w=>
  aA pg (cH 32 5 l3) w λl4 w=>
  aA pg (aD .shr 32 aG aG j5 (.int .u64 24)) w λl6 w=>
  aA pg (cH 32 5 l6) w λl7 w=>
  aA pg (bT 22 4 [(0,j8),(1,l1),(2,l4),(3,l7)]) w λl8 w=>
  aA pg (dD .append #[22,22] 22 [yQ,l8]) w λl9 w=>
  kn l9 w)
  (kn yQ w)
def zJ(R:K1) jI DE yQ w:=
 NO (zI R) jI DE yQ w
def zK(kn:K6)(k1:K3)(R:K1) jI oM DE yQ KP Nh w:=
 aA pg (aD .eql 3 (.tmp 32) (.const (aOo 0)) Nh (aOo 0)) w λe3 w=>
 Gd (bK e3 false) (λK=>K Nh w) w λe5 w=>
 Gd (bK e3 false) (λK=>K jI w) w λe6 w=>
 Gd (bK e3 false) (λK=>aA pg (dD .len #[22] 3 [e6]) w K) w λe7 w=>
 Gd (bK e3 false) (λK=>aA pg (aD .lss 3 aG aG e5 e7) w K) w λe8 w=>
 aA pg (cD e3 (.bool true) e8) w λe9 w=>
 bQ e9
  (aA pg (aD .add 3 aG aG Nh (aOo 65536)) w λf6 w=>
  aA pg (dD .len #[22] 3 [jI]) w λf8 w=>
  aA pg (dD .min #[3,3] 3 [f6,f8]) w λf9 w=>
  aA pg (aH 45 KP) w λi1 w=>
  aK pg Cs #[jI,Nh,f9,oM,i1] w λi2 w=>
  aA pg (aV i2 0) w λi3 w=>
  aA pg (aV i2 1) w λi4 w=>
  aA pg (aV i2 2) w λi5 w=>
  aA pg (bG 45) w λc2 w=>
  aA pg (aM 45 c2 i4) w λ_u w=>
  aA pg (aD .neq 24 (.tmp 56) (.const (aOo 0)) i5 (aOo 0)) w λi7 w=>
  bQ i7
   (R (.tuple #[(.slice none 0 0),i5]) w)
   ((dr w)=(dr w)/\
   (dr w)=(dr w)/\
   aA pg (dD .append #[22,22] 22 [yQ,i3]) (dr w) λj1 awG=>
   aA pg (aH 45 c2) awG λj2 w_=>w_=awG/\
   (dT pg (aH 45 c2) j2 (dr w)/\True)/\
   awG=awG/\
   aA pg (aM 45 KP j2) awG λ_u5 aJ7=>
   aA pg (aD .add 3 aG aG Nh (aOo 65536)) aJ7 λf1 w=>
   kn jI oM DE j1 KP f1 w))
  (k1 jI DE yQ w)
def zL(k1:K3)(R:K1) jI oM DE yQ KP Nh w:=
 aX (λ(X:(aOn×aOn)->K0) (t:aOn×aOn) (w:aOm)=>zK (λ_ _ _ yQ _ Nh w=>X (yQ,Nh) w) k1 R jI oM DE t.1 KP t.2 w) (yQ,Nh) w
theorem U5 (k1:K3)(R:K1)(h1:E3 Q k1 1 0 2 8)(hr:HR Fi R Q)(h:zL k1 R (g 0) (g 1) (g 2) (g 8) (g 9) (g 10) w):cP pg CI (bI (aI 1 (aQ 1 (aI 4 BG)))) Q g w:=by
 refine AR (λg:Env=>(g 8,g 10)) (λX t w=>zK (λ_ _ _ yQ _ Nh w=>X (yQ,Nh) w) k1 R (g 0) (g 1) (g 2) t.1 (g 9) t.2 w) h (λX g1 w1 ha hL=> ?_)
 rw[<-cI 0 ha,<-cI 1 ha,<-cI 2 ha,<-cI 9 ha]at hL
 exact(zO [(1,(UB k1 0 2 8))] (UP (λ_ _ _ yQ _ Nh w=>X (yQ,Nh) w) 0 1 2 8 9 10) hL cO hr ⟨h1,trivial⟩)
def NP(kn:K6) jI oM DE yQ KP w:=
 kn jI oM DE yQ KP (aOo 0) w
def EM(kn:K3)(R:K1) jI oM DE yQ KP w:=
 NP (zL kn R) jI oM DE yQ KP w
def EN(R:K1) jI oM DE yQ KP w:=
 EM (zJ R) R jI oM DE yQ KP w
theorem U6 (kn:K3)(R:K1)(hn:N3 Q kn 0 2 8)(hr:HR Fi R Q)(h:EM kn R (g 0) (g 1) (g 2) (g 8) (g 9) w):cP pg CI (aQ 1 (aI 4 BG)) Q g w:=
 bZ 1 (eM (UP (zL kn R) 0 1 2 8 9 10) h (λg w h=>aE (qU 1 (U5 _ g w kn R hn hr h))))
def CX(kn:K5)(R:K1) jI oM DE w:=
 aA pg (aD .lss 3 aG aG oM (aOo 0)) w λc7 w=>
 Gd (bK c7 false) (λK=>K oM w) w λc9 w=>
 Gd (bK c7 false) (λK=>aA pg (aD .gtr 3 aG aG c9 (aOo 9)) w K) w λd0 w=>
 aA pg (cD c7 (.bool true) d0) w λd1 w=>
 bQ d1
  (R (.tuple #[(.slice none 0 0),(aOo 1)]) w)
  (aA pg (dD .len #[22] 3 [jI]) w λd4 w=>
  aA pg (aD .gtr 3 aG aG d4 (aOo 4194304)) w λd5 w=>
  bQ d5
   (R (.tuple #[(.slice none 0 0),(aOo 12)]) w)
   (aA pg (dD .len #[22] 3 [jI]) w λd7 w=>
   aA pg (cH 3 32 d7) w λd8 w=>
   aK pg FQ #[d8,DE] w λe0 w=>
   aK pg pJ #[] w λe1 w=>
   aA pg (bG 45) w λKP w=>
   aA pg (aM 45 KP e1) w λ_u w=>
   kn jI oM DE e0 KP w))
def CY(R:K1) jI oM DE w:=
 CX (EN R) R jI oM DE w
def Mm a0 a1 a2 w(R:K1):=
 CY R a0 a1 a2 w
theorem Jk{a0 a1 a2 w R}(h:Mm a0 a1 a2 w R):aK pg lP #[a0,a1,a2] w R:=
 lC (ann:=CI) Tryz.f9 BG [a0,a1,a2] Fi 81 TryzM.mixed Tryz.func9 (bZ 4 (Mn (O9 (EN R) 0 1 2 8 9) h (λg w h=>aE (bZ 1 (U6 _ g w (zJ R) R (λg w h=>aE (bZ 1 (eM (UO (zI R) 8) h (λg w h=>aE (lX h cO))))) cO h))) cO))
def Z9:FA:=⟨rY,λi=> .leaf ([],[]) []⟩
def afQ:List ResultVar:=[.tmp 2]
noncomputable def Yd:Code:=aY Tryz.f10
def Qz(R:K1) n_0 w:=
 aA pg (aD .lss 3 aG aG n_0 (aOo 0)) w λb4 w=>
 bQ b4
  (R (aOo 0) w)
  (aA pg (aD .add 3 aG aG n_0 (aOo 18)) w λb6 w=>
  aA pg (aD .add 3 aG aG n_0 (aOo 131072)) w λb8 w=>
  aA pg (aD .sub 3 aG aG b8 (aOo 1)) w λb9 w=>
  aA pg (aD .quo 3 aG aG b9 (aOo 131072)) w λc0 w=>
  aA pg (aD .mul 3 aG aG (aOo 6) c0) w λc1 w=>
  aA pg (aD .add 3 aG aG b6 c1) w λc2 w=>
  R c2 w)
def Yq a0 w(R:K1):=
 Qz R a0 w
theorem Yr{a0 w R}(h:Yq a0 w R):aK pg rY #[a0] w R:=
 lC (ann:=Z9) Tryz.f10 Yd [a0] afQ 13 TryzM.mixed Tryz.func10 (lX h cO)
def Ha:FA:=⟨FU,λi=> .leaf ([],[]) []⟩
def ajR:List ResultVar:=[.tmp 2]
noncomputable def EK:Code:=aY Tryz.f11
def Kd(R:K1) n_0 k_3 w:=
 aA pg (aD .add 3 aG aG n_0 (aOo 18)) w λc5 w=>
 aA pg (aD .mul 3 aG aG (aOo 6) k_3) w λc7 w=>
 aA pg (aD .add 3 aG aG c5 c7) w λc8 w=>
 R c8 w
def Kf(kn:K3)(k0:K2) n_0 k_3 UD w:=
 aA pg (aD .lss 3 aG aG UD n_0) w λb9 w=>
 bQ b9
  (aA pg (aD .add 3 aG aG k_3 (aOo 1)) w λc3 w=>
  aA pg (aD .add 3 aG aG UD (aOo 131072)) w λc1 w=>
  kn n_0 c3 c1 w)
  (k0 n_0 k_3 w)
def Du(k0:K2) n_0 k_3 UD w:=
 aX (λ(X:(aOn×aOn)->K0) (t:aOn×aOn) (w:aOm)=>Kf (λ_ k_3 UD w=>X (k_3,UD) w) k0 n_0 t.1 t.2 w) (k_3,UD) w
theorem Zw(k0:K2)(h0:E2 Q k0 0 0 3)(h:Du k0 (g 0) (g 3) (g 4) w):cP pg Ha (bI (aI 1 (aQ 1 (aI 3 EK)))) Q g w:=by
 refine AR (λg:Env=>(g 3,g 4)) (λX t w=>Kf (λ_ k_3 UD w=>X (k_3,UD) w) k0 (g 0) t.1 t.2 w) h (λX g1 w1 ha hL=> ?_)
 rw[<-cI 0 ha]at hL
 exact(zO [(0,(Lg k0 0 3))] (kr:=no) (UB (λ_ k_3 UD w=>X (k_3,UD) w) 0 3 4) hL cO D1 ⟨h0,trivial⟩)
def TJ(kn:K3) n_0 k_3 w:=
 kn n_0 k_3 (aOo 0) w
def Kg(kn:K2) n_0 k_3 w:=
 TJ (Du kn) n_0 k_3 w
def Kh(R:K1) n_0 k_3 w:=
 Kg (Kd R) n_0 k_3 w
theorem Zx(kn:K2)(hn:N2 Q kn 0 3)(h:Kg kn (g 0) (g 3) w):cP pg Ha (aQ 1 (aI 3 EK)) Q g w:=
 bZ 1 (eM (UB (Du kn) 0 3 4) h (λg w h=>aE (qU 0 (Zw _ g w kn hn h))))
def TK(kn:K2)(R:K1) n_0 w:=
 aA pg (aD .lss 3 aG aG n_0 (aOo 0)) w λb6 w=>
 bQ b6
  (R (aOo 0) w)
  (kn n_0 (aOo 0) w)
def TL(R:K1) n_0 w:=
 TK (Kh R) R n_0 w
def aeB a0 w(R:K1):=
 TL R a0 w
theorem acG{a0 w R}(h:aeB a0 w R):aK pg FU #[a0] w R:=
 lC (ann:=Ha) Tryz.f11 EK [a0] ajR 19 TryzM.mixed Tryz.func11 (bZ 3 (Mn (Lg (Kh R) 0 3) h (λg w h=>aE (bZ 1 (Zx _ g w (Kd R) (λg w h=>aE (lX h cO)) h))) cO))
def X3:FA:=⟨Bg,λi=> .leaf ([],[]) []⟩
def acH:List ResultVar:=[.tmp 6,.tmp 7]
noncomputable def W6:Code:=aY Tryz.f12
def NI(R:K1) jI eP abU w:=
 aK pg Iu #[jI,eP,abU] w λc4 w=>
 aA pg (aV c4 0) w λc5 w=>
 aA pg (aV c4 1) w λc6 w=>
 aA pg (aD .neq 24 (.tmp 17) (.const (aOo 0)) c6 (aOo 0)) w λc8 w=>
 bQ c8
  (R (.tuple #[(.slice none 0 0),c6]) w)
  (aA pg (dS c5) w λd1 w=>
  aA pg (aJ 56 d1 3) w λd2 w=>
  aA pg (aH 22 d2) w λd3 w=>
  R (.tuple #[d3,(aOo 0)]) w)
def VP a0 a1 a2 w(R:K1):=
 NI R a0 a1 a2 w
theorem Xe{a0 a1 a2 w R}(h:VP a0 a1 a2 w R):aK pg Bg #[a0,a1,a2] w R:=
 lC (ann:=X3) Tryz.f12 W6 [a0,a1,a2] acH 24 TryzM.mixed Tryz.func12 (lX h cO)
def aeN:FA:=⟨FQ,λi=> .leaf ([],[]) []⟩
def ajO:List ResultVar:=[.tmp 4]
noncomputable def aaK:Code:=aY Tryz.f20
def C8 (R:K1) AA d_5 n_6 abP w:=
 aK pg eZ #[] w λd7 w=>
 aK pg bA #[d7,(.int .u64 4247762216),(aOo 4)] w λd9 w=>
 aK pg bA #[d7,d_5,(aOo 1)] w λe2 w=>
 aA pg (aD .sub 32 aG aG AA abP) w λe6 w=>
 aK pg bA #[d7,e6,n_6] w λe8 w=>
 aK pg eJ #[d7] w λf0 w=>
 R f0 w
def SY(kn:K4) AA pE d_5 n_6 abP w:=
 bQ pE
  (aA pg (aD .or 32 aG aG d_5 (.int .u64 4)) w λd6 w=>
  kn AA d6 n_6 abP w)
  (kn AA d_5 n_6 abP w)
def Jv(R:K1) AA pE d_5 n_6 abP w:=
 SY (C8 R) AA pE d_5 n_6 abP w
def SZ(kn:K5) AA pE w:=
 aA pg (aD .lss 32 aG aG AA (.int .u64 256)) w λc3 w=>
 bQ c3
  (kn AA pE (.int .u64 32) (aOo 1) (.int .u64 0) w)
  (aA pg (aD .lss 32 aG aG AA (.int .u64 65792)) w λc6 w=>
  bQ c6
   (aA pg (aD .or 32 aG aG (.int .u64 32) (.int .u64 64)) w λc8 w=>
   kn AA pE c8 (aOo 2) (.int .u64 256) w)
   (aA pg (aD .lss 32 aG aG AA (.int .u64 4294967296)) w λd1 w=>
   bQ d1
    (aA pg (aD .or 32 aG aG (.int .u64 32) (.int .u64 128)) w λd3 w=>
    kn AA pE d3 (aOo 4) (.int .u64 0) w)
    (aA pg (aD .or 32 aG aG (.int .u64 32) (.int .u64 192)) w λc0 w=>
    kn AA pE c0 (aOo 8) (.int .u64 0) w)))
def S0 (R:K1) AA pE w:=
 SZ (Jv R) AA pE w
def adP a0 a1 w(R:K1):=
 S0 R a0 a1 w
theorem aaW{a0 a1 w R}(h:adP a0 a1 w R):aK pg FQ #[a0,a1] w R:=
 lC (ann:=aeN) Tryz.f20 aaK [a0,a1] ajO 41 TryzM.mixed Tryz.func20 (bZ 3 (eM (O9 (Jv R) 0 1 5 6 7) h (λg w h=>aE (bZ 1 (eM (AQ (C8 R) 0 5 6 7) h (λg w h=>aE (lX h cO)))))))
def X4:FA:=⟨pJ,λi=> .leaf ([],[]) []⟩
def acJ:List ResultVar:=[.cell 0 45]
noncomputable def W7:Code:=aY Tryz.f21
def NU(R:K1) w:=
 aA pg (bG 45) w λb0 w=>
 aA pg (bH 45 [(0,(.int .u32 1)),(1,(.int .u32 4)),(2,(.int .u32 8))]) w λb1 w=>
 aA pg (aM 45 b0 b1) w λ_u w=>
 vV pg 45 b0 w λr0=>R r0 w
def VT w(R:K1):=
 NU R w
theorem Xg{w R}(h:VT w R):aK pg pJ #[] w R:=
 lC (ann:=X4) Tryz.f21 W7 [] acJ 2 TryzM.mixed Tryz.func21 (lX h cO)
def aaB:FA:=⟨Cs,λi=>match Nat.beq i 5 with|true=> .leaf ([3],[(1,3)]) (fz 3 (ft [1] (fz 1 [])))|false=>match Nat.beq i 8 with|true=> .leaf ([5,7,9],[(1,5),(3,5),(3,7)]) (fz 5 (ft [1,3] (fz 1 (ft [3] (fz 1 (ft [] []))))))|false=>match Nat.beq i 11 with|true=> .leaf ([3],[]) (fz 3 (ft [] (fz 1 [])))|false=>match Nat.beq i 12 with|true=> .leaf ([2,5],[(2,3)]) (fz 2 (ft [] (fu [0] (fz 1 (ft [] (fz 1 []))))))|false=> .leaf ([],[]) []⟩
def afS:List ResultVar:=[.tmp 10,.cell 11 45,.tmp 12]
noncomputable def Yf:Code:=aY Tryz.f22
def vD(R:K1) KP c1 arE aFR w:=
 aA pg (aH 65 arE) w λj4 w=>
 aK pg tI #[j4] w λj5 w=>
 aA pg (aV j5 0) w λj6 w=>
 aA pg (aV j5 1) w λj7 w=>
 aA pg (aD .neq 24 (.tmp 68) (.const (aOo 0)) j7 (aOo 0)) w λj9 w=>
 bQ j9
  (aA pg (aH 45 KP) (dr w) λl0 w_=>w_=(dr w)/\
  (dr w)=(dr w)/\
  (dr w)=(dr w)/\
  aA pg (aM 45 c1 l0) (dr w) λ_u3 aBb=>
  aBb=aBb/\
  vV pg 45 c1 aBb λr1=>R (.tuple #[(.slice none 0 0),r1,j7]) aBb)
  ((dr w)=(dr w)/\
  (dr w)=(dr w)/\
  aA pg (dD .append #[22,22] 22 [j6,aFR]) (dr w) λl4 awF=>
  aA pg (aH 45 KP) awF λl5 w_=>w_=awF/\
  (dT pg (aH 45 KP) l5 (dr w)/\True)/\
  awF=awF/\
  aA pg (aM 45 c1 l5) awF λ_u5 aBc=>
  aBc=aBc/\
  vV pg 45 c1 aBc λr1=>R (.tuple #[l4,r1,(aOo 0)]) aBc)
def QC(kn:K4) jI eQ b2 bB r_4 w:=
 aA pg (Ba 45 r_4) w λKP w=>
 aA pg (bG 45) w λc1 w=>
 aA pg (bP 22 jI (some eQ) (some b2) none) w λd4 w=>
 aA pg (dD .len #[22] 3 [jI]) w λd7 w=>
 aA pg (aD .eql 3 (.tmp 25) (.tmp 27) b2 d7) w λd8 w=>
 aA pg (dD .len #[22] 3 [d4]) w λe0 w=>
 aA pg (bH 65 [(0,d8),(1,(aOo 0)),(2,e0)]) w λe1 w=>
 aA pg (bG 65) w λarE w=>
 aA pg (aM 65 arE e1) w λ_u w=>
 aK pg xY #[d4] w λe4 w=>
 bQ e4
  ((dr w)=(dr w)/\
  aA pg (bP 22 d4 none (some (aOo 1)) none) (dr w) λe6 w_=>w_=(dr w)/\
  aA pg (aJ 65 arE 1) (dr w) λe7 w_=>w_=(dr w)/\
  aA pg (aM 3 e7 (aOo 1)) (dr w) λ_u3 azZ=>
  (dT pg (bP 22 d4 none (some (aOo 1)) none) e6 azZ/\True)/\
  azZ=azZ/\
  kn KP c1 arE e6 azZ)
  (aA pg (aH 45 KP) w λf3 w=>
  aK pg Bh #[jI,eQ,b2,bB,f3] w λf4 w=>
  aA pg (aV f4 0) w λf5 w=>
  aA pg (aV f4 1) w λf6 w=>
  aA pg (aV f4 2) w λf7 w=>
  aA pg (bG 45) w λc7 w=>
  aA pg (aM 45 c7 f6) w λ_u w=>
  aA pg (aD .eql 24 (.tmp 48) (.const (aOo 0)) f7 (aOo 0)) w λf9 w=>
  Gd (bK f9 true) (λK=>K f5 w) w λi1 w=>
  Gd (bK f9 true) (λK=>aA pg (dD .len #[22] 3 [i1]) w K) w λi2 w=>
  Gd (bK f9 true) (λK=>K d4 w) w λi3 w=>
  Gd (bK f9 true) (λK=>aA pg (dD .len #[22] 3 [i3]) w K) w λi4 w=>
  Gd (bK f9 true) (λK=>aA pg (aD .lss 3 aG aG i2 i4) w K) w λi5 w=>
  aA pg (cD f9 i5 (.bool false)) w λi6 w=>
  bQ i6
   ((dr w)=(dr w)/\
   aA pg (dD .len #[22] 3 [f5]) (dr w) λi8 w_=>w_=(dr w)/\
   (dr w)=(dr w)/\
   aA pg (aH 45 c7) (dr w) λj0 w_=>w_=(dr w)/\
   aA pg (aJ 65 arE 1) (dr w) λj1 w_=>w_=(dr w)/\
   aA pg (aM 3 j1 (aOo 2)) (dr w) λ_u5 aFi=>
   (dT pg (aH 45 c7) j0 aFi/\dT pg (dD .len #[22] 3 [f5]) i8 aFi/\True)/\
   aA pg (aJ 65 arE 2) aFi λj2 w_=>w_=aFi/\
   aA pg (aM 3 j2 i8) aFi λ_u7 aG0=>
   (dT pg (aH 45 c7) j0 aG0/\True)/\
   aG0=aG0/\
   aA pg (aM 45 KP j0) aG0 λ_u9 aKT=>
   kn KP c1 arE f5 aKT)
   (kn KP c1 arE d4 w))
def QD(R:K1) jI eQ b2 bB r_4 w:=
 QC (vD R) jI eQ b2 bB r_4 w
def Yu a0 a1 a2 a3 a4 w(R:K1):=
 QD R a0 a1 a2 a3 a4 w
theorem Yv{a0 a1 a2 a3 a4 w R}(h:Yu a0 a1 a2 a3 a4 w R):aK pg Cs #[a0,a1,a2,a3,a4] w R:=
 lC (ann:=aaB) Tryz.f22 Yf [a0,a1,a2,a3,a4] afS 76 TryzM.mixed Tryz.func22 (bZ 5 (eM (AQ (vD R) 9 11 14 15) h (λg w h=>aE (lX h cO))))
def awW:FA:=⟨Na,λi=> .leaf ([],[]) []⟩
def aCx:List ResultVar:=[.tmp 2]
noncomputable def asN:Code:=aY Tryz.f23
def aoC(R:K1) jI w:=
 aK pg UA #[] w λb4 w=>
 aK pg zE #[b4,jI] w λb7 w=>
 aK pg CE #[b4] w λb9 w=>
 R b9 w
def aFz a0 w(R:K1):=
 aoC R a0 w
theorem awL{a0 w R}(h:aFz a0 w R):aK pg Na #[a0] w R:=
 lC (ann:=awW) Tryz.f23 asN [a0] aCx 10 TryzM.mixed Tryz.func23 (lX h cO)
def IY:FA:=⟨Iu,λi=>match Nat.beq i 3 with|true=> .leaf ([1,6],[(1,3)]) (fz 1 (ft [] (fz 1 (fu [1] (fz 2 (ft [] (fz 1 [])))))))|false=> .leaf ([],[]) []⟩
def MR:List ResultVar:=[.tmp 6,.tmp 7]
noncomputable def Hf:Code:=aY Tryz.f24
def Mg(R:K1) G8 w:=
 R (.tuple #[G8,(aOo 0)]) w
def AY(kn:K1)(R:K1) G8 aJC w:=
 aA pg (aD .neq 24 (.tmp 64) (.const (aOo 0)) aJC (aOo 0)) w λj5 w=>
 bQ j5
  (R (.tuple #[(.pointer none),aJC]) w)
  (kn G8 w)
def VQ(kn:K2)(R:K1) G8 w:=
 aA pg (dS G8) w λe5 w=>
 aA pg (aJ 56 e5 0) w λe6 w=>
 aA pg (aH 54 e6) w λe7 w=>
 aK pg cC #[e7,(aOo 4)] w λe8 w=>
 aA pg (dS G8) w λf0 w=>
 aA pg (aJ 56 f0 0) w λf1 w=>
 aA pg (aH 54 f1) w λf2 w=>
 aK pg cU #[f2] w λf3 w=>
 aA pg (aD .neq 24 (.tmp 43) (.const (aOo 0)) f3 (aOo 0)) w λf4 w=>
 bQ f4
  (aA pg (dS G8) w λf6 w=>
  aA pg (aJ 56 f6 0) w λf7 w=>
  aA pg (aH 54 f7) w λf8 w=>
  aK pg cU #[f8] w λf9 w=>
  R (.tuple #[(.pointer none),f9]) w)
  (aA pg (aD .eql 32 (.tmp 51) (.const (.int .u64 4247762216)) e8 (.int .u64 4247762216)) w λi2 w=>
  bQ i2
   (aK pg pP #[G8] w λi4 w=>
   kn G8 i4 w)
   (aA pg (aD .geq 32 aG aG e8 (.int .u64 407710288)) w λi7 w=>
   Gd (bK i7 true) (λK=>K e8 w) w λi9 w=>
   Gd (bK i7 true) (λK=>aA pg (aD .lss 32 aG aG i9 (.int .u64 407710304)) w K) w λj0 w=>
   aA pg (cD i7 j0 (.bool false)) w λj1 w=>
   bQ j1
    (aK pg rI #[G8] w λj3 w=>
    kn G8 j3 w)
    (kn G8 (aOo 11) w)))
def Mh(kn:K1)(R:K1) G8 w:=
 VQ (AY kn R) R G8 w
def VR(kn:K1)(k0:K1) G8 w:=
 aA pg (dS G8) w λd9 w=>
 aA pg (aJ 56 d9 0) w λe0 w=>
 aA pg (aH 54 e0) w λe1 w=>
 aK pg eU #[e1] w λe2 w=>
 aA pg (aD .gtr 3 aG aG e2 (aOo 0)) w λe3 w=>
 bQ e3
  (kn G8 w)
  (k0 G8 w)
def Mi(kn:K1)(k0:K1)(R:K1) G8 w:=
 VR (Mh kn R) k0 G8 w
def FY(k0:K1)(R:K1) G8 w:=
 aX (λ(X:Unit->K0) (t:Unit) (w:aOm)=>Mi (λ_ w=>X () w) k0 R G8 w) () w
theorem aaR(k0:K1)(R:K1)(h0:E1 Q k0 0 8)(hr:HR MR R Q)(h:FY k0 R (g 8) w):cP pg IY (bI (aQ 1 (aI 3 Hf))) Q g w:=by
 refine AR (λ_:Env=>()) (λX t w=>Mi (λ_ w=>X () w) k0 R (g 8) w) h (λX g1 w1 ha hL=> ?_)
 rw[<-cI 8 ha]at hL
 exact(bZ 1 (zO [(0,(UO k0 8))] (kr:=no) (UO (Mh (λ_ w=>X () w) R) 8) hL (λg w h=>aE (qU 1 (bZ 4 (Mn (Lg (AY (λ_ w=>X () w) R) 8 10) h (λg w h=>aE (Mn (UO (λ_ w=>X () w) 8) h cO hr)) hr)))) D1 ⟨h0,trivial⟩))
def CT(R:K1) G8 w:=
 FY (Mg R) R G8 w
theorem aaS(kn:K1)(R:K1)(hn:N1 Q kn 8)(hr:HR MR R Q)(h:FY kn R (g 8) w):cP pg IY (aQ 1 (aI 3 Hf)) Q g w:=
 qU 0 (aaR _ g w kn R hn hr h)
def SH(kn:K1)(R:K1) jI eP abU w:=
 aA pg (aD .lss 3 aG aG eP (aOo 10)) w λc2 w=>
 Gd (bK c2 false) (λK=>K eP w) w λc4 w=>
 Gd (bK c2 false) (λK=>aA pg (aD .gtr 3 aG aG c4 (aOo 22)) w K) w λc5 w=>
 aA pg (cD c2 (.bool true) c5) w λc6 w=>
 Gd (bK c6 false) (λK=>K abU w) w λc8 w=>
 Gd (bK c6 false) (λK=>aA pg (aD .lss 3 aG aG c8 (aOo 0)) w K) w λc9 w=>
 aA pg (cD c6 (.bool true) c9) w λd0 w=>
 bQ d0
  (R (.tuple #[(.pointer none),(aOo 1)]) w)
  ((dr w)=(dr w)/\
  aK pg fN #[jI] (dr w) λd2 tD=>
  tD=tD/\
  aA pg (aD .shl 32 aG aG (.int .u64 1) eP) tD λd4 w_=>w_=tD/\
  (dT pg (aD .shl 32 aG aG (.int .u64 1) eP) d4 (dr w)/\True)/\
  tD=tD/\
  aA pg (bH 56 [(0,d2),(1,d4),(2,abU)]) tD λd6 w_=>w_=tD/\
  aA pg (Ba 56 d6) tD λd7 azY=>
  azY=azY/\
  kn d7 azY)
def SI(R:K1) jI eP abU w:=
 SH (CT R) R jI eP abU w
def ahO a0 a1 a2 w(R:K1):=
 SI R a0 a1 a2 w
theorem aeW{a0 a1 a2 w R}(h:ahO a0 a1 a2 w R):aK pg Iu #[a0,a1,a2] w R:=
 lC (ann:=IY) Tryz.f24 Hf [a0,a1,a2] MR 68 TryzM.mixed Tryz.func24 (bZ 3 (Mn (UO (CT R) 8) h (λg w h=>aE (bZ 1 (aaS _ g w (Mg R) R (λg w h=>aE (lX h cO)) cO h))) cO))
def Ru:FA:=⟨gG,λi=> .leaf ([],[]) []⟩
def TY:List ResultVar:=[.tmp 2]
noncomputable def Pw:Code:=aY Tryz.f25
def G4 (R:K1) lY w:=
 aA pg (aD .eql 22 (.tmp 3) (.const (.slice none 0 0)) lY (.slice none 0 0)) w λb4 w=>
 bQ b4
  (R (.slice none 0 0) w)
  (aA pg (bT 22 0 []) w λb5 w=>
  aA pg (dD .append #[22,22] 22 [b5,lY]) w λb7 w=>
  R b7 w)
def LP a0 w(R:K1):=
 G4 R a0 w
theorem Qd{a0 w R}(h:LP a0 w R):aK pg gG #[a0] w R:=
 lC (ann:=Ru) Tryz.f25 Pw [a0] TY 8 TryzM.mixed Tryz.func25 (lX h cO)
def Sc:FA:=⟨eZ,λi=> .leaf ([],[]) []⟩
def Vn:List ResultVar:=[.tmp 0]
noncomputable def Rw:Code:=aY Tryz.f27
def HI(R:K1) w:=
 aA pg (bH 77 []) w λb1 w=>
 aA pg (Ba 77 b1) w λb2 w=>
 R b2 w
def NC w(R:K1):=
 HI R w
theorem RD{w R}(h:NC w R):aK pg eZ #[] w R:=
 lC (ann:=Sc) Tryz.f27 Rw [] Vn 3 TryzM.mixed Tryz.func27 (lX h cO)
def AT:FA:=⟨bA,λi=> .leaf ([],[]) []⟩
def OC:List ResultVar:=[]
noncomputable def Ad:Code:=aY Tryz.f28
def sP(kn:K4)(k0:K0) D3 O5 c7 c8 w:=
 aA pg (aD .lss 3 aG aG c8 c7) w λc9 w=>
 bQ c9
  (aA pg (dS D3) w λd3 w=>
  aA pg (aJ 77 d3 0) w λd4 w=>
  aA pg (aH 22 d4) w λd5 w=>
  aA pg (aD .mul 3 aG aG (aOo 8) c8) w λd8 w=>
  aA pg (cH 3 50 d8) w λd9 w=>
  aA pg (aD .shr 32 aG aG O5 d9) w λe0 w=>
  aA pg (cH 32 5 e0) w λe1 w=>
  aA pg (bT 22 1 [(0,e1)]) w λe2 w=>
  aA pg (dD .append #[22,22] 22 [d5,e2]) w λe3 w=>
  aA pg (dS D3) w λe4 w=>
  aA pg (aJ 77 e4 0) w λe5 w=>
  aA pg (aM 22 e5 e3) w λ_u w=>
  aA pg (aD .add 3 aG aG c8 (aOo 1)) w λe6 w=>
  kn D3 O5 c7 e6 w)
  (k0 w)
def lN(k0:K0) D3 O5 c7 c8 w:=
 aX (λ(X:aOn->K0) (t:aOn) (w:aOm)=>sP (λ_ _ _ c8 w=>X c8 w) k0 D3 O5 c7 t w) c8 w
theorem Je(k0:K0)(h0:E0 Q k0 0)(h:lN k0 (g 0) (g 1) (g 17) (g 18) w):cP pg AT (bI (aI 2 Ad)) Q g w:=by
 refine AR (λg:Env=>g 18) (λX t w=>sP (λ_ _ _ c8 w=>X c8 w) k0 (g 0) (g 1) (g 17) t w) h (λX g1 w1 ha hL=> ?_)
 rw[<-cI 0 ha,<-cI 1 ha,<-cI 17 ha]at hL
 exact(zO [(0,(Mq0 k0))] (kr:=no) (AQ (λ_ _ _ c8 w=>X c8 w) 0 1 17 18) hL cO D1 ⟨h0,trivial⟩)
def Ce(kn:K4)(R:K1) D3 O5 UG w:=
 aA pg (aD .eql 60 (.tmp 7) (.const (.pointer none)) D3 (.pointer none)) w λb8 w=>
 Gd (bK b8 false) (λK=>K UG w) w λc0 w=>
 Gd (bK b8 false) (λK=>aA pg (aD .lss 3 aG aG c0 (aOo 1)) w K) w λc1 w=>
 aA pg (cD b8 (.bool true) c1) w λc2 w=>
 Gd (bK c2 false) (λK=>K UG w) w λc4 w=>
 Gd (bK c2 false) (λK=>aA pg (aD .gtr 3 aG aG c4 (aOo 8)) w K) w λc5 w=>
 aA pg (cD c2 (.bool true) c5) w λc6 w=>
 bQ c6
  (R (.tuple #[]) w)
  (kn D3 O5 UG (aOo 0) w)
def Cf(kn:K0)(R:K1) D3 O5 UG w:=
 Ce (lN kn) R D3 O5 UG w
def Gv a0 a1 a2 w(R:K1):=
 Cf (λw=>R (.tuple #[]) w) R a0 a1 a2 w
theorem KU{a0 a1 a2 w R}(h:Gv a0 a1 a2 w R):aK pg bA #[a0,a1,a2] w R:=
 lC (ann:=AT) Tryz.f28 Ad [a0,a1,a2] OC 37 TryzM.mixed Tryz.func28 (bZ 2 (Mn (AQ (lN (λw=>R (.tuple #[]) w)) 0 1 17 18) h (λg w h=>aE (qU 0 (Je _ g w (λw=>R (.tuple #[]) w) cO h))) cO))
def Rn:FA:=⟨eJ,λi=> .leaf ([],[]) []⟩
def TP:List ResultVar:=[.tmp 2]
noncomputable def Pp:Code:=aY Tryz.f29
def Gw(R:K1) D3 w:=
 aA pg (aD .eql 60 (.tmp 3) (.const (.pointer none)) D3 (.pointer none)) w λb4 w=>
 bQ b4
  (R (.slice none 0 0) w)
  (aA pg (dS D3) w λb6 w=>
  aA pg (aJ 77 b6 0) w λb7 w=>
  aA pg (aH 22 b7) w λb8 w=>
  aK pg gG #[b8] w λb9 w=>
  R b9 w)
def Lo a0 w(R:K1):=
 Gw R a0 w
theorem Pz{a0 w R}(h:Lo a0 w R):aK pg eJ #[a0] w R:=
 lC (ann:=Rn) Tryz.f29 Pp [a0] TP 10 TryzM.mixed Tryz.func29 (lX h cO)
def aaA:FA:=⟨xY,λi=> .leaf ([],[]) []⟩
def afR:List ResultVar:=[.tmp 2]
noncomputable def Ye:Code:=aY Tryz.f30
def QB(R:K1) jI w:=
 aA pg (Ba 22 jI) w λD5 w=>
 aA pg (aH 22 D5) w λb3 w=>
 aA pg (dD .len #[22] 3 [b3]) w λb4 w=>
 aA pg (aD .gtr 3 aG aG b4 (aOo 0)) w λb5 w=>
 Gd (bK b5 true) (λK=>aA pg (aH 22 D5) w K) w λb7 w=>
 Gd (bK b5 true) (λK=>aA pg (ajT (.func 43) [] [D5]) w K) w λb8 w=>
 Gd (bK b5 true) (λK=>aK pg nJ #[b7,b8] w K) w λb9 w=>
 Gd (bK b5 true) (λK=>aA pg (sUn .not b9) w K) w λc0 w=>
 aA pg (cD b5 c0 (.bool false)) w λc1 w=>
 R c1 w
def Ys a0 w(R:K1):=
 QB R a0 w
theorem Yt{a0 w R}(h:Ys a0 w R):aK pg xY #[a0] w R:=
 lC (ann:=aaA) Tryz.f30 Ye [a0] afR 12 TryzM.mixed Tryz.func30 (lX h cO)
def CJ:FA:=⟨Bh,λi=>match Nat.beq i 3 with|true=> .leaf ([3],[]) (fz 3 (ft [] (fz 1 [])))|false=>match Nat.beq i 16 with|true=> .leaf ([3],[]) (fz 3 (ft [] (fz 1 [])))|false=>match Nat.beq i 19 with|true=> .leaf ([3],[]) (fz 3 (ft [] (fz 1 [])))|false=>match Nat.beq i 20 with|true=> .leaf ([2,3,6],[(2,4),(3,4)]) (fz 2 (ft [] (ft [] (fu [0,1] (fz 1 (ft [] (fz 1 [])))))))|false=> .leaf ([],[]) []⟩
def acI:List ResultVar:=[.tmp 10,.cell 11 45,.tmp 12]
noncomputable def BH:Code:=aY Tryz.f31
def zM(R:K1) jI b2 KP c1 Xk kH Ca w:=
 aA pg (bP 22 jI (some Ca) (some b2) none) w λm0 w=>
 aA pg (dD .append #[22,22] 22 [kH,m0]) w λm1 w=>
 aK pg zC #[m1] w λm4 w=>
 aA pg (aV m4 0) w λm5 w=>
 aA pg (aV m4 1) w λm6 w=>
 aA pg (aD .neq 24 (.tmp 87) (.const (aOo 0)) m6 (aOo 0)) w λm8 w=>
 bQ m8
  (aA pg (aH 45 KP) (dr w) λm9 w_=>w_=(dr w)/\
  (dr w)=(dr w)/\
  (dr w)=(dr w)/\
  aA pg (aM 45 c1 m9) (dr w) λ_u3 aBd=>
  aBd=aBd/\
  vV pg 45 c1 aBd λr1=>R (.tuple #[(.slice none 0 0),r1,m6]) aBd)
  (aK pg wW #[Xk] w λn3 w=>
  aA pg (aV n3 0) w λn4 w=>
  aA pg (aV n3 1) w λn5 w=>
  aA pg (aD .neq 24 (.tmp 96) (.const (aOo 0)) n5 (aOo 0)) w λn7 w=>
  bQ n7
   (aA pg (aH 45 KP) (dr w) λn8 w_=>w_=(dr w)/\
   (dr w)=(dr w)/\
   (dr w)=(dr w)/\
   aA pg (aM 45 c1 n8) (dr w) λ_u3 aBf=>
   aBf=aBf/\
   vV pg 45 c1 aBf λr1=>R (.tuple #[(.slice none 0 0),r1,n5]) aBf)
   ((dr w)=(dr w)/\
   (dr w)=(dr w)/\
   aA pg (bT 137 2 [(0,m5),(1,n4)]) (dr w) λo2 aHA=>
   aK pg pS #[o2] aHA λo3 awH=>
   aA pg (aH 45 KP) awH λo4 w_=>w_=awH/\
   (dT pg (aH 45 KP) o4 aHA/\dT pg (aH 45 KP) o4 (dr w)/\True)/\
   awH=awH/\
   aA pg (aM 45 c1 o4) awH λ_u6 aBg=>
   aBg=aBg/\
   vV pg 45 c1 aBg λr1=>R (.tuple #[o3,r1,(aOo 0)]) aBg))
def sQ(kn:Z3)(k0:K7) jI b2 KP c1 Xk kH Ca e6 e7 e8 w:=
 aA pg (aD .lss 3 aG aG e8 e7) w λe9 w=>
 bQ e9
  (aA pg (aO 80 e6 e8) w λf1 w=>
  aA pg (aH 84 f1) w λf2 w=>
  aA pg (bG 84) w λaCy w=>
  aA pg (aM 84 aCy f2) w λ_u w=>
  aA pg (aJ 84 aCy 0) w λf7 w=>
  aA pg (aH 38 f7) w λf8 w=>
  aA pg (cH 38 3 f8) w λf9 w=>
  aA pg (aD .add 3 aG aG Ca f9) w λi0 w=>
  aA pg (bP 22 jI (some Ca) (some i0) none) w λi1 w=>
  aA pg (dD .append #[22,22] 22 [kH,i1]) w λi2 w=>
  aA pg (aJ 84 aCy 0) w λi4 w=>
  aA pg (aH 38 i4) w λi5 w=>
  aA pg (cH 38 3 i5) w λi6 w=>
  aA pg (aJ 84 aCy 1) w λi7 w=>
  aA pg (aH 38 i7) w λi8 w=>
  aA pg (cH 38 3 i8) w λi9 w=>
  aA pg (aD .add 3 aG aG i6 i9) w λj0 w=>
  aA pg (aD .add 3 aG aG Ca j0) w λj1 w=>
  aA pg (aH 45 KP) w λj5 w=>
  aA pg (aJ 84 aCy 0) w λj6 w=>
  aA pg (aH 38 j6) w λj7 w=>
  aA pg (aJ 84 aCy 2) w λj8 w=>
  aA pg (aH 38 j8) w λj9 w=>
  aK pg Ct #[j5,j7,j9] w λl0 w=>
  aA pg (aV l0 0) w λl1 w=>
  aA pg (aV l0 1) w λl2 w=>
  aA pg (aO 80 Xk e8) w λl3 w=>
  aA pg (aJ 84 l3 2) w λl4 w=>
  aA pg (aM 38 l4 l1) w λ_u w=>
  aA pg (aM 45 KP l2) w λ_u w=>
  aA pg (aD .add 3 aG aG e8 (aOo 1)) w λl5 w=>
  kn jI b2 KP c1 Xk i2 j1 e6 e7 l5 w)
  (k0 jI b2 KP c1 Xk kH Ca w)
def zN(k0:K7) jI b2 KP c1 Xk kH Ca e6 e7 e8 w:=
 aX (λ(X:(aOn×aOn×aOn)->K0) (t:aOn×aOn×aOn) (w:aOm)=>sQ (λ_ _ _ _ _ kH Ca _ _ e8 w=>X (kH,Ca,e8) w) k0 jI b2 KP c1 Xk t.1 t.2.1 e6 e7 t.2.2 w) (kH,Ca,e8) w
theorem U8 (k0:K7)(h0:E7 Q k0 0 0 2 9 11 13 16 17)(h:zN k0 (g 0) (g 2) (g 9) (g 11) (g 13) (g 16) (g 17) (g 36) (g 37) (g 38) w):cP pg CJ (bI (aI 1 (aQ 1 (aI 5 BH)))) Q g w:=by
 refine AR (λg:Env=>(g 16,g 17,g 38)) (λX t w=>sQ (λ_ _ _ _ _ kH Ca _ _ e8 w=>X (kH,Ca,e8) w) k0 (g 0) (g 2) (g 9) (g 11) (g 13) t.1 t.2.1 (g 36) (g 37) t.2.2 w) h (λX g1 w1 ha hL=> ?_)
 rw[<-cI 0 ha,<-cI 2 ha,<-cI 9 ha,<-cI 11 ha,<-cI 13 ha,<-cI 36 ha,<-cI 37 ha]at hL
 exact(zO [(0,(KQ k0 0 2 9 11 13 16 17))] (kr:=no) (X1 (λ_ _ _ _ _ kH Ca _ _ e8 w=>X (kH,Ca,e8) w) 0 2 9 11 13 16 17 36 37 38) hL cO D1 ⟨h0,trivial⟩)
def NQ(kn:Z3) jI b2 KP c1 Xk kH Ca w:=
 aA pg (dD .len #[80] 3 [Xk]) w λe7 w=>
 kn jI b2 KP c1 Xk kH Ca Xk e7 (aOo 0) w
def EO(kn:K7) jI b2 KP c1 Xk kH Ca w:=
 NQ (zN kn) jI b2 KP c1 Xk kH Ca w
def EP(R:K1) jI b2 KP c1 Xk kH Ca w:=
 EO (zM R) jI b2 KP c1 Xk kH Ca w
theorem U9 (kn:K7)(hn:N7 Q kn 0 2 9 11 13 16 17)(h:EO kn (g 0) (g 2) (g 9) (g 11) (g 13) (g 16) (g 17) w):cP pg CJ (aQ 1 (aI 5 BH)) Q g w:=
 bZ 1 (eM (X1 (zN kn) 0 2 9 11 13 16 17 36 37 38) h (λg w h=>aE (qU 0 (U8 _ g w kn hn h))))
def NR(kn:K7)(R:K1) jI eQ b2 bB r_4 w:=
 aA pg (Ba 45 r_4) w λKP w=>
 aA pg (bG 45) w λc1 w=>
 aK pg Cz #[jI,eQ,b2,bB] w λd7 w=>
 aA pg (aV d7 0) w λd8 w=>
 aA pg (aV d7 1) w λd9 w=>
 aA pg (aV d7 2) w λe0 w=>
 aA pg (aD .neq 24 (.tmp 31) (.const (aOo 0)) e0 (aOo 0)) w λe2 w=>
 bQ e2
  (aA pg (aH 45 KP) (dr w) λe3 w_=>w_=(dr w)/\
  (dr w)=(dr w)/\
  (dr w)=(dr w)/\
  aA pg (aM 45 c1 e3) (dr w) λ_u3 XM=>
  XM=XM/\
  vV pg 45 c1 XM λr1=>R (.tuple #[(.slice none 0 0),r1,e0]) XM)
  (kn jI b2 KP c1 d8 (.slice none 0 0) eQ w)
def NS(R:K1) jI eQ b2 bB r_4 w:=
 NR (EP R) R jI eQ b2 bB r_4 w
def VS a0 a1 a2 a3 a4 w(R:K1):=
 NS R a0 a1 a2 a3 a4 w
theorem Xf{a0 a1 a2 a3 a4 w R}(h:VS a0 a1 a2 a3 a4 w R):aK pg Bh #[a0,a1,a2,a3,a4] w R:=
 lC (ann:=CJ) Tryz.f31 BH [a0,a1,a2,a3,a4] acI 105 TryzM.mixed Tryz.func31 (bZ 5 (Mn (KQ (EP R) 0 2 9 11 13 16 17) h (λg w h=>aE (bZ 1 (U9 _ g w (zM R) (λg w h=>aE (lX h cO)) h))) cO))
def Se:FA:=⟨tI,λi=> .leaf ([],[]) []⟩
def Vp:List ResultVar:=[.tmp 2,.tmp 3]
noncomputable def Ry:Code:=aY Tryz.f32
def rO(R:K1) n_4 w:=
 aK pg eZ #[] w λe5 w=>
 aA pg (cH 3 32 n_4) w λe8 w=>
 aK pg bA #[e5,e8,(aOo 3)] w λe9 w=>
 aK pg eJ #[e5] w λf1 w=>
 R (.tuple #[f1,(aOo 0)]) w
def HV(kn:K1)(R:K1) fY w:=
 aA pg (Ba 65 fY) w λO5 w=>
 aA pg (aJ 65 O5 1) w λb6 w=>
 aA pg (aH 3 b6) w λb7 w=>
 aA pg (aD .lss 3 aG aG b7 (aOo 0)) w λb8 w=>
 Gd (bK b8 false) (λK=>aA pg (aJ 65 O5 1) w K) w λc0 w=>
 Gd (bK b8 false) (λK=>aA pg (aH 3 c0) w K) w λc1 w=>
 Gd (bK b8 false) (λK=>aA pg (aD .gtr 3 aG aG c1 (aOo 2)) w K) w λc2 w=>
 aA pg (cD b8 (.bool true) c2) w λc3 w=>
 Gd (bK c3 false) (λK=>aA pg (aJ 65 O5 2) w K) w λc5 w=>
 Gd (bK c3 false) (λK=>aA pg (aH 3 c5) w K) w λc6 w=>
 Gd (bK c3 false) (λK=>aA pg (aD .lss 3 aG aG c6 (aOo 0)) w K) w λc7 w=>
 aA pg (cD c3 (.bool true) c7) w λc8 w=>
 Gd (bK c8 false) (λK=>aA pg (aJ 65 O5 2) w K) w λd0 w=>
 Gd (bK c8 false) (λK=>aA pg (aH 3 d0) w K) w λd1 w=>
 Gd (bK c8 false) (λK=>aA pg (aD .geq 3 aG aG d1 (aOo 2097152)) w K) w λd2 w=>
 aA pg (cD c8 (.bool true) d2) w λd3 w=>
 bQ d3
  (R (.tuple #[(.slice none 0 0),(aOo 1)]) w)
  (aA pg (aJ 65 O5 2) w λd4 w=>
  aA pg (aH 3 d4) w λd5 w=>
  aA pg (aD .shl 3 aG aG d5 (.int .u64 3)) w λd6 w=>
  aA pg (aJ 65 O5 1) w λd7 w=>
  aA pg (aH 3 d7) w λd8 w=>
  aA pg (aD .shl 3 aG aG d8 (.int .u64 1)) w λd9 w=>
  aA pg (aD .or 3 aG aG d6 d9) w λe0 w=>
  aA pg (aJ 65 O5 0) w λe1 w=>
  aA pg (aH 4 e1) w λe2 w=>
  bQ e2
   (aA pg (aD .or 3 aG aG e0 (aOo 1)) w λe4 w=>
   kn e4 w)
   (kn e0 w))
def HW(R:K1) fY w:=
 HV (rO R) R fY w
def Ob a0 w(R:K1):=
 HW R a0 w
theorem RG{a0 w R}(h:Ob a0 w R):aK pg tI #[a0] w R:=
 lC (ann:=Se) Tryz.f32 Ry [a0] Vp 42 TryzM.mixed Tryz.func32 (bZ 4 (Mn (UO (rO R) 4) h (λg w h=>aE (lX h cO)) cO))
def asH:FA:=⟨UA,λi=> .leaf ([],[]) []⟩
def azK:List ResultVar:=[.tmp 0]
noncomputable def aoO:Code:=aY Tryz.f33
def akK(R:K1) w:=
 aA pg (aD .add 32 aG aG (.int .u64 11400714785074694791) (.int .u64 14029467366897019727)) w λb3 w=>
 aA pg (sUn .neg (.int .u64 11400714785074694791)) w λb5 w=>
 aA pg (bH 90 [(0,b3),(1,(.int .u64 14029467366897019727)),(2,(.int .u64 0)),(3,b5)]) w λb6 w=>
 aA pg (bH 93 [(0,b6)]) w λb7 w=>
 aA pg (Ba 93 b7) w λb8 w=>
 R b8 w
def aBl w(R:K1):=
 akK R w
theorem arF{w R}(h:aBl w R):aK pg UA #[] w R:=
 lC (ann:=asH) Tryz.f33 aoO [] azK 9 TryzM.mixed Tryz.func33 (lX h cO)
def tO:FA:=⟨zE,λi=>match Nat.beq i 3 with|true=> .leaf ([9],[]) (fz 9 (ft [] (fz 1 [])))|false=>match Nat.beq i 10 with|true=> .leaf ([17,18,22],[(4,17),(5,17),(6,17),(7,17),(17,19),(17,20),(18,19),(18,20)]) (fz 17 (ft [9,10,11,12] (ft [] (fu [0,1] (fu [1,2] (fz 1 (ft [] [])))))))|false=> .leaf ([],[]) []⟩
def ZE:List ResultVar:=[]
noncomputable def rM:Code:=aY Tryz.f34
def qQ(kn:K2) uY D5 w:=
 aA pg (dS uY) w λl4 w=>
 aA pg (aJ 93 l4 2) w λl5 w=>
 aA pg (aM 3 l5 (aOo 0)) w λ_u w=>
 kn uY D5 w
def xR(kn:K3)(k2:K2) uY D5 f7 w:=
 aA pg (aD .lss 3 aG aG f7 (aOo 4)) w λf8 w=>
 bQ f8
  ((dr w)=(dr w)/\
  (dr w)=(dr w)/\
  (dr w)=(dr w)/\
  (dr w)=(dr w)/\
  aA pg (dS uY) (dr w) λi4 w_=>w_=(dr w)/\
  aA pg (aJ 93 i4 0) (dr w) λi5 w_=>w_=(dr w)/\
  aA pg (aO 90 i5 f7) (dr w) λi6 w_=>w_=(dr w)/\
  aA pg (aH 32 i6) (dr w) λi7 w_=>w_=(dr w)/\
  (dr w)=(dr w)/\
  aA pg (dS uY) (dr w) λi9 w_=>w_=(dr w)/\
  aA pg (aJ 93 i9 1) (dr w) λj0 w_=>w_=(dr w)/\
  (dr w)=(dr w)/\
  aA pg (aD .mul 3 aG aG (aOo 8) f7) (dr w) λj2 w_=>w_=(dr w)/\
  (dr w)=(dr w)/\
  aA pg (aD .mul 3 aG aG (aOo 8) f7) (dr w) λj4 w_=>w_=(dr w)/\
  aA pg (aD .add 3 aG aG j4 (aOo 8)) (dr w) λj5 w_=>w_=(dr w)/\
  aA pg (bP 91 j0 (some j2) (some j5) none) (dr w) λj6 w_=>w_=(dr w)/\
  aK pg zF #[j6] (dr w) λj7 XK=>
  (dT pg (aH 32 i6) i7 XK/\dT pg (aO 90 i5 f7) i6 XK/\dT pg (aJ 93 i4 0) i5 XK/\dT pg (dS uY) i4 XK/\True)/\
  aK pg B8 #[i7,j7] XK λj8 XL=>
  aA pg (dS uY) XL λj9 w_=>w_=XL/\
  (dT pg (dS uY) j9 XK/\dT pg (dS uY) j9 (dr w)/\True)/\
  aA pg (aJ 93 j9 0) XL λl0 w_=>w_=XL/\
  (dT pg (aJ 93 j9 0) l0 XK/\dT pg (aJ 93 j9 0) l0 (dr w)/\True)/\
  aA pg (aO 90 l0 f7) XL λl1 w_=>w_=XL/\
  aA pg (aM 32 l1 j8) XL λ_u22 aIR=>
  aA pg (aD .add 3 aG aG f7 (aOo 1)) aIR λl2 w=>
  kn uY D5 l2 w)
  (k2 uY D5 w)
def qR(k2:K2) uY D5 f7 w:=
 aX (λ(X:aOn->K0) (t:aOn) (w:aOm)=>xR (λ_ _ f7 w=>X f7 w) k2 uY D5 t w) f7 w
theorem Uw(k2:K2)(h2:E2 Q k2 2 0 1)(h:qR k2 (g 0) (g 1) (g 47) w):cP pg tO (bI (aI 1 (aQ 1 (cT (aI 4 (bI (aI 1 (bI (bI (aI 2 rM)))))))))) Q g w:=by
 refine AR (λg:Env=>g 47) (λX t w=>xR (λ_ _ f7 w=>X f7 w) k2 (g 0) (g 1) t w) h (λX g1 w1 ha hL=> ?_)
 rw[<-cI 0 ha,<-cI 1 ha]at hL
 exact(zO [(2,(Lg k2 0 1))] (kr:=no) (UB (λ_ _ f7 w=>X f7 w) 0 1 47) hL cO D1 ⟨h2,trivial⟩)
def LY(kn:K3) uY D5 w:=
 kn uY D5 (aOo 0) w
def xS(kn:K2) uY D5 w:=
 LY (qR kn) uY D5 w
def xT(kn:K2) uY D5 w:=
 xS (qQ kn) uY D5 w
theorem Ux(kn:K2)(hn:N2 Q kn 0 1)(h:xS kn (g 0) (g 1) w):cP pg tO (aQ 1 (cT (aI 4 (bI (aI 1 (bI (bI (aI 2 rM)))))))) Q g w:=
 bZ 1 (eM (UB (qR kn) 0 1 47) h (λg w h=>aE (qU 2 (Uw _ g w kn hn h))))
def xU(kn:K2) uY D5 w:=
 kn uY D5 w
def qS(kn:K2) uY D5 f6 w:=
 bQ f6 (xT kn uY D5 w) (xU kn uY D5 w)
def uU(kn:K3) uY D5 w:=
 (dr w)=(dr w)/\
 aA pg (dS uY) (dr w) λd2 w_=>w_=(dr w)/\
 aA pg (aJ 93 d2 1) (dr w) λd3 w_=>w_=(dr w)/\
 (dr w)=(dr w)/\
 aA pg (dS uY) (dr w) λd5 w_=>w_=(dr w)/\
 aA pg (aJ 93 d5 2) (dr w) λd6 w_=>w_=(dr w)/\
 aA pg (aH 3 d6) (dr w) λd7 w_=>w_=(dr w)/\
 aA pg (bP 91 d3 (some d7) none none) (dr w) λd8 w_=>w_=(dr w)/\
 (dr w)=(dr w)/\
 aA pg (dD .copy #[22,22] 3 [d8,D5]) (dr w) λe0 aIV=>
 aIV=aIV/\
 aA pg (dS uY) aIV λe2 w=>
 aA pg (aJ 93 e2 2) w λe3 w=>
 aA pg (aH 3 e3) w λe4 w=>
 aA pg (aD .add 3 aG aG e4 e0) w λe6 w=>
 aA pg (dS uY) w λe7 w=>
 aA pg (aJ 93 e7 2) w λe8 w=>
 aA pg (aM 3 e8 e6) w λ_u w=>
 aA pg (bP 22 D5 (some e0) none none) w λf1 w=>
 aA pg (dS uY) w λf3 w=>
 aA pg (aJ 93 f3 2) w λf4 w=>
 aA pg (aH 3 f4) w λf5 w=>
 aA pg (aD .eql 3 (.tmp 45) (.const (aOo 32)) f5 (aOo 32)) w λf6 w=>
 kn uY f1 f6 w
def fT(kn:K2) uY D5 w:=
 uU (qS kn) uY D5 w
def uV(kn:K2)(k0:K0) uY D5 w:=
 aA pg (dD .len #[22] 3 [D5]) w λc9 w=>
 aA pg (aD .gtr 3 aG aG c9 (aOo 0)) w λd0 w=>
 bQ d0
  (kn uY D5 w)
  (k0 w)
def oH(kn:K2)(k0:K0) uY D5 w:=
 uV (fT kn) k0 uY D5 w
def kM(k0:K0) uY D5 w:=
 aX (λ(X:aOn->K0) (t:aOn) (w:aOm)=>oH (λ_ D5 w=>X D5 w) k0 uY t w) D5 w
theorem R5 (k0:K0)(h0:E0 Q k0 0)(h:kM k0 (g 0) (g 1) w):cP pg tO (bI (aI 2 rM)) Q g w:=by
 refine AR (λg:Env=>g 1) (λX t w=>oH (λ_ D5 w=>X D5 w) k0 (g 0) t w) h (λX g1 w1 ha hL=> ?_)
 rw[<-cI 0 ha]at hL
 exact(bZ 1 (zO [(0,(Mq0 k0))] (kr:=no) (Lg (fT (λ_ D5 w=>X D5 w)) 0 1) hL (λg w h=>aE (qU 1 (bZ 4 (eM (UB (qS (λ_ D5 w=>X D5 w)) 0 1 46) h (λg w h=>aE (cdD (.tmp 46) (λh=>(bZ 1 (Ux _ g w (qQ (λ_ D5 w=>X D5 w)) (λg w h=>aE (eM (Lg (λ_ D5 w=>X D5 w) 0 1) h cO)) h))) (λh=>(eM (Lg (λ_ D5 w=>X D5 w) 0 1) h cO)) h)))))) D1 ⟨h0,trivial⟩))
def KM(kn:K2)(R:K1) uY D5 w:=
 aA pg (aD .eql 68 (.tmp 6) (.const (.pointer none)) uY (.pointer none)) w λb7 w=>
 bQ b7
  (R (.tuple #[]) w)
  (aA pg (dS uY) w λb9 w=>
  aA pg (aJ 93 b9 3) w λc0 w=>
  aA pg (aH 32 c0) w λc1 w=>
  aA pg (dD .len #[22] 3 [D5]) w λc3 w=>
  aA pg (cH 3 32 c3) w λc4 w=>
  aA pg (aD .add 32 aG aG c1 c4) w λc5 w=>
  aA pg (dS uY) w λc6 w=>
  aA pg (aJ 93 c6 3) w λc7 w=>
  aA pg (aM 32 c7 c5) w λ_u w=>
  kn uY D5 w)
def KN(kn:K0)(R:K1) uY D5 w:=
 KM (kM kn) R uY D5 w
def Uv a0 a1 w(R:K1):=
 KN (λw=>R (.tuple #[]) w) R a0 a1 w
theorem VD{a0 a1 w R}(h:Uv a0 a1 w R):aK pg zE #[a0,a1] w R:=
 lC (ann:=tO) Tryz.f34 rM [a0,a1] ZE 76 TryzM.mixed Tryz.func34 (bZ 2 (Mn (Lg (kM (λw=>R (.tuple #[]) w)) 0 1) h (λg w h=>aE (qU 0 (R5 _ g w (λw=>R (.tuple #[]) w) cO h))) cO))
def sI:FA:=⟨CE,λi=>match Nat.beq i 3 with|true=> .leaf ([1],[(1,3),(1,4),(1,5)]) (fz 1 (ft [] (fz 1 (fu [1] (fu [2] (fu [3] (fz 2 [])))))))|false=>match Nat.beq i 4 with|true=> .leaf ([],[]) (fz 9 [])|false=> .leaf ([],[]) []⟩
def afZ:List ResultVar:=[.tmp 2]
noncomputable def qA:Code:=aY Tryz.f35
def lU(R:K1) pF w:=
 aA pg (aD .shr 32 aG aG pF (.int .u64 33)) w λj9 w=>
 aA pg (aD .xor 32 aG aG pF j9) w λl0 w=>
 aA pg (aD .mul 32 aG aG l0 (.int .u64 14029467366897019727)) w λl1 w=>
 aA pg (aD .shr 32 aG aG l1 (.int .u64 29)) w λl4 w=>
 aA pg (aD .xor 32 aG aG l1 l4) w λl5 w=>
 aA pg (aD .mul 32 aG aG l5 (.int .u64 1609587929392839161)) w λl6 w=>
 aA pg (aD .shr 32 aG aG l6 (.int .u64 32)) w λl9 w=>
 aA pg (aD .xor 32 aG aG l6 l9) w λm0 w=>
 R m0 w
def BB(kn:K4)(k2:K1) pF i3 i4 i5 w:=
 aA pg (aD .lss 3 aG aG i5 i4) w λi6 w=>
 bQ i6
  (aA pg (aO 22 i3 i5) w λi7 w=>
  aA pg (aH 5 i7) w λi8 w=>
  aA pg (cH 5 32 i8) w λj1 w=>
  aA pg (aD .mul 32 aG aG j1 (.int .u64 2870177450012600261)) w λj2 w=>
  aA pg (aD .xor 32 aG aG pF j2) w λj3 w=>
  aK pg dG #[j3,(aOo 11)] w λj4 w=>
  aA pg (aD .mul 32 aG aG j4 (.int .u64 11400714785074694791)) w λj5 w=>
  aA pg (aD .add 3 aG aG i5 (aOo 1)) w λj6 w=>
  kn j5 i3 i4 j6 w)
  (k2 pF w)
def iB(k2:K1) pF i3 i4 i5 w:=
 aX (λ(X:(aOn×aOn)->K0) (t:aOn×aOn) (w:aOm)=>BB (λpF _ _ i5 w=>X (pF,i5) w) k2 t.1 i3 i4 t.2 w) (pF,i5) w
theorem XS(k2:K1)(h2:E1 Q k2 2 3)(h:iB k2 (g 3) (g 53) (g 54) (g 55) w):cP pg sI (bI (aI 1 (aQ 1 (aI 1 (aI 1 (aI 4 qA)))))) Q g w:=by
 refine AR (λg:Env=>(g 3,g 55)) (λX t w=>BB (λpF _ _ i5 w=>X (pF,i5) w) k2 t.1 (g 53) (g 54) t.2 w) h (λX g1 w1 ha hL=> ?_)
 rw[<-cI 53 ha,<-cI 54 ha]at hL
 exact(zO [(2,(UO k2 3))] (kr:=no) (AQ (λpF _ _ i5 w=>X (pF,i5) w) 3 53 54 55) hL cO D1 ⟨h2,trivial⟩)
def pN(kn:K4) pF Z4 w:=
 aA pg (dD .len #[22] 3 [Z4]) w λi4 w=>
 kn pF Z4 i4 (aOo 0) w
def lV(kn:K1) pF Z4 w:=
 pN (iB kn) pF Z4 w
def jT(R:K1) pF Z4 w:=
 lV (lU R) pF Z4 w
theorem XT(kn:K1)(hn:N1 Q kn 3)(h:lV kn (g 3) (g 4) w):cP pg sI (aQ 1 (aI 1 (aI 1 (aI 4 qA)))) Q g w:=
 bZ 1 (eM (AQ (iB kn) 3 53 54 55) h (λg w h=>aE (qU 2 (XS _ g w kn hn h))))
def lW(kn:K2) pF Z4 w:=
 aA pg (dD .len #[22] 3 [Z4]) w λf0 w=>
 aA pg (aD .geq 3 aG aG f0 (aOo 4)) w λf1 w=>
 bQ f1
  (aA pg (bP 22 Z4 none (some (aOo 4)) none) w λf4 w=>
  aK pg zF #[f4] w λf5 w=>
  aA pg (aD .mul 32 aG aG f5 (.int .u64 11400714785074694791)) w λf6 w=>
  aA pg (aD .xor 32 aG aG pF f6) w λf7 w=>
  aK pg dG #[f7,(aOo 23)] w λf8 w=>
  aA pg (aD .mul 32 aG aG f8 (.int .u64 14029467366897019727)) w λf9 w=>
  aA pg (aD .add 32 aG aG f9 (.int .u64 1609587929392839161)) w λi0 w=>
  aA pg (bP 22 Z4 (some (aOo 4)) none none) w λi2 w=>
  kn i0 i2 w)
  (kn pF Z4 w)
def jU(R:K1) pF Z4 w:=
 lW (jT R) pF Z4 w
def Ab(kn:K2)(k0:K2) pF Z4 w:=
 aA pg (dD .len #[22] 3 [Z4]) w λd6 w=>
 aA pg (aD .geq 3 aG aG d6 (aOo 8)) w λd7 w=>
 bQ d7
  (aA pg (bP 22 Z4 none (some (aOo 8)) none) w λe0 w=>
  aK pg zF #[e0] w λe1 w=>
  aK pg B8 #[(.int .u64 0),e1] w λe2 w=>
  aA pg (aD .xor 32 aG aG pF e2) w λe3 w=>
  aK pg dG #[e3,(aOo 27)] w λe4 w=>
  aA pg (aD .mul 32 aG aG e4 (.int .u64 11400714785074694791)) w λe5 w=>
  aA pg (aD .add 32 aG aG e5 (.int .u64 9650029242287828579)) w λe6 w=>
  aA pg (bP 22 Z4 (some (aOo 8)) none none) w λe8 w=>
  kn e6 e8 w)
  (k0 pF Z4 w)
def jD(k0:K2) pF Z4 w:=
 aX (λ(X:(aOn×aOn)->K0) (t:aOn×aOn) (w:aOm)=>Ab (λpF Z4 w=>X (pF,Z4) w) k0 t.1 t.2 w) (pF,Z4) w
theorem VB(k0:K2)(h0:E2 Q k0 0 3 4)(h:jD k0 (g 3) (g 4) w):cP pg sI (bI (aQ 1 (aI 4 qA))) Q g w:=by
 refine AR (λg:Env=>(g 3,g 4)) (λX t w=>Ab (λpF Z4 w=>X (pF,Z4) w) k0 t.1 t.2 w) h (λX g1 w1 ha hL=> ?_)
 exact(zO [(0,(Lg k0 3 4))] (kr:=no) (Lg (λpF Z4 w=>X (pF,Z4) w) 3 4) hL cO D1 ⟨h0,trivial⟩)
def jE(R:K1) pF Z4 w:=
 jD (jU R) pF Z4 w
theorem VC(kn:K2)(hn:N2 Q kn 3 4)(h:jD kn (g 3) (g 4) w):cP pg sI (aQ 1 (aI 4 qA)) Q g w:=
 qU 0 (VB _ g w kn hn h)
def nG(kn:K2)(R:K1) uY w:=
 aA pg (aD .eql 68 (.tmp 7) (.const (.pointer none)) uY (.pointer none)) w λb8 w=>
 bQ b8
  (aK pg Na #[(.slice none 0 0)] w λb9 w=>
  R b9 w)
  ((dr w)=(dr w)/\
  aK pg xA #[uY] (dr w) λc1 tD=>
  tD=tD/\
  aA pg (dS uY) tD λc3 w_=>w_=tD/\
  (dT pg (dS uY) c3 (dr w)/\True)/\
  aA pg (aJ 93 c3 3) tD λc4 w_=>w_=tD/\
  (dT pg (aJ 93 c3 3) c4 (dr w)/\True)/\
  aA pg (aH 32 c4) tD λc5 w_=>w_=tD/\
  (dT pg (aH 32 c4) c5 (dr w)/\True)/\
  aA pg (aD .add 32 aG aG c1 c5) tD λc6 w_=>w_=tD/\
  tD=tD/\
  (dr tD)=(dr tD)/\
  aA pg (dS uY) (dr tD) λc8 w_=>w_=(dr tD)/\
  aA pg (aJ 93 c8 1) (dr tD) λc9 w_=>w_=(dr tD)/\
  (dr tD)=(dr tD)/\
  aA pg (dS uY) (dr tD) λd1 w_=>w_=(dr tD)/\
  aA pg (aJ 93 d1 2) (dr tD) λd2 w_=>w_=(dr tD)/\
  aA pg (aH 3 d2) (dr tD) λd3 w_=>w_=(dr tD)/\
  aA pg (bP 91 c9 none (some d3) none) (dr tD) λd4 w_=>w_=(dr tD)/\
  (dr tD)=(dr tD)/\
  kn c6 d4 (dr tD))
def nH(R:K1) uY w:=
 nG (jE R) R uY w
def ZY a0 w(R:K1):=
 nH R a0 w
theorem ZZ{a0 w R}(h:ZY a0 w R):aK pg CE #[a0] w R:=
 lC (ann:=sI) Tryz.f35 qA [a0] afZ 81 TryzM.mixed Tryz.func35 (bZ 4 (Mn (Lg (jE R) 3 4) h (λg w h=>aE (bZ 1 (VC _ g w (jU R) (λg w h=>aE (bZ 1 (eM (Lg (jT R) 3 4) h (λg w h=>aE (bZ 1 (XT _ g w (lU R) (λg w h=>aE (lX h cO)) h)))))) h))) cO))
def Sb:FA:=⟨fN,λi=> .leaf ([],[]) []⟩
def Vm:List ResultVar:=[.tmp 2]
noncomputable def Rv:Code:=aY Tryz.f36
def HH(R:K1) jI w:=
 aK pg gG #[jI] w λb4 w=>
 aA pg (bH 97 [(0,b4)]) w λb5 w=>
 aA pg (Ba 97 b5) w λb6 w=>
 R b6 w
def NB a0 w(R:K1):=
 HH R a0 w
theorem RC{a0 w R}(h:NB a0 w R):aK pg fN #[a0] w R:=
 lC (ann:=Sb) Tryz.f36 Rv [a0] Vm 7 TryzM.mixed Tryz.func36 (lX h cO)
def Pe:FA:=⟨eU,λi=> .leaf ([],[]) []⟩
def RL:List ResultVar:=[.tmp 2]
noncomputable def Nt:Code:=aY Tryz.f37
def Ec(R:K1) RJ w:=
 aA pg (aD .eql 54 (.tmp 3) (.const (.pointer none)) RJ (.pointer none)) w λb4 w=>
 bQ b4
  (R (aOo 0) w)
  (aA pg (dS RJ) w λb6 w=>
  aA pg (aJ 97 b6 0) w λb7 w=>
  aA pg (aH 22 b7) w λb8 w=>
  aA pg (dD .len #[22] 3 [b8]) w λb9 w=>
  R b9 w)
def Ja a0 w(R:K1):=
 Ec R a0 w
theorem ND{a0 w R}(h:Ja a0 w R):aK pg eU #[a0] w R:=
 lC (ann:=Pe) Tryz.f37 Nt [a0] RL 10 TryzM.mixed Tryz.func37 (lX h cO)
def qT:FA:=⟨cC,λi=> .leaf ([],[]) []⟩
def OB:List ResultVar:=[.tmp 4]
noncomputable def pH:Code:=aY Tryz.f38
def sL(R:K1) x_5 w:=
 R x_5 w
def sM(kn:K4)(k0:K1) x_5 c8 c9 d0 w:=
 aA pg (aD .lss 3 aG aG d0 c9) w λd1 w=>
 bQ d1
  (aA pg (aO 22 c8 d0) w λd3 w=>
  aA pg (aH 5 d3) w λd4 w=>
  aA pg (cH 5 32 d4) w λd7 w=>
  aA pg (aD .mul 3 aG aG (aOo 8) d0) w λd9 w=>
  aA pg (cH 3 50 d9) w λe0 w=>
  aA pg (aD .shl 32 aG aG d7 e0) w λe1 w=>
  aA pg (aD .or 32 aG aG x_5 e1) w λe2 w=>
  aA pg (aD .add 3 aG aG d0 (aOo 1)) w λe3 w=>
  kn e2 c8 c9 e3 w)
  (k0 x_5 w)
def lM(k0:K1) x_5 c8 c9 d0 w:=
 aX (λ(X:(aOn×aOn)->K0) (t:aOn×aOn) (w:aOm)=>sM (λx_5 _ _ d0 w=>X (x_5,d0) w) k0 t.1 c8 c9 t.2 w) (x_5,d0) w
theorem Jb(k0:K1)(h0:E1 Q k0 0 5)(h:lM k0 (g 5) (g 18) (g 19) (g 20) w):cP pg qT (bI (aI 1 (aQ 1 (aI 3 pH)))) Q g w:=by
 refine AR (λg:Env=>(g 5,g 20)) (λX t w=>sM (λx_5 _ _ d0 w=>X (x_5,d0) w) k0 t.1 (g 18) (g 19) t.2 w) h (λX g1 w1 ha hL=> ?_)
 rw[<-cI 18 ha,<-cI 19 ha]at hL
 exact(zO [(0,(UO k0 5))] (kr:=no) (AQ (λx_5 _ _ d0 w=>X (x_5,d0) w) 5 18 19 20) hL cO D1 ⟨h0,trivial⟩)
def Cb(kn:K4) RJ LM x_5 w:=
 aA pg (aD .geq 3 aG aG LM (aOo 1)) w λc3 w=>
 Gd (bK c3 true) (λK=>K LM w) w λc5 w=>
 Gd (bK c3 true) (λK=>aA pg (aD .leq 3 aG aG c5 (aOo 8)) w K) w λc6 w=>
 aA pg (cD c3 c6 (.bool false)) w λc7 w=>
 aK pg kT #[RJ,LM,c7] w λc8 w=>
 aA pg (dD .len #[22] 3 [c8]) w λc9 w=>
 kn x_5 c8 c9 (aOo 0) w
def sN(kn:K1) RJ LM x_5 w:=
 Cb (lM kn) RJ LM x_5 w
def sO(R:K1) RJ LM x_5 w:=
 sN (sL R) RJ LM x_5 w
theorem Jc(kn:K1)(hn:N1 Q kn 5)(h:sN kn (g 0) (g 1) (g 5) w):cP pg qT (aQ 1 (aI 3 pH)) Q g w:=
 bZ 1 (eM (AQ (lM kn) 5 18 19 20) h (λg w h=>aE (qU 0 (Jb _ g w kn hn h))))
def Cc(kn:K3)(R:K1) RJ LM w:=
 aA pg (aD .eql 54 (.tmp 8) (.const (.pointer none)) RJ (.pointer none)) w λb9 w=>
 bQ b9
  (R (.int .u64 0) w)
  (kn RJ LM (.int .u64 0) w)
def Cd(R:K1) RJ LM w:=
 Cc (sO R) R RJ LM w
def Gu a0 a1 w(R:K1):=
 Cd R a0 a1 w
theorem KT{a0 a1 w R}(h:Gu a0 a1 w R):aK pg cC #[a0,a1] w R:=
 lC (ann:=qT) Tryz.f38 pH [a0,a1] OB 35 TryzM.mixed Tryz.func38 (bZ 3 (Mn (UB (sO R) 0 1 5) h (λg w h=>aE (bZ 1 (Jc _ g w (sL R) (λg w h=>aE (lX h cO)) h))) cO))
def Rl:FA:=⟨cU,λi=> .leaf ([],[]) []⟩
def TO:List ResultVar:=[.tmp 2]
noncomputable def Po:Code:=aY Tryz.f39
def Gt(R:K1) RJ w:=
 aA pg (aD .eql 54 (.tmp 3) (.const (.pointer none)) RJ (.pointer none)) w λb4 w=>
 bQ b4
  (R (aOo 1) w)
  (aA pg (dS RJ) w λb6 w=>
  aA pg (aJ 97 b6 1) w λb7 w=>
  aA pg (aH 24 b7) w λb8 w=>
  R b8 w)
def Ln a0 w(R:K1):=
 Gt R a0 w
theorem Py{a0 w R}(h:Ln a0 w R):aK pg cU #[a0] w R:=
 lC (ann:=Rl) Tryz.f39 Po [a0] TO 9 TryzM.mixed Tryz.func39 (lX h cO)
def tM:FA:=⟨pP,λi=>match Nat.beq i 1 with|true=> .leaf ([8,9],[(1,8),(2,8),(3,8)]) (fz 8 (ft [4,5,6] (ft [] (fz 1 []))))|false=>match Nat.beq i 6 with|true=> .leaf ([],[]) (fz 27 [])|false=> .leaf ([],[]) []⟩
def wI:List ResultVar:=[.tmp 2]
noncomputable def sJ:Code:=aY Tryz.f40
def gR(R:K1) lY B9 w:=
 aA pg (dS lY) w λp1 w=>
 aA pg (aJ 56 p1 3) w λp2 w=>
 aA pg (aH 22 p2) w λp3 w=>
 aA pg (dD .append #[22,22] 22 [p3,B9]) w λp5 w=>
 aA pg (dS lY) w λp6 w=>
 aA pg (aJ 56 p6 3) w λp7 w=>
 aA pg (aM 22 p7 p5) w λ_u w=>
 aA pg (dS lY) w λp9 w=>
 aA pg (aJ 56 p9 4) w λq0 w=>
 aA pg (aH 3 q0) w λq1 w=>
 aA pg (aD .add 3 aG aG q1 (aOo 1)) w λq2 w=>
 aA pg (dS lY) w λq3 w=>
 aA pg (aJ 56 q3 4) w λq4 w=>
 aA pg (aM 3 q4 q2) w λ_u w=>
 R (aOo 0) w
def Ei(kn:K2)(R:K1) lY h_4 B9 w:=
 aA pg (aJ 101 h_4 2) w λn1 w=>
 aA pg (aH 4 n1) w λn2 w=>
 Gd (bK n2 true) (λK=>K B9 w) w λn4 w=>
 Gd (bK n2 true) (λK=>aA pg (dD .len #[22] 3 [n4]) w K) w λn5 w=>
 Gd (bK n2 true) (λK=>aA pg (cH 3 32 n5) w K) w λn6 w=>
 Gd (bK n2 true) (λK=>aA pg (aJ 101 h_4 1) w K) w λn7 w=>
 Gd (bK n2 true) (λK=>aA pg (aH 32 n7) w K) w λn8 w=>
 Gd (bK n2 true) (λK=>aA pg (aD .neq 32 (.tmp 96) (.tmp 98) n6 n8) w K) w λn9 w=>
 aA pg (cD n2 n9 (.bool false)) w λo0 w=>
 bQ o0
  (R (aOo 11) w)
  (aA pg (aJ 101 h_4 3) w λo1 w=>
  aA pg (aH 4 o1) w λo2 w=>
  bQ o2
   (aK pg jZ #[lY,B9] w λo5 w=>
   aA pg (aD .neq 24 (.tmp 106) (.const (aOo 0)) o5 (aOo 0)) w λo7 w=>
   bQ o7
    (R o5 w)
    (kn lY B9 w))
   (kn lY B9 w))
def kD(R:K1) lY h_4 B9 w:=
 Ei (gR R) R lY h_4 B9 w
def wB(kn:K4)(k0:K3)(R:K1) lY h_4 g_7 B9 w:=
 aA pg (aH 110 g_7) w λj9 w=>
 aA pg (aJ 101 h_4 0) w λl0 w=>
 aA pg (aH 32 l0) w λl1 w=>
 aK pg pO #[lY,B9,j9,l1] w λl2 w=>
 aA pg (aV l2 0) w λl3 w=>
 aA pg (aV l2 1) w λl4 w=>
 aA pg (aV l2 2) w λl5 w=>
 aA pg (aV l2 3) w λl6 w=>
 aA pg (aM 110 g_7 l4) w λ_u w=>
 aA pg (aD .neq 24 (.tmp 77) (.const (aOo 0)) l6 (aOo 0)) w λl8 w=>
 bQ l8
  (R l6 w)
  (aA pg (aJ 101 h_4 2) w λm0 w=>
  aA pg (aH 4 m0) w λm1 w=>
  Gd (bK m1 true) (λK=>K l3 w) w λm3 w=>
  Gd (bK m1 true) (λK=>aA pg (dD .len #[22] 3 [m3]) w K) w λm4 w=>
  Gd (bK m1 true) (λK=>aA pg (cH 3 32 m4) w K) w λm5 w=>
  Gd (bK m1 true) (λK=>aA pg (aJ 101 h_4 1) w K) w λm6 w=>
  Gd (bK m1 true) (λK=>aA pg (aH 32 m6) w K) w λm7 w=>
  Gd (bK m1 true) (λK=>aA pg (aD .gtr 32 aG aG m5 m7) w K) w λm8 w=>
  aA pg (cD m1 m8 (.bool false)) w λm9 w=>
  bQ m9
   (R (aOo 11) w)
   (bQ l5
    (k0 lY h_4 l3 w)
    (kn lY h_4 g_7 l3 w)))
def oK(k0:K3)(R:K1) lY h_4 g_7 B9 w:=
 aX (λ(X:aOn->K0) (t:aOn) (w:aOm)=>wB (λ_ _ _ B9 w=>X B9 w) k0 R lY h_4 g_7 t w) B9 w
theorem Mj(k0:K3)(R:K1)(h0:E3 Q k0 0 0 4 8)(hr:HR wI R Q)(h:oK k0 R (g 0) (g 4) (g 7) (g 8) w):cP pg tM (bI (aQ 1 (aI 8 (bI (aI 1 sJ))))) Q g w:=by
 refine AR (λg:Env=>g 8) (λX t w=>wB (λ_ _ _ B9 w=>X B9 w) k0 R (g 0) (g 4) (g 7) t w) h (λX g1 w1 ha hL=> ?_)
 rw[<-cI 0 ha,<-cI 4 ha,<-cI 7 ha]at hL
 exact(zO [(0,(UB k0 0 4 8))] (AQ (λ_ _ _ B9 w=>X B9 w) 0 4 7 8) hL cO hr ⟨h0,trivial⟩)
def kE(R:K1) lY h_4 g_7 B9 w:=
 oK (kD R) R lY h_4 g_7 B9 w
theorem Mk(kn:K3)(R:K1)(hn:N3 Q kn 0 4 8)(hr:HR wI R Q)(h:oK kn R (g 0) (g 4) (g 7) (g 8) w):cP pg tM (aQ 1 (aI 8 (bI (aI 1 sJ)))) Q g w:=
 qU 0 (Mj _ g w kn R hn hr h)
def Ej(kn:K4)(R:K1) lY w:=
 (dr w)=(dr w)/\
 aA pg (dS lY) (dr w) λc2 w_=>w_=(dr w)/\
 aA pg (aJ 56 c2 0) (dr w) λc3 w_=>w_=(dr w)/\
 aA pg (aH 54 c3) (dr w) λc4 w_=>w_=(dr w)/\
 (dr w)=(dr w)/\
 aA pg (dS lY) (dr w) λc6 w_=>w_=(dr w)/\
 aA pg (aJ 56 c6 0) (dr w) λc7 w_=>w_=(dr w)/\
 aA pg (aH 54 c7) (dr w) λc8 w_=>w_=(dr w)/\
 aK pg eU #[c8] (dr w) λc9 aGX=>
 (dT pg (aH 54 c3) c4 aGX/\dT pg (aJ 56 c2 0) c3 aGX/\dT pg (dS lY) c2 aGX/\True)/\
 aK pg gQ #[c4,c9] aGX λd0 aIU=>
 aIU=aIU/\
 aK pg Iv #[d0] aIU λd3 w=>
 aA pg (aV d3 0) w λd4 w=>
 aA pg (aV d3 1) w λd5 w=>
 aA pg (aV d3 2) w λd6 w=>
 aA pg (bG 101) w λh_4 w=>
 aA pg (aM 101 h_4 d4) w λ_u w=>
 aA pg (aD .neq 24 (.tmp 27) (.const (aOo 0)) d6 (aOo 0)) w λd8 w=>
 bQ d8
  (R d6 w)
  (aA pg (bP 22 d0 (some d5) none none) w λe3 w=>
  aK pg fN #[e3] w λe4 w=>
  aA pg (dS lY) w λe5 w=>
  aA pg (aJ 56 e5 0) w λe6 w=>
  aA pg (aM 54 e6 e4) w λ_u w=>
  aA pg (aJ 101 h_4 0) (dr w) λe7 w_=>w_=(dr w)/\
  aA pg (aH 32 e7) (dr w) λe8 w_=>w_=(dr w)/\
  (dr w)=(dr w)/\
  aA pg (dS lY) (dr w) λf0 w_=>w_=(dr w)/\
  aA pg (aJ 56 f0 1) (dr w) λf1 w_=>w_=(dr w)/\
  aA pg (aH 32 f1) (dr w) λf2 w_=>w_=(dr w)/\
  aA pg (aD .gtr 32 aG aG e8 f2) (dr w) λf3 w_=>w_=(dr w)/\
  (dr w)=(dr w)/\
  Gd (bK f3 false) (λK=>aA pg (aJ 101 h_4 2) (dr w) K) (dr w) λf5 w_=>w_=(dr w)/\
  Gd (bK f3 false) (λK=>aA pg (aH 4 f5) (dr w) K) (dr w) λf6 w_=>w_=(dr w)/\
  Gd (bK f3 false) (λK=>K f6 (dr w)) (dr w) λf7 w_=>w_=(dr w)/\
  Gd (bK f7 true) (λK=>aA pg (aJ 101 h_4 1) (dr w) K) (dr w) λf8 w_=>w_=(dr w)/\
  Gd (bK f7 true) (λK=>aA pg (aH 32 f8) (dr w) K) (dr w) λf9 w_=>w_=(dr w)/\
  Gd (bK f7 true) (λK=>K lY (dr w)) (dr w) λi0 w_=>w_=(dr w)/\
  Gd (bK f7 true) (λK=>aA pg (dS i0) (dr w) K) (dr w) λi1 w_=>w_=(dr w)/\
  Gd (bK f7 true) (λK=>aA pg (aJ 56 i1 2) (dr w) K) (dr w) λi2 w_=>w_=(dr w)/\
  Gd (bK f7 true) (λK=>aA pg (aH 3 i2) (dr w) K) (dr w) λi3 w_=>w_=(dr w)/\
  Gd (bK f7 true) (λK=>K lY (dr w)) (dr w) λi4 w_=>w_=(dr w)/\
  Gd (bK f7 true) (λK=>aA pg (dS i4) (dr w) K) (dr w) λi5 w_=>w_=(dr w)/\
  Gd (bK f7 true) (λK=>aA pg (aJ 56 i5 3) (dr w) K) (dr w) λi6 w_=>w_=(dr w)/\
  Gd (bK f7 true) (λK=>aA pg (aH 22 i6) (dr w) K) (dr w) λi7 w_=>w_=(dr w)/\
  Gd (bK f7 true) (λK=>aA pg (dD .len #[22] 3 [i7]) (dr w) K) (dr w) λi8 w_=>w_=(dr w)/\
  Gd (bK f7 true) (λK=>aA pg (aD .sub 3 aG aG i3 i8) (dr w) K) (dr w) λi9 w_=>w_=(dr w)/\
  Gd (bK f7 true) (λK=>aA pg (cH 3 32 i9) (dr w) K) (dr w) λj0 w_=>w_=(dr w)/\
  Gd (bK f7 true) (λK=>aA pg (aD .gtr 32 aG aG f9 j0) (dr w) K) (dr w) λj1 w_=>w_=(dr w)/\
  Gd (bK f3 false) (λK=>aA pg (cD f7 j1 (.bool false)) (dr w) K) (dr w) λj2 w_=>w_=(dr w)/\
  aA pg (cD f3 (.bool true) j2) (dr w) λj3 w_=>w_=(dr w)/\
  bQ j3
   (R (aOo 12) (dr w))
   (aK pg pJ #[] (dr w) λj4 w=>
   aA pg (bH 110 [(2,j4)]) w λj5 w=>
   aA pg (bG 110) w λg_7 w=>
   aA pg (aM 110 g_7 j5) w λ_u w=>
   kn lY h_4 g_7 (.slice none 0 0) w))
def wD(R:K1) lY w:=
 Ej (kE R) R lY w
def CU(kn:K1) lY w:=
 kn lY w
def CV(R:K1) lY w:=
 CU (wD R) lY w
def Jj a0 w(R:K1):=
 CV R a0 w
theorem NL{a0 w R}(h:Jj a0 w R):aK pg pP #[a0] w R:=
 lC (ann:=tM) Tryz.f40 sJ [a0] wI 125 TryzM.mixed Tryz.func40 (bZ 1 (eM (UO (wD R) 0) h (λg w h=>aE (scD (bZ 8 (Mn (AQ (kE R) 0 4 7 8) h (λg w h=>aE (bZ 1 (Mk _ g w (kD R) R (λg w h=>aE (bZ 2 (Mn (Lg (gR R) 0 8) h (λg w h=>aE (lX h cO)) cO))) cO h))) cO))))))
def Ro:FA:=⟨rI,λi=> .leaf ([],[]) []⟩
def TQ:List ResultVar:=[.tmp 2]
noncomputable def Pq:Code:=aY Tryz.f41
def Gx(R:K1) lY w:=
 aA pg (dS lY) w λb5 w=>
 aA pg (aJ 56 b5 0) w λb6 w=>
 aA pg (aH 54 b6) w λb7 w=>
 aK pg cC #[b7,(aOo 4)] w λb8 w=>
 aA pg (dS lY) w λc0 w=>
 aA pg (aJ 56 c0 0) w λc1 w=>
 aA pg (aH 54 c1) w λc2 w=>
 aK pg cU #[c2] w λc3 w=>
 aA pg (aD .neq 24 (.tmp 13) (.const (aOo 0)) c3 (aOo 0)) w λc4 w=>
 Gd (bK c4 false) (λK=>K b8 w) w λc6 w=>
 Gd (bK c4 false) (λK=>K lY w) w λc7 w=>
 Gd (bK c4 false) (λK=>aA pg (dS c7) w K) w λc8 w=>
 Gd (bK c4 false) (λK=>aA pg (aJ 56 c8 0) w K) w λc9 w=>
 Gd (bK c4 false) (λK=>aA pg (aH 54 c9) w K) w λd0 w=>
 Gd (bK c4 false) (λK=>aK pg eU #[d0] w K) w λd1 w=>
 Gd (bK c4 false) (λK=>aA pg (cH 3 32 d1) w K) w λd2 w=>
 Gd (bK c4 false) (λK=>aA pg (aD .gtr 32 aG aG c6 d2) w K) w λd3 w=>
 aA pg (cD c4 (.bool true) d3) w λd4 w=>
 bQ d4
  (R (aOo 10) w)
  (aA pg (dS lY) w λd6 w=>
  aA pg (aJ 56 d6 0) w λd7 w=>
  aA pg (aH 54 d7) w λd8 w=>
  aA pg (cH 32 3 b8) w λe0 w=>
  aK pg gQ #[d8,e0] w λe1 w=>
  aA pg (dS lY) w λe3 w=>
  aA pg (aJ 56 e3 5) w λe4 w=>
  aA pg (aH 3 e4) w λe5 w=>
  aA pg (aD .add 3 aG aG e5 (aOo 1)) w λe6 w=>
  aA pg (dS lY) w λe7 w=>
  aA pg (aJ 56 e7 5) w λe8 w=>
  aA pg (aM 3 e8 e6) w λ_u w=>
  R (aOo 0) w)
def Lp a0 w(R:K1):=
 Gx R a0 w
theorem PA{a0 w R}(h:Lp a0 w R):aK pg rI #[a0] w R:=
 lC (ann:=Ro) Tryz.f41 Pq [a0] TQ 39 TryzM.mixed Tryz.func41 (lX h cO)
def Hb:FA:=⟨nJ,λi=> .leaf ([],[]) []⟩
def II:List ResultVar:=[.tmp 4]
noncomputable def Gr:Code:=aY Tryz.f42
def xO(R:K1) lY f_1 w:=
 aK pg sD #[lY,f_1] w λb7 w=>
 aA pg (aD .geq 3 aG aG b7 (aOo 0)) w λb8 w=>
 R b8 w
def Bc a0 a1 w(R:K1):=
 xO R a0 a1 w
theorem G5 {a0 a1 w R}(h:Bc a0 a1 w R):aK pg nJ #[a0,a1] w R:=
 lC (ann:=Hb) Tryz.f42 Gr [a0,a1] II 9 TryzM.mixed Tryz.func42 (lX h cO)
def WV:FA:=⟨rZ,λi=> .leaf ([],[]) []⟩
def ZA:List ResultVar:=[.tmp 3]
noncomputable def U1:Code:=aY Tryz.f43
def Lr(R:K1) c_0 b1 w:=
 aA pg (aH 22 b1) w λb5 w=>
 aA pg (aO 22 b5 (aOo 0)) w λb6 w=>
 aA pg (aH 5 b6) w λb7 w=>
 aA pg (aD .neq 5 (.tmp 4) (.tmp 7) c_0 b7) w λb8 w=>
 R b8 w
def SK a0 a1 w(R:K1):=
 Lr R a0 a1 w
theorem U7 {a0 a1 w R}(h:SK a0 a1 w R):aK pg rZ #[a0,a1] w R:=
 lC (ann:=WV) Tryz.f43 U1 [a0,a1] ZA 9 TryzM.mixed Tryz.func43 (lX h cO)
def kW:FA:=⟨Cz,λi=>match Nat.beq i 5 with|true=> .split 2 4 (.perm [0,1,2,3,4,5,6,7,8,9] [(2,4)] ([2,4,8],[(2,6),(4,6)]) (fz 2 (ft [] (fz 1 (ft [] (fz 1 (fu [1,3] (fz 1 (ft [] (fz 1 [])))))))))) (.perm [0,1,3,4,2,5,6,7,8,9] [(4,2)] ([3,4,8],[(3,6),(4,6)]) (fz 3 (ft [] (ft [] (fz 1 (fu [1,2] (fz 1 (ft [] (fz 1 [])))))))))|false=> .leaf ([],[]) []⟩
def alR:List ResultVar:=[.tmp 8,.tmp 9,.tmp 10]
noncomputable def gX:Code:=aY Tryz.f44
def MD(R:K1) b2 dK cY w:=
 aA pg (aD .sub 3 aG aG b2 cY) w λs5 w=>
 R (.tuple #[dK,s5,(aOo 0)]) w
def ME(kn:K6) b2 bB jQ dK eH w:=
 kn b2 bB jQ dK eH eH w
def Gb(kn:K6)(k4:K5) b2 bB jQ dK eH aoX w:=
 aA pg (aD .lss 3 aG aG eH aoX) w λq5 w=>
 bQ q5
  (aK pg fD #[jQ,eH] w λs0 w=>
  aA pg (aD .add 3 aG aG eH (aOo 1)) w λq7 w=>
  kn b2 bB jQ dK q7 aoX w)
  (k4 b2 bB jQ dK eH w)
def vP(k4:K5) b2 bB jQ dK eH aoX w:=
 aX (λ(X:aOn->K0) (t:aOn) (w:aOm)=>Gb (λ_ _ _ _ eH _ w=>X eH w) k4 b2 bB jQ dK t aoX w) eH w
theorem abQ(k4:K5)(h4:E5 Q k4 4 2 3 11 13 15)(h:vP k4 (g 2) (g 3) (g 11) (g 13) (g 15) (g 20) w):cP pg kW (bI (aI 1 (aQ 1 (aI 1 (aI 3 (bI (aI 1 (bI (bI (aI 1 (aQ 1 (aI 2 (aI 1 (aI 4 gX)))))))))))))) Q g w:=by
 refine AR (λg:Env=>g 15) (λX t w=>Gb (λ_ _ _ _ eH _ w=>X eH w) k4 (g 2) (g 3) (g 11) (g 13) t (g 20) w) h (λX g1 w1 ha hL=> ?_)
 rw[<-cI 2 ha,<-cI 3 ha,<-cI 11 ha,<-cI 13 ha,<-cI 20 ha]at hL
 exact(zO [(4,(O9 k4 2 3 11 13 15))] (kr:=no) (UP (λ_ _ _ _ eH _ w=>X eH w) 2 3 11 13 15 20) hL cO D1 ⟨h4,trivial⟩)
def Wl(kn:K6) b2 bB jQ dK eH Y9 w:=
 aA pg (aD .add 3 aG aG eH Y9) w λq2 w=>
 kn b2 bB jQ dK eH q2 w
def MF(kn:K5) b2 bB jQ dK eH Y9 w:=
 Wl (vP kn) b2 bB jQ dK eH Y9 w
def MG(kn:K6) b2 bB jQ dK eH Y9 w:=
 MF (ME kn) b2 bB jQ dK eH Y9 w
theorem abR(kn:K5)(hn:N5 Q kn 2 3 11 13 15)(h:MF kn (g 2) (g 3) (g 11) (g 13) (g 15) (g 16) w):cP pg kW (aQ 1 (aI 1 (aI 3 (bI (aI 1 (bI (bI (aI 1 (aQ 1 (aI 2 (aI 1 (aI 4 gX)))))))))))) Q g w:=
 bZ 1 (eM (UP (vP kn) 2 3 11 13 15 20) h (λg w h=>aE (qU 4 (abQ _ g w kn hn h))))
def Wm(kn:K6) b2 bB jQ dK cY eH Y9 ayP w:=
 aA pg (aD .sub 3 aG aG eH cY) w λp1 w=>
 aA pg (cH 3 38 p1) w λp2 w=>
 aA pg (cH 3 38 Y9) w λp4 w=>
 aA pg (cH 3 38 ayP) w λp6 w=>
 aA pg (bH 84 [(0,p2),(1,p4),(2,p6)]) w λp7 w=>
 aA pg (bT 80 1 [(0,p7)]) w λp8 w=>
 aA pg (dD .append #[80,80] 80 [dK,p8]) w λp9 w=>
 kn b2 bB jQ p9 eH Y9 w
def yM(kn:K6) b2 bB jQ dK cY eH Y9 ayP w:=
 Wm (MG kn) b2 bB jQ dK cY eH Y9 ayP w
def Tr(kn:K8)(k3:K6) b2 bB jQ dK cY eH w:=
 aK pg lZ #[jQ,eH] w λl2 w=>
 aA pg (aV l2 0) w λl3 w=>
 aA pg (aV l2 1) w λl4 w=>
 aA pg (aD .lss 3 aG aG l3 (aOo 4)) w λl6 w=>
 bQ l6
  (aK pg fD #[jQ,eH] w λl9 w=>
  aA pg (aD .add 3 aG aG eH (aOo 1)) w λm1 w=>
  k3 b2 bB jQ dK cY m1 w)
  (aA pg (aD .gtr 3 aG aG bB (aOo 4)) w λm3 w=>
  Gd (bK m3 true) (λK=>K eH w) w λm5 w=>
  Gd (bK m3 true) (λK=>aA pg (aD .add 3 aG aG m5 (aOo 1)) w K) w λm6 w=>
  Gd (bK m3 true) (λK=>K b2 w) w λm7 w=>
  Gd (bK m3 true) (λK=>aA pg (aD .lss 3 aG aG m6 m7) w K) w λm8 w=>
  aA pg (cD m3 m8 (.bool false)) w λm9 w=>
  bQ m9
   (aK pg fD #[jQ,eH] w λn2 w=>
   aA pg (aD .add 3 aG aG eH (aOo 1)) w λn6 w=>
   aK pg lZ #[jQ,n6] w λn7 w=>
   aA pg (aV n7 0) w λn8 w=>
   aA pg (aV n7 1) w λn9 w=>
   aA pg (aD .add 3 aG aG l3 (aOo 1)) w λo2 w=>
   aA pg (aD .gtr 3 aG aG n8 o2) w λo3 w=>
   bQ o3
    (aA pg (aD .add 3 aG aG eH (aOo 1)) w λo5 w=>
    kn b2 bB jQ dK cY o5 n8 n9 w)
    (kn b2 bB jQ dK cY eH l3 l4 w))
   (kn b2 bB jQ dK cY eH l3 l4 w))
def Ts(kn:K6)(k3:K6) b2 bB jQ dK cY eH w:=
 Tr (yM kn) k3 b2 bB jQ dK cY eH w
def JU(kn:K6) b2 bB jQ dK cY eH w:=
 Ts kn kn b2 bB jQ dK cY eH w
def JV(kn:K6)(k2:K3) b2 bB jQ dK cY eH w:=
 aA pg (aD .lss 3 aG aG eH b2) w λj8 w=>
 bQ j8
  (kn b2 bB jQ dK cY eH w)
  (k2 b2 dK cY w)
def yN(kn:K6)(k2:K3) b2 bB jQ dK cY eH w:=
 JV (JU kn) k2 b2 bB jQ dK cY eH w
def sY(k2:K3) b2 bB jQ dK cY eH w:=
 aX (λ(X:(aOn×aOn×aOn)->K0) (t:aOn×aOn×aOn) (w:aOm)=>yN (λ_ _ _ dK cY eH w=>X (dK,cY,eH) w) k2 b2 bB jQ t.1 t.2.1 t.2.2 w) (dK,cY,eH) w
theorem Y3 (kn:K6)(k2:K3)(hn:N6 Q kn 2 3 11 13 14 15)(h2:E3 Q k2 2 2 13 14)(h:yN kn k2 (g 2) (g 3) (g 11) (g 13) (g 14) (g 15) w):cP pg kW (bI (bI (aI 1 (aQ 1 (aI 2 (aI 1 (aI 4 gX))))))) Q g w:=
 bZ 1 (zO [(2,(UB k2 2 13 14))] (kr:=no) (UP (JU kn) 2 3 11 13 14 15) h (λg w h=>aE (qU 3 (bZ 3 (zO [(3,(UP kn 2 3 11 13 14 15))] (kr:=no) (Mq8 (yM kn) 2 3 11 13 14 15 16 17) h (λg w h=>aE (bZ 1 (eM (UP (MG kn) 2 3 11 13 15 16) h (λg w h=>aE (bZ 1 (abR _ g w (ME kn) (λg w h=>aE (eM _ h hn)) h)))))) D1 ⟨hn,trivial⟩)))) D1 ⟨h2,trivial⟩)
theorem Y4 (k2:K3)(h2:E3 Q k2 2 2 13 14)(h:sY k2 (g 2) (g 3) (g 11) (g 13) (g 14) (g 15) w):cP pg kW (bI (aI 1 (aQ 1 (aI 2 (aI 1 (aI 4 gX)))))) Q g w:=by
 refine AR (λg:Env=>(g 13,g 14,g 15)) (λX t w=>yN (λ_ _ _ dK cY eH w=>X (dK,cY,eH) w) k2 (g 2) (g 3) (g 11) t.1 t.2.1 t.2.2 w) h (λX g1 w1 ha hL=> ?_)
 rw[<-cI 2 ha,<-cI 3 ha,<-cI 11 ha]at hL
 exact(Y3 _ g1 w1 (λ_ _ _ dK cY eH w=>X (dK,cY,eH) w) k2 cO h2 hL)
def Tt(kn:K6) eQ b2 bB jQ dK cY w:=
 kn b2 bB jQ dK cY eQ w
def JW(kn:K3) eQ b2 bB jQ dK cY w:=
 Tt (sY kn) eQ b2 bB jQ dK cY w
def JX(R:K1) eQ b2 bB jQ dK cY w:=
 JW (MD R) eQ b2 bB jQ dK cY w
theorem Y5 (kn:K3)(hn:N3 Q kn 2 13 14)(h:JW kn (g 1) (g 2) (g 3) (g 11) (g 13) (g 14) w):cP pg kW (aQ 1 (aI 2 (aI 1 (aI 4 gX)))) Q g w:=
 bZ 1 (eM (UP (sY kn) 2 3 11 13 14 15) h (λg w h=>aE (qU 2 (Y4 _ g w kn hn h))))
def Tu(kn:K6) eQ b2 bB jQ w:=
 kn eQ b2 bB jQ (.slice none 0 0) eQ w
def JY(R:K1) eQ b2 bB jQ w:=
 Tu (JX R) eQ b2 bB jQ w
def Dk(kn:K6)(k0:K4) eQ b2 bB jQ i6 i7 w:=
 aA pg (aD .lss 3 aG aG i7 i6) w λi8 w=>
 bQ i8
  (aK pg fD #[jQ,i7] w λj2 w=>
  aA pg (aD .add 3 aG aG i7 (aOo 1)) w λj3 w=>
  kn eQ b2 bB jQ i6 j3 w)
  (k0 eQ b2 bB jQ w)
def Dl(k0:K4) eQ b2 bB jQ i6 i7 w:=
 aX (λ(X:aOn->K0) (t:aOn) (w:aOm)=>Dk (λ_ _ _ _ _ i7 w=>X i7 w) k0 eQ b2 bB jQ i6 t w) i7 w
theorem Y6 (k0:K4)(h0:E4 Q k0 0 1 2 3 11)(h:Dl k0 (g 1) (g 2) (g 3) (g 11) (g 56) (g 57) w):cP pg kW (bI (aI 1 (aQ 1 (aI 4 gX)))) Q g w:=by
 refine AR (λg:Env=>g 57) (λX t w=>Dk (λ_ _ _ _ _ i7 w=>X i7 w) k0 (g 1) (g 2) (g 3) (g 11) (g 56) t w) h (λX g1 w1 ha hL=> ?_)
 rw[<-cI 1 ha,<-cI 2 ha,<-cI 3 ha,<-cI 11 ha,<-cI 56 ha]at hL
 exact(zO [(0,(AQ k0 1 2 3 11))] (kr:=no) (UP (λ_ _ _ _ _ i7 w=>X i7 w) 1 2 3 11 56 57) hL cO D1 ⟨h0,trivial⟩)
def Tv(kn:K6) eQ b2 bB jQ w:=
 kn eQ b2 bB jQ eQ (aOo 0) w
def JZ(kn:K4) eQ b2 bB jQ w:=
 Tv (Dl kn) eQ b2 bB jQ w
def Dm(R:K1) eQ b2 bB jQ w:=
 JZ (JY R) eQ b2 bB jQ w
theorem Y7 (kn:K4)(hn:N4 Q kn 1 2 3 11)(h:JZ kn (g 1) (g 2) (g 3) (g 11) w):cP pg kW (aQ 1 (aI 4 gX)) Q g w:=
 bZ 1 (eM (UP (Dl kn) 1 2 3 11 56 57) h (λg w h=>aE (qU 0 (Y6 _ g w kn hn h))))
def Tw(kn:K4)(R:K1) jI eQ b2 bB w:=
 aA pg (aD .lss 3 aG aG eQ (aOo 0)) w λd2 w=>
 Gd (bK d2 false) (λK=>K b2 w) w λd4 w=>
 Gd (bK d2 false) (λK=>K eQ w) w λd5 w=>
 Gd (bK d2 false) (λK=>aA pg (aD .lss 3 aG aG d4 d5) w K) w λd6 w=>
 aA pg (cD d2 (.bool true) d6) w λd7 w=>
 Gd (bK d7 false) (λK=>K b2 w) w λd9 w=>
 Gd (bK d7 false) (λK=>K jI w) w λe0 w=>
 Gd (bK d7 false) (λK=>aA pg (dD .len #[22] 3 [e0]) w K) w λe1 w=>
 Gd (bK d7 false) (λK=>aA pg (aD .gtr 3 aG aG d9 e1) w K) w λe2 w=>
 aA pg (cD d7 (.bool true) e2) w λe3 w=>
 Gd (bK e3 false) (λK=>K bB w) w λe5 w=>
 Gd (bK e3 false) (λK=>aA pg (aD .lss 3 aG aG e5 (aOo 0)) w K) w λe6 w=>
 aA pg (cD e3 (.bool true) e6) w λe7 w=>
 Gd (bK e7 false) (λK=>K bB w) w λe9 w=>
 Gd (bK e7 false) (λK=>aA pg (aD .gtr 3 aG aG e9 (aOo 9)) w K) w λf0 w=>
 aA pg (cD e7 (.bool true) f0) w λf1 w=>
 bQ f1
  (R (.tuple #[(.slice none 0 0),(aOo 0),(aOo 1)]) w)
  (aA pg (aD .eql 3 (.tmp 42) (.const (aOo 0)) bB (aOo 0)) w λf3 w=>
  bQ f3
   (aA pg (aD .sub 3 aG aG b2 eQ) w λf6 w=>
   R (.tuple #[(.slice none 0 0),f6,(aOo 0)]) w)
   (Ord (aqE Cz 5 (Kb 5 gX) 2 4 w)
    ((dr w)=(dr w)/\
    (dr w)=(dr w)/\
    aA pg (acQ 116 none) (dr w) λf9 aGZ=>
    aGZ=aGZ/\
    aA pg (iX 117 b2 b2) aGZ λi1 XO=>
    XO=XO/\
    aA pg (aD .shl 3 aG aG (aOo 1) bB) XO λi3 w_=>w_=XO/\
    (dT pg (aD .shl 3 aG aG (aOo 1) bB) i3 aGZ/\dT pg (aD .shl 3 aG aG (aOo 1) bB) i3 (dr w)/\True)/\
    aA pg (bH 119 [(0,jI),(1,b2),(2,f9),(3,i1),(4,i3)]) XO λi4 w_=>w_=XO/\
    aA pg (Ba 119 i4) XO λi5 ZP=>
    ZP=ZP/\
    kn eQ b2 bB i5 ZP)
    ((dr w)=(dr w)/\
    (dr w)=(dr w)/\
    (dr w)=(dr w)/\
    aA pg (iX 117 b2 b2) (dr w) λi1 azZ=>
    aA pg (acQ 116 none) azZ λf9 XO=>
    XO=XO/\
    aA pg (aD .shl 3 aG aG (aOo 1) bB) XO λi3 w_=>w_=XO/\
    (dT pg (aD .shl 3 aG aG (aOo 1) bB) i3 azZ/\dT pg (aD .shl 3 aG aG (aOo 1) bB) i3 (dr w)/\True)/\
    aA pg (bH 119 [(0,jI),(1,b2),(2,f9),(3,i1),(4,i3)]) XO λi4 w_=>w_=XO/\
    aA pg (Ba 119 i4) XO λi5 ZP=>
    ZP=ZP/\
    kn eQ b2 bB i5 ZP)))
def Tx(R:K1) jI eQ b2 bB w:=
 Tw (Dm R) R jI eQ b2 bB w
def aiU a0 a1 a2 a3 w(R:K1):=
 Tx R a0 a1 a2 a3 w
theorem afK{a0 a1 a2 a3 w R}(h:aiU a0 a1 a2 a3 w R):aK pg Cz #[a0,a1,a2,a3] w R:=
 lC (ann:=kW) Tryz.f44 gX [a0,a1,a2,a3] alR 136 TryzM.mixed Tryz.func44 (bZ 4 (Mn (AQ (Dm R) 1 2 3 11) h (λg w h=>aE (bZ 1 (Y7 _ g w (JY R) (λg w h=>aE (bZ 2 (eM (UP (JX R) 1 2 3 11 13 14) h (λg w h=>aE (bZ 1 (Y5 _ g w (MD R) (λg w h=>aE (lX h cO)) h)))))) h))) cO))
def EH:FA:=⟨Ct,λi=>match Nat.beq i 7 with|true=> .leaf ([4],[]) (fz 4 (ft [] []))|false=> .leaf ([],[]) []⟩
def Hw:List ResultVar:=[.tmp 6,.cell 7 45]
noncomputable def CQ:Code:=aY Tryz.f45
def Hj(R:K1) kG r_3 b7 w:=
 aA pg (aD .add 38 aG aG kG (.int .u32 3)) w λf0 w=>
 aA pg (aH 45 r_3) w λf1 w=>
 aK pg iI #[f1,kG,(aOo 2)] w λf3 w=>
 aA pg (aM 45 b7 f3) w λ_u w=>
 vV pg 45 b7 w λr1=>R (.tuple #[f0,r1]) w
def Hk(kn:K4)(k0:K3)(R:K1) kG r_3 b7 G8 w:=
 aA pg (aJ 84 G8 2) w λc5 w=>
 aA pg (aH 38 c5) w λc6 w=>
 aA pg (aD .leq 38 aG aG c6 (.int .u32 3)) w λc7 w=>
 bQ c7
  (aA pg (aH 45 r_3) w λd3 w=>
  aA pg (aH 84 G8) w λd4 w=>
  aK pg zD #[d3,d4] w λd5 w=>
  aA pg (aV d5 0) w λd6 w=>
  aA pg (aV d5 1) w λd7 w=>
  aA pg (aV d5 2) w λd8 w=>
  aA pg (bG 45) w λc0 w=>
  aA pg (aM 45 c0 d7) w λ_u w=>
  aA pg (aD .eql 24 (.tmp 29) (.const (aOo 0)) d8 (aOo 0)) w λe0 w=>
  Gd (bK e0 true) (λK=>K d6 w) w λe2 w=>
  Gd (bK e0 true) (λK=>K kG w) w λe3 w=>
  Gd (bK e0 true) (λK=>aA pg (aD .eql 38 (.tmp 32) (.tmp 33) e2 e3) w K) w λe4 w=>
  aA pg (cD e0 e4 (.bool false)) w λe5 w=>
  bQ e5
   (aA pg (aJ 84 G8 2) (dr w) λe6 w_=>w_=(dr w)/\
   aA pg (aH 38 e6) (dr w) λe7 w_=>w_=(dr w)/\
   aA pg (aH 45 c0) (dr w) λe8 w_=>w_=(dr w)/\
   (dr w)=(dr w)/\
   aA pg (aM 45 b7 e8) (dr w) λ_u4 aKb=>
   vV pg 45 b7 aKb λr1=>R (.tuple #[e7,r1]) aKb)
   (aA pg (aJ 84 G8 2) w λc8 w=>
   aA pg (aH 38 c8) w λc9 w=>
   aA pg (aD .add 38 aG aG c9 (.int .u32 1)) w λd0 w=>
   aA pg (aJ 84 G8 2) w λd1 w=>
   aA pg (aM 38 d1 d0) w λ_u w=>
   kn kG r_3 b7 G8 w))
  (k0 kG r_3 b7 w)
def Bn(k0:K3)(R:K1) kG r_3 b7 G8 w:=
 aX (λ(X:Unit->K0) (t:Unit) (w:aOm)=>Hk (λ_ _ _ _ w=>X () w) k0 R kG r_3 b7 G8 w) () w
theorem Xh(k0:K3)(R:K1)(h0:E3 Q k0 0 2 3 7)(hr:HR Hw R Q)(h:Bn k0 R (g 2) (g 3) (g 7) (g 8) w):cP pg EH (bI (aI 1 (aQ 1 (aI 2 CQ)))) Q g w:=by
 refine AR (λ_:Env=>()) (λX t w=>Hk (λ_ _ _ _ w=>X () w) k0 R (g 2) (g 3) (g 7) (g 8) w) h (λX g1 w1 ha hL=> ?_)
 rw[<-cI 2 ha,<-cI 3 ha,<-cI 7 ha,<-cI 8 ha]at hL
 exact(zO [(0,(UB k0 2 3 7))] (AQ (λ_ _ _ _ w=>X () w) 2 3 7 8) hL cO hr ⟨h0,trivial⟩)
def QG(kn:K4) kG r_3 b7 G8 w:=
 aA pg (aJ 84 G8 2) w λc4 w=>
 aA pg (aM 38 c4 (.int .u32 1)) w λ_u w=>
 kn kG r_3 b7 G8 w
def Hl(kn:K3)(R:K1) kG r_3 b7 G8 w:=
 QG (Bn kn R) kG r_3 b7 G8 w
def Hm(R:K1) kG r_3 b7 G8 w:=
 Hl (Hj R) R kG r_3 b7 G8 w
theorem Xi(kn:K3)(R:K1)(hn:N3 Q kn 2 3 7)(hr:HR Hw R Q)(h:Hl kn R (g 2) (g 3) (g 7) (g 8) w):cP pg EH (aQ 1 (aI 2 CQ)) Q g w:=
 bZ 1 (eM (AQ (Bn kn R) 2 3 7 8) h (λg w h=>aE (qU 0 (Xh _ g w kn R hn hr h))))
def QH(kn:K4) RJ Xm kG w:=
 aA pg (Ba 45 RJ) w λr_3 w=>
 aA pg (bG 45) w λb7 w=>
 aA pg (bH 84 [(0,Xm)]) w λc3 w=>
 aA pg (bG 84) w λG8 w=>
 aA pg (aM 84 G8 c3) w λ_u w=>
 kn kG r_3 b7 G8 w
def QI(R:K1) RJ Xm kG w:=
 QH (Hm R) RJ Xm kG w
def Yw a0 a1 a2 w(R:K1):=
 QI R a0 a1 a2 w
theorem Yx{a0 a1 a2 w R}(h:Yw a0 a1 a2 w R):aK pg Ct #[a0,a1,a2] w R:=
 lC (ann:=EH) Tryz.f45 CQ [a0,a1,a2] Hw 44 TryzM.mixed Tryz.func45 (bZ 2 (eM (AQ (Hm R) 2 3 7 8) h (λg w h=>aE (bZ 1 (Xi _ g w (Hj R) R (λg w h=>aE (lX h cO)) cO h)))))
def BD:FA:=⟨zC,λi=> .leaf ([],[]) []⟩
def ZB:List ResultVar:=[.tmp 2,.tmp 3]
noncomputable def Al:Code:=aY Tryz.f46
def qC(R:K1) bE w:=
 aA pg (aH 22 bE) w λj2 w=>
 R (.tuple #[j2,(aOo 0)]) w
def Ls(kn:K1) dB bE pW rP w:=
 aK pg Iy #[rP] w λi0 w=>
 aA pg (aV i0 0) w λi1 w=>
 aA pg (aV i0 1) w λi2 w=>
 aA pg (aD .eql 24 (.tmp 53) (.const (aOo 0)) i2 (aOo 0)) w λi4 w=>
 bQ i4
  (aK pg wU #[dB,i1,(.bool true)] w λi8 w=>
  aA pg (aV i8 0) w λi9 w=>
  aA pg (aV i8 1) w λj0 w=>
  aA pg (BL pW [i9,j0]) w λj1 w=>
  kn bE w)
  (kn bE w)
def CZ(R:K1) dB bE pW rP w:=
 Ls (qC R) dB bE pW rP w
def C0 (kn:K7)(k0:K4) dB bE pW rP e5 e6 e7 w:=
 aA pg (aD .lss 3 aG aG e7 e6) w λe8 w=>
 bQ e8
  (aA pg (aO 22 e5 e7) w λe9 w=>
  aA pg (aH 5 e9) w λf0 w=>
  aA pg (aO 128 rP f0) w λf3 w=>
  aA pg (aH 38 f3) w λf4 w=>
  aA pg (aD .add 38 aG aG f4 (.int .u32 1)) w λf5 w=>
  aA pg (aO 128 rP f0) w λf6 w=>
  aA pg (aM 38 f6 f5) w λ_u w=>
  aA pg (aD .add 3 aG aG e7 (aOo 1)) w λf7 w=>
  kn dB bE pW rP e5 e6 f7 w)
  (k0 dB bE pW rP w)
def xE(k0:K4) dB bE pW rP e5 e6 e7 w:=
 aX (λ(X:aOn->K0) (t:aOn) (w:aOm)=>C0 (λ_ _ _ _ _ _ e7 w=>X e7 w) k0 dB bE pW rP e5 e6 t w) e7 w
theorem SM(k0:K4)(h0:E4 Q k0 0 0 4 6 7)(h:xE k0 (g 0) (g 4) (g 6) (g 7) (g 35) (g 36) (g 37) w):cP pg BD (bI (aI 1 (aQ 1 (aI 6 Al)))) Q g w:=by
 refine AR (λg:Env=>g 37) (λX t w=>C0 (λ_ _ _ _ _ _ e7 w=>X e7 w) k0 (g 0) (g 4) (g 6) (g 7) (g 35) (g 36) t w) h (λX g1 w1 ha hL=> ?_)
 rw[<-cI 0 ha,<-cI 4 ha,<-cI 6 ha,<-cI 7 ha,<-cI 35 ha,<-cI 36 ha]at hL
 exact(zO [(0,(AQ k0 0 4 6 7))] (kr:=no) (KQ (λ_ _ _ _ _ _ e7 w=>X e7 w) 0 4 6 7 35 36 37) hL cO D1 ⟨h0,trivial⟩)
def Lt(kn:K7) dB bE pW rP w:=
 aA pg (dD .len #[22] 3 [dB]) w λe6 w=>
 kn dB bE pW rP dB e6 (aOo 0) w
def C1 (kn:K4) dB bE pW rP w:=
 Lt (xE kn) dB bE pW rP w
def C2 (R:K1) dB bE pW rP w:=
 C1 (CZ R) dB bE pW rP w
theorem SN(kn:K4)(hn:N4 Q kn 0 4 6 7)(h:C1 kn (g 0) (g 4) (g 6) (g 7) w):cP pg BD (aQ 1 (aI 6 Al)) Q g w:=
 bZ 1 (eM (KQ (xE kn) 0 4 6 7 35 36 37) h (λg w h=>aE (qU 0 (SM _ g w kn hn h))))
def Jl(kn:K4)(R:K1) dB w:=
 aK pg Cy #[dB] w λc4 w=>
 aA pg (aV c4 0) w λc5 w=>
 aA pg (aV c4 1) w λc6 w=>
 aA pg (bG 22) w λbE w=>
 aA pg (aM 22 bE c5) w λ_u w=>
 aA pg (aD .neq 24 (.tmp 17) (.const (aOo 0)) c6 (aOo 0)) w λc8 w=>
 bQ c8
  (R (.tuple #[(.slice none 0 0),c6]) w)
  (aA pg (ajT (.func 64) [] [bE]) w λd0 w=>
  aK pg xY #[dB] w λd2 w=>
  bQ d2
   (aA pg (aO 22 dB (aOo 0)) w λd5 w=>
   aA pg (aH 5 d5) w λd6 w=>
   aA pg (dD .len #[22] 3 [dB]) w λd8 w=>
   aK pg Bi #[d6,d8] w λd9 w=>
   aA pg (aV d9 0) w λe0 w=>
   aA pg (aV d9 1) w λe1 w=>
   aA pg (BL d0 [e0,e1]) w λe2 w=>
   aA pg (aH 22 bE) w λe3 w=>
   R (.tuple #[e3,(aOo 0)]) w)
   (aA pg (iX 128 (aOo 256) (aOo 256)) w λe4 w=>
   kn dB bE d0 e4 w))
def Jm(R:K1) dB w:=
 Jl (C2 R) R dB w
def SL a0 w(R:K1):=
 Jm R a0 w
theorem Va{a0 w R}(h:SL a0 w R):aK pg zC #[a0] w R:=
 lC (ann:=BD) Tryz.f46 Al [a0] ZB 63 TryzM.mixed Tryz.func46 (bZ 6 (Mn (AQ (C2 R) 0 4 6 7) h (λg w h=>aE (bZ 1 (SN _ g w (CZ R) (λg w h=>aE (bZ 1 (eM (UO (qC R) 4) h (λg w h=>aE (lX h cO))))) h))) cO))
def Ai:FA:=⟨wW,λi=> .leaf ([],[]) []⟩
def BK:List ResultVar:=[.tmp 2,.tmp 3]
noncomputable def yG:Code:=aY Tryz.f47
def BM(R:K1) dB vS Am b8 oN c0 w:=
 aA pg (aH 131 Am) w λn5 w=>
 aA pg (aH 108 b8) w λn6 w=>
 aK pg tJ #[dB,n5,n6] w λn7 w=>
 aA pg (aV n7 0) w λn8 w=>
 aA pg (aV n7 1) w λn9 w=>
 aA pg (aD .neq 24 (.tmp 100) (.const (aOo 0)) n9 (aOo 0)) w λo1 w=>
 bQ o1
  (R (.tuple #[(.slice none 0 0),n9]) w)
  (aA pg (cH 3 32 oN) w λo5 w=>
  aK pg bA #[vS,o5,(aOo 1)] w λo6 w=>
  aK pg fE #[vS,c0] w λo9 w=>
  aK pg fE #[vS,n8] w λp2 w=>
  aK pg eJ #[vS] w λp4 w=>
  R (.tuple #[p4,(aOo 0)]) w)
def BN(kn:K7)(k1:K6)(R:K1) dB vS Am b8 oN c0 j3 w:=
 aA pg (aD .lss 3 aG aG j3 (aOo 3)) w λj4 w=>
 bQ j4
  (aA pg (aO 131 Am j3) w λj9 w=>
  aA pg (aH 117 j9) w λl0 w=>
  aK pg kV #[j3,l0] w λl1 w=>
  aA pg (aV l1 0) w λl2 w=>
  aA pg (aV l1 1) w λl3 w=>
  aA pg (aV l1 2) w λl4 w=>
  aA pg (aV l1 3) w λl5 w=>
  aA pg (bG 106) w λaKf w=>
  aA pg (aM 106 aKf l2) w λ_u w=>
  aA pg (aD .neq 24 (.tmp 76) (.const (aOo 0)) l5 (aOo 0)) w λl7 w=>
  bQ l7
   (R (.tuple #[(.slice none 0 0),l5]) w)
   (aA pg (aH 106 aKf) w λm0 w=>
   aA pg (aO 108 b8 j3) w λm1 w=>
   aA pg (aM 106 m1 m0) w λ_u w=>
   aA pg (aD .mul 3 aG aG (aOo 2) j3) w λm5 w=>
   aA pg (aD .sub 3 aG aG (aOo 6) m5) w λm6 w=>
   aA pg (aD .shl 3 aG aG l3 m6) w λm7 w=>
   aA pg (aD .or 3 aG aG oN m7) w λm8 w=>
   aA pg (dD .append #[22,22] 22 [c0,l4]) w λn1 w=>
   aA pg (aD .add 3 aG aG j3 (aOo 1)) w λn2 w=>
   kn dB vS Am b8 m8 n1 n2 w))
  (k1 dB vS Am b8 oN c0 w)
def kL(k1:K6)(R:K1) dB vS Am b8 oN c0 j3 w:=
 aX (λ(X:(aOn×aOn×aOn)->K0) (t:aOn×aOn×aOn) (w:aOm)=>BN (λ_ _ _ _ oN c0 j3 w=>X (oN,c0,j3) w) k1 R dB vS Am b8 t.1 t.2.1 t.2.2 w) (oN,c0,j3) w
theorem RU(k1:K6)(R:K1)(h1:E6 Q k1 1 0 4 6 8 9 10)(hr:HR BK R Q)(h:kL k1 R (g 0) (g 4) (g 6) (g 8) (g 9) (g 10) (g 63) w):cP pg Ai (bI (aI 1 (aQ 1 (aI 5 (aI 3 yG))))) Q g w:=by
 refine AR (λg:Env=>(g 9,g 10,g 63)) (λX t w=>BN (λ_ _ _ _ oN c0 j3 w=>X (oN,c0,j3) w) k1 R (g 0) (g 4) (g 6) (g 8) t.1 t.2.1 t.2.2 w) h (λX g1 w1 ha hL=> ?_)
 rw[<-cI 0 ha,<-cI 4 ha,<-cI 6 ha,<-cI 8 ha]at hL
 exact(zO [(1,(UP k1 0 4 6 8 9 10))] (KQ (λ_ _ _ _ oN c0 j3 w=>X (oN,c0,j3) w) 0 4 6 8 9 10 63) hL cO hr ⟨h1,trivial⟩)
def Kj(kn:K7) dB vS Am b8 oN c0 w:=
 kn dB vS Am b8 oN c0 (aOo 0) w
def BO(kn:K6)(R:K1) dB vS Am b8 oN c0 w:=
 Kj (kL kn R) dB vS Am b8 oN c0 w
def BP(R:K1) dB vS Am b8 oN c0 w:=
 BO (BM R) R dB vS Am b8 oN c0 w
theorem RV(kn:K6)(R:K1)(hn:N6 Q kn 0 4 6 8 9 10)(hr:HR BK R Q)(h:BO kn R (g 0) (g 4) (g 6) (g 8) (g 9) (g 10) w):cP pg Ai (aQ 1 (aI 5 (aI 3 yG))) Q g w:=
 bZ 1 (eM (KQ (kL kn R) 0 4 6 8 9 10 63) h (λg w h=>aE (qU 1 (RU _ g w kn R hn hr h))))
def Kk(kn:K6)(R:K1) dB vS w:=
 aK pg wX #[dB] w λi7 w=>
 aA pg (aV i7 0) w λi8 w=>
 aA pg (aV i7 1) w λi9 w=>
 aA pg (bG 131) w λAm w=>
 aA pg (aM 131 Am i8) w λ_u w=>
 aA pg (aD .neq 24 (.tmp 60) (.const (aOo 0)) i9 (aOo 0)) w λj1 w=>
 bQ j1
  (R (.tuple #[(.slice none 0 0),i9]) w)
  (aA pg (bG 108) w λb8 w=>
  kn dB vS Am b8 (aOo 0) (.slice none 0 0) w)
def uD(R:K1) dB vS w:=
 Kk (BP R) R dB vS w
def H0 (kn:K2)(R:K1) dB w:=
 aK pg eZ #[] w λc7 w=>
 aA pg (dD .len #[80] 3 [dB]) w λc9 w=>
 aA pg (aD .gtr 3 aG aG c9 (aOo 98047)) w λd9 w=>
 bQ d9
  (R (.tuple #[(.slice none 0 0),(aOo 1)]) w)
  (aA pg (aD .eql 3 (.tmp 31) (.const (aOo 0)) c9 (aOo 0)) w λe2 w=>
  bQ e2
   (aA pg (bT 22 1 [(0,(.int .u8 0))]) w λe3 w=>
   R (.tuple #[e3,(aOo 0)]) w)
   (aA pg (aD .lss 3 aG aG c9 (aOo 128)) w λe6 w=>
   bQ e6
    (aA pg (cH 3 32 c9) w λe9 w=>
    aK pg bA #[c7,e9,(aOo 1)] w λf0 w=>
    kn dB c7 w)
    (aA pg (aD .lss 3 aG aG c9 (aOo 32512)) w λf3 w=>
    bQ f3
     (aA pg (aD .shr 3 aG aG c9 (.int .u64 8)) w λf6 w=>
     aA pg (aD .add 3 aG aG f6 (aOo 128)) w λf7 w=>
     aA pg (cH 3 32 f7) w λf8 w=>
     aK pg bA #[c7,f8,(aOo 1)] w λf9 w=>
     aA pg (aD .and 3 aG aG c9 (aOo 255)) w λi2 w=>
     aA pg (cH 3 32 i2) w λi3 w=>
     aK pg bA #[c7,i3,(aOo 1)] w λi4 w=>
     kn dB c7 w)
     (aK pg bA #[c7,(.int .u64 255),(aOo 1)] w λd1 w=>
     aA pg (aD .sub 3 aG aG c9 (aOo 32512)) w λd4 w=>
     aA pg (cH 3 32 d4) w λd5 w=>
     aK pg bA #[c7,d5,(aOo 2)] w λd6 w=>
     kn dB c7 w))))
def H2 (R:K1) dB w:=
 H0 (uD R) R dB w
def Q8 a0 w(R:K1):=
 H2 R a0 w
theorem T0 {a0 w R}(h:Q8 a0 w R):aK pg wW #[a0] w R:=
 lC (ann:=Ai) Tryz.f47 yG [a0] BK 115 TryzM.mixed Tryz.func47 (bZ 3 (Mn (Lg (uD R) 0 4) h (λg w h=>aE (bZ 5 (Mn (UP (BP R) 0 4 6 8 9 10) h (λg w h=>aE (bZ 1 (RV _ g w (BM R) R (λg w h=>aE (lX h cO)) cO h))) cO))) cO))
def jK:FA:=⟨pS,λi=> .leaf ([],[]) []⟩
def RS:List ResultVar:=[.tmp 2]
noncomputable def iN:Code:=aY Tryz.f48
def wJ(R:K1) fH w:=
 R fH w
def kI(kn:K4)(k2:K1) fH d5 d6 d7 w:=
 aA pg (aD .lss 3 aG aG d7 d6) w λd8 w=>
 bQ d8
  (aA pg (aO 137 d5 d7) w λd9 w=>
  aA pg (aH 22 d9) w λe0 w=>
  aA pg (dD .append #[22,22] 22 [fH,e0]) w λe3 w=>
  aA pg (aD .add 3 aG aG d7 (aOo 1)) w λe4 w=>
  kn e3 d5 d6 e4 w)
  (k2 fH w)
def oY(k2:K1) fH d5 d6 d7 w:=
 aX (λ(X:(aOn×aOn)->K0) (t:aOn×aOn) (w:aOm)=>kI (λfH _ _ d7 w=>X (fH,d7) w) k2 t.1 d5 d6 t.2 w) (fH,d7) w
theorem MV(k2:K1)(h2:E1 Q k2 2 6)(h:oY k2 (g 6) (g 25) (g 26) (g 27) w):cP pg jK (bI (aI 1 (aQ 1 (aI 1 (aI 1 (aI 2 iN)))))) Q g w:=by
 refine AR (λg:Env=>(g 6,g 27)) (λX t w=>kI (λfH _ _ d7 w=>X (fH,d7) w) k2 t.1 (g 25) (g 26) t.2 w) h (λX g1 w1 ha hL=> ?_)
 rw[<-cI 25 ha,<-cI 26 ha]at hL
 exact(zO [(2,(UO k2 6))] (kr:=no) (AQ (λfH _ _ d7 w=>X (fH,d7) w) 6 25 26 27) hL cO D1 ⟨h2,trivial⟩)
def EC(kn:K4) dI fH w:=
 aA pg (dD .len #[137] 3 [dI]) w λd6 w=>
 kn fH dI d6 (aOo 0) w
def wK(kn:K1) dI fH w:=
 EC (oY kn) dI fH w
def wL(R:K1) dI fH w:=
 wK (wJ R) dI fH w
theorem MW(kn:K1)(hn:N1 Q kn 6)(h:wK kn (g 0) (g 6) w):cP pg jK (aQ 1 (aI 1 (aI 1 (aI 2 iN)))) Q g w:=
 bZ 1 (eM (AQ (oY kn) 6 25 26 27) h (λg w h=>aE (qU 2 (MV _ g w kn hn h))))
def ED(kn:K2) dI lJ w:=
 aK pg tL #[(.slice none 0 0),lJ] w λd4 w=>
 kn dI d4 w
def wM(R:K1) dI lJ w:=
 ED (wL R) dI lJ w
def mQ(kn:K5) dI lJ b9 c0 c1 w:=
 aA pg (aD .add 3 aG aG c1 (aOo 1)) w λd2 w=>
 kn dI lJ b9 c0 d2 w
def mR(kn:K5)(k0:K2) dI lJ b9 c0 c1 w:=
 aA pg (aD .lss 3 aG aG c1 c0) w λc2 w=>
 bQ c2
  (aA pg (aO 137 b9 c1) w λc3 w=>
  aA pg (aH 22 c3) w λc4 w=>
  aA pg (dD .len #[22] 3 [c4]) w λc7 w=>
  aA pg (aD .add 3 aG aG lJ c7) w λc8 w=>
  aA pg (aD .lss 3 aG aG c8 (aOo 0)) w λd0 w=>
  bQ d0
   (aA pg (XH 9 (.string ⟨#[108,101,110,32,111,117,116,32,111,102,32,114,97,110,103,101]⟩)) w λd1 w=>
   aA pg (V (Instr.panic d1)) w λ_u w=>
   kn dI c8 b9 c0 c1 w)
   (kn dI c8 b9 c0 c1 w))
  (k0 dI lJ w)
def jM(kn:K5)(k0:K2) dI lJ b9 c0 c1 w:=
 mR (mQ kn) k0 dI lJ b9 c0 c1 w
def mS(k0:K2) dI lJ b9 c0 c1 w:=
 aX (λ(X:(aOn×aOn)->K0) (t:aOn×aOn) (w:aOm)=>jM (λ_ lJ _ _ c1 w=>X (lJ,c1) w) k0 dI t.1 b9 c0 t.2 w) (lJ,c1) w
theorem KY(k0:K2)(h0:E2 Q k0 0 0 3)(h:mS k0 (g 0) (g 3) (g 9) (g 10) (g 11) w):cP pg jK (bI (aI 1 (aQ 1 (aI 2 iN)))) Q g w:=by
 refine AR (λg:Env=>(g 3,g 11)) (λX t w=>jM (λ_ lJ _ _ c1 w=>X (lJ,c1) w) k0 (g 0) t.1 (g 9) (g 10) t.2 w) h (λX g1 w1 ha hL=> ?_)
 rw[<-cI 0 ha,<-cI 9 ha,<-cI 10 ha]at hL
 exact(bZ 3 (zO [(0,(Lg k0 0 3))] (kr:=no) (O9 (mQ (λ_ lJ _ _ c1 w=>X (lJ,c1) w)) 0 3 9 10 11) hL (λg w h=>aE (eM (O9 (λ_ lJ _ _ c1 w=>X (lJ,c1) w) 0 3 9 10 11) h cO)) D1 ⟨h0,trivial⟩))
def Dv(kn:K5) dI lJ w:=
 aA pg (dD .len #[137] 3 [dI]) w λc0 w=>
 kn dI lJ dI c0 (aOo 0) w
def uF(kn:K2) dI lJ w:=
 Dv (mS kn) dI lJ w
def uG(R:K1) dI lJ w:=
 uF (wM R) dI lJ w
theorem KZ(kn:K2)(hn:N2 Q kn 0 3)(h:uF kn (g 0) (g 3) w):cP pg jK (aQ 1 (aI 2 iN)) Q g w:=
 bZ 1 (eM (O9 (mS kn) 0 3 9 10 11) h (λg w h=>aE (qU 0 (KY _ g w kn hn h))))
def Dw(kn:K2) dI w:=
 kn dI (aOo 0) w
def Dx(R:K1) dI w:=
 Dw (uG R) dI w
def Kr a0 w(R:K1):=
 Dx R a0 w
theorem OP{a0 w R}(h:Kr a0 w R):aK pg pS #[a0] w R:=
 lC (ann:=jK) Tryz.f48 iN [a0] RS 36 TryzM.mixed Tryz.func48 (bZ 2 (eM (Lg (uG R) 0 3) h (λg w h=>aE (bZ 1 (KZ _ g w (wM R) (λg w h=>aE (bZ 1 (eM (Lg (wL R) 0 6) h (λg w h=>aE (bZ 1 (MW _ g w (wJ R) (λg w h=>aE (lX h cO)) h)))))) h)))))
def akW:FA:=⟨B8,λi=> .leaf ([],[]) []⟩
def aqR:List ResultVar:=[.tmp 4]
noncomputable def ahH:Code:=aY Tryz.f49
def Z0 (R:K1) v_0 O5 w:=
 aA pg (aD .mul 32 aG aG O5 (.int .u64 14029467366897019727)) w λb7 w=>
 aA pg (aD .add 32 aG aG v_0 b7) w λb8 w=>
 aK pg dG #[b8,(aOo 31)] w λb9 w=>
 aA pg (aD .mul 32 aG aG b9 (.int .u64 11400714785074694791)) w λc0 w=>
 R c0 w
def aoD a0 a1 w(R:K1):=
 Z0 R a0 a1 w
theorem akM{a0 a1 w R}(h:aoD a0 a1 w R):aK pg B8 #[a0,a1] w R:=
 lC (ann:=akW) Tryz.f49 ahH [a0,a1] aqR 11 TryzM.mixed Tryz.func49 (lX h cO)
def I2:FA:=⟨zF,λi=> .leaf ([],[]) []⟩
def alT:List ResultVar:=[.tmp 2]
noncomputable def Hi:Code:=aY Tryz.f50
def Gm(R:K1) pF w:=
 R pF w
def Gn(kn:K4)(k0:K1) pF b6 b7 b8 w:=
 aA pg (aD .lss 3 aG aG b8 b7) w λb9 w=>
 bQ b9
  (aA pg (aO 22 b6 b8) w λc1 w=>
  aA pg (aH 5 c1) w λc2 w=>
  aA pg (cH 5 32 c2) w λc5 w=>
  aA pg (aD .mul 3 aG aG (aOo 8) b8) w λc7 w=>
  aA pg (cH 3 50 c7) w λc8 w=>
  aA pg (aD .shl 32 aG aG c5 c8) w λc9 w=>
  aA pg (aD .or 32 aG aG pF c9) w λd0 w=>
  aA pg (aD .add 3 aG aG b8 (aOo 1)) w λd1 w=>
  kn d0 b6 b7 d1 w)
  (k0 pF w)
def Gp(k0:K1) pF b6 b7 b8 w:=
 aX (λ(X:(aOn×aOn)->K0) (t:aOn×aOn) (w:aOm)=>Gn (λpF _ _ b8 w=>X (pF,b8) w) k0 t.1 b6 b7 t.2 w) (pF,b8) w
theorem adB(k0:K1)(h0:E1 Q k0 0 3)(h:Gp k0 (g 3) (g 6) (g 7) (g 8) w):cP pg I2 (bI (aI 1 (aQ 1 (aI 2 Hi)))) Q g w:=by
 refine AR (λg:Env=>(g 3,g 8)) (λX t w=>Gn (λpF _ _ b8 w=>X (pF,b8) w) k0 t.1 (g 6) (g 7) t.2 w) h (λX g1 w1 ha hL=> ?_)
 rw[<-cI 6 ha,<-cI 7 ha]at hL
 exact(zO [(0,(UO k0 3))] (kr:=no) (AQ (λpF _ _ b8 w=>X (pF,b8) w) 3 6 7 8) hL cO D1 ⟨h0,trivial⟩)
def WM(kn:K4) jI pF w:=
 aA pg (dD .len #[22] 3 [jI]) w λb7 w=>
 kn pF jI b7 (aOo 0) w
def M8 (kn:K1) jI pF w:=
 WM (Gp kn) jI pF w
def M9 (R:K1) jI pF w:=
 M8 (Gm R) jI pF w
theorem adC(kn:K1)(hn:N1 Q kn 3)(h:M8 kn (g 0) (g 3) w):cP pg I2 (aQ 1 (aI 2 Hi)) Q g w:=
 bZ 1 (eM (AQ (Gp kn) 3 6 7 8) h (λg w h=>aE (qU 0 (adB _ g w kn hn h))))
def WN(kn:K2) jI w:=
 kn jI (.int .u64 0) w
def WO(R:K1) jI w:=
 WN (M9 R) jI w
def akL a0 w(R:K1):=
 WO R a0 w
theorem agF{a0 w R}(h:akL a0 w R):aK pg zF #[a0] w R:=
 lC (ann:=I2) Tryz.f50 Hi [a0] alT 23 TryzM.mixed Tryz.func50 (bZ 2 (eM (Lg (M9 R) 0 3) h (λg w h=>aE (bZ 1 (adC _ g w (Gm R) (λg w h=>aE (lX h cO)) h)))))
def mB:FA:=⟨xA,λi=> .leaf ([],[]) []⟩
def XG:List ResultVar:=[.tmp 2]
noncomputable def lA:Code:=aY Tryz.f51
def iE(R:K1) pF w:=
 R pF w
def uW(kn:K3)(k2:K1) pF e2 e3 w:=
 aA pg (aD .lss 3 aG aG e3 (aOo 4)) w λe4 w=>
 bQ e4
  (aA pg (IJ 90 e2 e3) w λe5 w=>
  aK pg B8 #[(.int .u64 0),e5] w λe8 w=>
  aA pg (aD .xor 32 aG aG pF e8) w λe9 w=>
  aA pg (aD .mul 32 aG aG e9 (.int .u64 11400714785074694791)) w λf0 w=>
  aA pg (aD .add 32 aG aG f0 (.int .u64 9650029242287828579)) w λf1 w=>
  aA pg (aD .add 3 aG aG e3 (aOo 1)) w λf2 w=>
  kn f1 e2 f2 w)
  (k2 pF w)
def fU(k2:K1) pF e2 e3 w:=
 aX (λ(X:(aOn×aOn)->K0) (t:aOn×aOn) (w:aOm)=>uW (λpF _ e3 w=>X (pF,e3) w) k2 t.1 e2 t.2 w) (pF,e3) w
theorem R6 (k2:K1)(h2:E1 Q k2 2 3)(h:fU k2 (g 3) (g 32) (g 33) w):cP pg mB (bI (aI 1 (aQ 1 (aI 1 (aI 3 lA))))) Q g w:=by
 refine AR (λg:Env=>(g 3,g 33)) (λX t w=>uW (λpF _ e3 w=>X (pF,e3) w) k2 t.1 (g 32) t.2 w) h (λX g1 w1 ha hL=> ?_)
 rw[<-cI 32 ha]at hL
 exact(zO [(2,(UO k2 3))] (kr:=no) (UB (λpF _ e3 w=>X (pF,e3) w) 3 32 33) hL cO D1 ⟨h2,trivial⟩)
def kN(kn:K3) uY pF w:=
 aA pg (dS uY) w λe0 w=>
 aA pg (aJ 93 e0 0) w λe1 w=>
 aA pg (aH 90 e1) w λe2 w=>
 kn pF e2 (aOo 0) w
def iF(kn:K1) uY pF w:=
 kN (fU kn) uY pF w
def iG(R:K1) uY pF w:=
 iF (iE R) uY pF w
theorem R7 (kn:K1)(hn:N1 Q kn 3)(h:iF kn (g 0) (g 3) w):cP pg mB (aQ 1 (aI 1 (aI 3 lA))) Q g w:=
 bZ 1 (eM (UB (fU kn) 3 32 33) h (λg w h=>aE (qU 2 (R6 _ g w kn hn h))))
def uX(kn:K4)(k0:K2) uY pF c3 c4 w:=
 aA pg (aD .lss 3 aG aG c4 (aOo 4)) w λc5 w=>
 bQ c5
  (aA pg (IJ 139 c3 c4) w λc7 w=>
  aA pg (dS uY) w λd1 w=>
  aA pg (aJ 93 d1 0) w λd2 w=>
  aA pg (aO 90 d2 c4) w λd3 w=>
  aA pg (aH 32 d3) w λd4 w=>
  aK pg dG #[d4,c7] w λd6 w=>
  aA pg (aD .add 32 aG aG pF d6) w λd7 w=>
  aA pg (aD .add 3 aG aG c4 (aOo 1)) w λd8 w=>
  kn uY d7 c3 d8 w)
  (k0 uY pF w)
def fV(k0:K2) uY pF c3 c4 w:=
 aX (λ(X:(aOn×aOn)->K0) (t:aOn×aOn) (w:aOm)=>uX (λ_ pF _ c4 w=>X (pF,c4) w) k0 uY t.1 c3 t.2 w) (pF,c4) w
theorem R8 (k0:K2)(h0:E2 Q k0 0 0 3)(h:fV k0 (g 0) (g 3) (g 13) (g 14) w):cP pg mB (bI (aI 1 (aQ 1 (aI 3 lA)))) Q g w:=by
 refine AR (λg:Env=>(g 3,g 14)) (λX t w=>uX (λ_ pF _ c4 w=>X (pF,c4) w) k0 (g 0) t.1 (g 13) t.2 w) h (λX g1 w1 ha hL=> ?_)
 rw[<-cI 0 ha,<-cI 13 ha]at hL
 exact(zO [(0,(Lg k0 0 3))] (kr:=no) (AQ (λ_ pF _ c4 w=>X (pF,c4) w) 0 3 13 14) hL cO D1 ⟨h0,trivial⟩)
def jP(kn:K4) uY pF w:=
 aA pg (bH 139 [(0,(aOo 1)),(1,(aOo 7)),(2,(aOo 12)),(3,(aOo 18))]) w λc3 w=>
 kn uY pF c3 (aOo 0) w
def gH(kn:K2) uY pF w:=
 jP (fV kn) uY pF w
def gI(R:K1) uY pF w:=
 gH (iG R) uY pF w
theorem Qq(kn:K2)(hn:N2 Q kn 0 3)(h:gH kn (g 0) (g 3) w):cP pg mB (aQ 1 (aI 3 lA)) Q g w:=
 bZ 1 (eM (AQ (fV kn) 0 3 13 14) h (λg w h=>aE (qU 0 (R8 _ g w kn hn h))))
def gJ(kn:K2)(R:K1) uY w:=
 aA pg (dS uY) w λb9 w=>
 aA pg (aJ 93 b9 3) w λc0 w=>
 aA pg (aH 32 c0) w λc1 w=>
 aA pg (aD .lss 32 aG aG c1 (.int .u64 32)) w λc2 w=>
 bQ c2
  (R (.int .u64 2870177450012600261) w)
  (kn uY (.int .u64 0) w)
def gK(R:K1) uY w:=
 gJ (gI R) R uY w
def HE a0 w(R:K1):=
 gK R a0 w
theorem Uy{a0 w R}(h:HE a0 w R):aK pg xA #[a0] w R:=
 lC (ann:=mB) Tryz.f51 lA [a0] XG 44 TryzM.mixed Tryz.func51 (bZ 3 (Mn (Lg (gI R) 0 3) h (λg w h=>aE (bZ 1 (Qq _ g w (iG R) (λg w h=>aE (bZ 1 (R7 _ g w (iE R) (λg w h=>aE (lX h cO)) h))) h))) cO))
def I0:FA:=⟨dG,λi=> .leaf ([],[]) []⟩
def KW:List ResultVar:=[.tmp 4]
noncomputable def IA:Code:=aY Tryz.f52
def Ae(R:K1) fY k_1 w:=
 aA pg (cH 3 50 k_1) w λb7 w=>
 aA pg (aD .and 50 aG aG b7 (.int .u64 63)) w λb8 w=>
 aA pg (aD .shl 32 aG aG fY b8) w λc1 w=>
 aA pg (aD .sub 50 aG aG (.int .u64 64) b8) w λc4 w=>
 aA pg (aD .shr 32 aG aG fY c4) w λc5 w=>
 aA pg (aD .or 32 aG aG c1 c5) w λc6 w=>
 R c6 w
def Dn a0 a1 w(R:K1):=
 Ae R a0 a1 w
theorem IE{a0 a1 w R}(h:Dn a0 a1 w R):aK pg dG #[a0,a1] w R:=
 lC (ann:=I0) Tryz.f52 IA [a0,a1] KW 17 TryzM.mixed Tryz.func52 (lX h cO)
def Pf:FA:=⟨kT,λi=> .leaf ([],[]) []⟩
def RM:List ResultVar:=[.tmp 6]
noncomputable def Nu:Code:=aY Tryz.f53
def Ed(R:K1) RJ LM aJN w:=
 aA pg (dS RJ) w λc0 w=>
 aA pg (aJ 97 c0 1) w λc1 w=>
 aA pg (aH 24 c1) w λc2 w=>
 aA pg (aD .neq 24 (.tmp 12) (.const (aOo 0)) c2 (aOo 0)) w λc3 w=>
 bQ c3
  (R (.slice none 0 0) w)
  (aA pg (sUn .not aJN) w λc6 w=>
  bQ c6
   (aA pg (dS RJ) w λc8 w=>
   aA pg (aJ 97 c8 1) w λc9 w=>
   aA pg (aM 24 c9 (aOo 1)) w λ_u w=>
   R (.slice none 0 0) w)
   (aA pg (dS RJ) w λd3 w=>
   aA pg (aJ 97 d3 0) w λd4 w=>
   aA pg (aH 22 d4) w λd5 w=>
   aA pg (dD .len #[22] 3 [d5]) w λd6 w=>
   aA pg (aD .gtr 3 aG aG LM d6) w λd7 w=>
   bQ d7
    (aA pg (dS RJ) w λd9 w=>
    aA pg (aJ 97 d9 1) w λe0 w=>
    aA pg (aM 24 e0 (aOo 10)) w λ_u w=>
    R (.slice none 0 0) w)
    (aA pg (dS RJ) w λe2 w=>
    aA pg (aJ 97 e2 0) w λe3 w=>
    aA pg (aH 22 e3) w λe4 w=>
    aA pg (bP 22 e4 none (some LM) (some LM)) w λe7 w=>
    aA pg (dS RJ) w λf0 w=>
    aA pg (aJ 97 f0 0) w λf1 w=>
    aA pg (aH 22 f1) w λf2 w=>
    aA pg (bP 22 f2 (some LM) none none) w λf4 w=>
    aA pg (dS RJ) w λf5 w=>
    aA pg (aJ 97 f5 0) w λf6 w=>
    aA pg (aM 22 f6 f4) w λ_u w=>
    R e7 w)))
def Jd a0 a1 a2 w(R:K1):=
 Ed R a0 a1 a2 w
theorem NF{a0 a1 a2 w R}(h:Jd a0 a1 a2 w R):aK pg kT #[a0,a1,a2] w R:=
 lC (ann:=Pf) Tryz.f53 Nu [a0,a1,a2] RM 48 TryzM.mixed Tryz.func53 (lX h cO)
def Nd:FA:=⟨gQ,λi=> .leaf ([],[]) []⟩
def P2:List ResultVar:=[.tmp 4]
noncomputable def L6:Code:=aY Tryz.f54
def CR(R:K1) RJ LM w:=
 aA pg (aD .eql 54 (.tmp 5) (.const (.pointer none)) RJ (.pointer none)) w λb6 w=>
 bQ b6
  (R (.slice none 0 0) w)
  (aA pg (aD .geq 3 aG aG LM (aOo 0)) w λc0 w=>
  aK pg kT #[RJ,LM,c0] w λc1 w=>
  R c1 w)
def HJ a0 a1 w(R:K1):=
 CR R a0 a1 w
theorem Me{a0 a1 w R}(h:HJ a0 a1 w R):aK pg gQ #[a0,a1] w R:=
 lC (ann:=Nd) Tryz.f54 L6 [a0,a1] P2 12 TryzM.mixed Tryz.func54 (lX h cO)
def agX:FA:=⟨Iv,λi=>match Nat.beq i 28 with|true=> .leaf ([4,6],[(0,4),(2,4),(2,6),(5,6)]) (fz 4 (ft [1,3] (fz 1 (ft [0,3] (fz 2 [])))))|false=> .leaf ([],[]) []⟩
def alO:List ResultVar:=[.cell 2 101,.tmp 3,.tmp 4]
noncomputable def aeS:Code:=aY Tryz.f55
def FZ(R:K1) jI b2 XW QN qY w:=
 aK pg cU #[XW] w λl9 w=>
 aA pg (aD .neq 24 (.tmp 79) (.const (aOo 0)) l9 (aOo 0)) w λm0 w=>
 bQ m0
  (aA pg (bH 101 []) w λm1 w=>
  aK pg cU #[XW] w λm3 w=>
  aA pg (aM 101 b2 m1) w λ_u w=>
  vV pg 101 b2 w λr0=>R (.tuple #[r0,(aOo 0),m3]) w)
  (aA pg (aD .neq 32 (.tmp 85) (.const (.int .u64 0)) qY (.int .u64 0)) w λm6 w=>
  bQ m6
   (aA pg (bH 101 []) w λm7 w=>
   aA pg (aM 101 b2 m7) w λ_u w=>
   vV pg 101 b2 w λr0=>R (.tuple #[r0,(aOo 0),(aOo 14)]) w)
   (aA pg (aH 101 QN) (dr w) λm8 w_=>w_=(dr w)/\
   (dr w)=(dr w)/\
   aA pg (dD .len #[22] 3 [jI]) (dr w) λn0 w_=>w_=(dr w)/\
   (dr w)=(dr w)/\
   aK pg eU #[XW] (dr w) λn2 awI=>
   (dT pg (dD .len #[22] 3 [jI]) n0 awI/\dT pg (aH 101 QN) m8 awI/\True)/\
   aA pg (aD .sub 3 aG aG n0 n2) awI λn3 w_=>w_=awI/\
   aA pg (aM 101 b2 m8) awI λ_u6 aeI=>
   (dT pg (aD .sub 3 aG aG n0 n2) n3 aeI/\dT pg (dD .len #[22] 3 [jI]) n0 aeI/\True)/\
   aeI=aeI/\
   aeI=aeI/\
   vV pg 101 b2 aeI λr0=>R (.tuple #[r0,n3,(aOo 0)]) aeI))
def VW(kn:K5) jI b2 XW QN tG qY w:=
 bQ tG
  (aA pg (aJ 101 QN 1) w λl4 w=>
  aA pg (aH 32 l4) w λl5 w=>
  aA pg (aJ 101 QN 0) w λl6 w=>
  aA pg (aM 32 l6 l5) w λ_u w=>
  kn jI b2 XW QN qY w)
  (kn jI b2 XW QN qY w)
def F0 (R:K1) jI b2 XW QN tG qY w:=
 VW (FZ R) jI b2 XW QN tG qY w
def VX(kn:K6) jI b2 XW QN tG qY alJ w:=
 aA pg (aD .eql 3 (.tmp 67) (.const (aOo 2)) alJ (aOo 2)) w λj8 w=>
 bQ j8
  (aA pg (aJ 101 QN 1) w λj9 w=>
  aA pg (aH 32 j9) w λl0 w=>
  aA pg (aD .add 32 aG aG l0 (.int .u64 256)) w λl1 w=>
  aA pg (aJ 101 QN 1) w λl2 w=>
  aA pg (aM 32 l2 l1) w λ_u w=>
  kn jI b2 XW QN tG qY w)
  (kn jI b2 XW QN tG qY w)
def F1 (R:K1) jI b2 XW QN tG qY alJ w:=
 VX (F0 R) jI b2 XW QN tG qY alJ w
def VY(kn:K7) jI b2 XW QN tG qY alJ w:=
 aA pg (aD .gtr 3 aG aG alJ (aOo 0)) w λj1 w=>
 bQ j1
  (aK pg cC #[XW,alJ] w λj4 w=>
  aA pg (aJ 101 QN 1) w λj5 w=>
  aA pg (aM 32 j5 j4) w λ_u w=>
  aA pg (aJ 101 QN 2) w λj6 w=>
  aA pg (aM 4 j6 (.bool true)) w λ_u w=>
  kn jI b2 XW QN tG qY alJ w)
  (kn jI b2 XW QN tG qY alJ w)
def A4 (R:K1) jI b2 XW QN tG qY alJ w:=
 VY (F1 R) jI b2 XW QN tG qY alJ w
def VZ(kn:K7) jI b2 XW d_6 QN tG qY w:=
 aA pg (bH 139 [(0,(aOo 0)),(1,(aOo 2)),(2,(aOo 4)),(3,(aOo 8))]) w λi1 w=>
 aA pg (aD .shr 3 aG aG d_6 (.int .u64 6)) w λi3 w=>
 aA pg (IJ 139 i1 i3) w λi4 w=>
 Gd (bK tG true) (λK=>K i4 w) w λi7 w=>
 Gd (bK tG true) (λK=>aA pg (aD .eql 3 (.tmp 57) (.const (aOo 0)) i7 (aOo 0)) w K) w λi8 w=>
 aA pg (cD tG i8 (.bool false)) w λi9 w=>
 bQ i9
  (kn jI b2 XW QN tG qY (aOo 1) w)
  (kn jI b2 XW QN tG qY i4 w)
def A5 (R:K1) jI b2 XW d_6 QN tG qY w:=
 VZ (A4 R) jI b2 XW d_6 QN tG qY w
def SS(kn:K7) jI b2 XW d_6 QN tG w:=
 aA pg (bH 139 [(0,(aOo 0)),(1,(aOo 1)),(2,(aOo 2)),(3,(aOo 4))]) w λf2 w=>
 aA pg (aD .and 3 aG aG d_6 (aOo 3)) w λf4 w=>
 aA pg (IJ 139 f2 f4) w λf5 w=>
 aA pg (aD .gtr 3 aG aG f5 (aOo 0)) w λf7 w=>
 bQ f7
  (aK pg cC #[XW,f5] w λi0 w=>
  kn jI b2 XW d_6 QN tG i0 w)
  (kn jI b2 XW d_6 QN tG (.int .u64 0) w)
def C7 (R:K1) jI b2 XW d_6 QN tG w:=
 SS (A5 R) jI b2 XW d_6 QN tG w
def SU(kn:K6)(R:K1) jI w:=
 aA pg (bG 101) w λb2 w=>
 aK pg fN #[jI] w λc3 w=>
 aK pg cC #[c3,(aOo 1)] w λc5 w=>
 aA pg (cH 32 3 c5) w λc6 w=>
 aK pg cU #[c3] w λc9 w=>
 aA pg (aD .neq 24 (.tmp 19) (.const (aOo 0)) c9 (aOo 0)) w λd0 w=>
 bQ d0
  (aA pg (bH 101 []) w λd1 w=>
  aK pg cU #[c3] w λd3 w=>
  aA pg (aM 101 b2 d1) w λ_u w=>
  vV pg 101 b2 w λr0=>R (.tuple #[r0,(aOo 0),d3]) w)
  (aA pg (aD .and 3 aG aG c6 (aOo 8)) w λd6 w=>
  aA pg (aD .neq 3 (.tmp 26) (.const (aOo 0)) d6 (aOo 0)) w λd7 w=>
  bQ d7
   (aA pg (bH 101 []) w λd8 w=>
   aA pg (aM 101 b2 d8) w λ_u w=>
   vV pg 101 b2 w λr0=>R (.tuple #[r0,(aOo 0),(aOo 11)]) w)
   (aA pg (aD .and 3 aG aG c6 (aOo 4)) w λe0 w=>
   aA pg (aD .neq 3 (.tmp 30) (.const (aOo 0)) e0 (aOo 0)) w λe1 w=>
   aA pg (bH 101 [(3,e1)]) w λe2 w=>
   aA pg (bG 101) w λQN w=>
   aA pg (aM 101 QN e2) w λ_u w=>
   aA pg (aD .and 3 aG aG c6 (aOo 32)) w λe4 w=>
   aA pg (aD .neq 3 (.tmp 34) (.const (aOo 0)) e4 (aOo 0)) w λe5 w=>
   aA pg (sUn .not e5) w λe7 w=>
   bQ e7
    (aK pg cC #[c3,(aOo 1)] w λe9 w=>
    aK pg Cu #[e9] w λf0 w=>
    aA pg (aJ 101 QN 0) w λf1 w=>
    aA pg (aM 32 f1 f0) w λ_u w=>
    kn jI b2 c3 c6 QN e5 w)
    (kn jI b2 c3 c6 QN e5 w)))
def SX(R:K1) jI w:=
 SU (C7 R) R jI w
def ahV a0 w(R:K1):=
 SX R a0 w
theorem aeY{a0 w R}(h:ahV a0 w R):aK pg Iv #[a0] w R:=
 lC (ann:=agX) Tryz.f55 aeS [a0] alO 94 TryzM.mixed Tryz.func55 (bZ 7 (Mn (UP (C7 R) 0 2 5 6 7 8) h (λg w h=>aE (bZ 2 (eM (KQ (A5 R) 0 2 5 6 7 8 9) h (λg w h=>aE (bZ 2 (eM (KQ (A4 R) 0 2 5 7 8 9 11) h (λg w h=>aE (bZ 1 (eM (KQ (F1 R) 0 2 5 7 8 9 11) h (λg w h=>aE (bZ 1 (eM (UP (F0 R) 0 2 5 7 8 9) h (λg w h=>aE (bZ 1 (eM (O9 (FZ R) 0 2 5 7 9) h (λg w h=>aE (lX h cO))))))))))))))))) cO))
def Pg:FA:=⟨pO,λi=>match Nat.beq i 24 with|true=> .leaf ([],[]) (fz 13 [])|false=>match Nat.beq i 26 with|true=> .leaf ([5],[(2,5),(3,5)]) (fz 5 (ft [1,2] (fz 2 [])))|false=> .leaf ([],[]) []⟩
def RN:List ResultVar:=[.tmp 8,.cell 9 110,.tmp 10,.tmp 11]
noncomputable def Nv:Code:=aY Tryz.f56
def kB(R:K1) lY IW g_6 b9 Uu w:=
 (dr w)=(dr w)/\
 aA pg (dS lY) (dr w) λm8 w_=>w_=(dr w)/\
 aA pg (aJ 56 m8 3) (dr w) λm9 w_=>w_=(dr w)/\
 aA pg (aH 22 m9) (dr w) λn0 w_=>w_=(dr w)/\
 aA pg (dD .len #[22] 3 [n0]) (dr w) λn1 w_=>w_=(dr w)/\
 (dr w)=(dr w)/\
 aA pg (dD .len #[22] 3 [IW]) (dr w) λn3 w_=>w_=(dr w)/\
 aA pg (aD .add 3 aG aG n1 n3) (dr w) λn4 w_=>w_=(dr w)/\
 (dr w)=(dr w)/\
 aA pg (dS lY) (dr w) λn6 w_=>w_=(dr w)/\
 aA pg (aJ 56 n6 2) (dr w) λn7 w_=>w_=(dr w)/\
 aA pg (aH 3 n7) (dr w) λn8 w_=>w_=(dr w)/\
 aA pg (aD .gtr 3 aG aG n4 n8) (dr w) λn9 w_=>w_=(dr w)/\
 bQ n9
  (aA pg (bH 110 []) (dr w) λo0 w=>
  aA pg (aM 110 b9 o0) w λ_u w=>
  vV pg 110 b9 w λr1=>R (.tuple #[(.slice none 0 0),r1,(.bool false),(aOo 12)]) w)
  ((dr (dr w))=(dr (dr w))/\
  aA pg (aH 110 g_6) (dr (dr w)) λo2 w_=>w_=(dr (dr w))/\
  aA pg (aJ 65 Uu 0) (dr (dr w)) λo3 w_=>w_=(dr (dr w))/\
  aA pg (aH 4 o3) (dr (dr w)) λo4 w_=>w_=(dr (dr w))/\
  (dr (dr w))=(dr (dr w))/\
  aA pg (aM 110 b9 o2) (dr (dr w)) λ_u5 aeH=>
  (dT pg (aH 4 o3) o4 aeH/\dT pg (aJ 65 Uu 0) o3 aeH/\True)/\
  aeH=aeH/\
  aeH=aeH/\
  vV pg 110 b9 aeH λr1=>R (.tuple #[IW,r1,o4,(aOo 0)]) aeH)
def Ee(kn:K5)(R:K1) lY IW D0 g_6 b9 ahD Uu Y9 w:=
 aK pg iH #[lY,Y9] w λi1 w=>
 aA pg (aV i1 0) w λi2 w=>
 aA pg (aV i1 1) w λi3 w=>
 aA pg (aD .neq 24 (.tmp 54) (.const (aOo 0)) i3 (aOo 0)) w λi5 w=>
 bQ i5
  (aA pg (bH 110 []) w λi6 w=>
  aA pg (aM 110 b9 i6) w λ_u w=>
  vV pg 110 b9 w λr1=>R (.tuple #[(.slice none 0 0),r1,(.bool false),i3]) w)
  (aA pg (aJ 65 Uu 1) w λi8 w=>
  aA pg (aH 3 i8) w λi9 w=>
  aA pg (aD .eql 3 (.tmp 59) (.const (aOo 0)) i9 (aOo 0)) w λl5 w=>
  bQ l5
   (aA pg (dD .append #[22,22] 22 [IW,i2]) w λl8 w=>
   kn lY l8 g_6 b9 Uu w)
   (aA pg (aD .eql 3 (.tmp 59) (.const (aOo 1)) i9 (aOo 1)) w λm0 w=>
   bQ m0
    (aA pg (aJ 65 Uu 2) w λm3 w=>
    aA pg (aH 3 m3) w λm4 w=>
    aK pg pT #[i2,m4] w λm5 w=>
    aA pg (dD .append #[22,22] 22 [IW,m5]) w λm6 w=>
    kn lY m6 g_6 b9 Uu w)
    (aA pg (aH 110 g_6) w λj3 w=>
    aK pg aeL #[i2,IW,j3,D0,ahD] w λj6 w=>
    aA pg (aV j6 0) w λj7 w=>
    aA pg (aV j6 1) w λj8 w=>
    aA pg (aV j6 2) w λj9 w=>
    aA pg (aM 110 g_6 j8) w λ_u w=>
    aA pg (aD .neq 24 (.tmp 70) (.const (aOo 0)) j9 (aOo 0)) w λl1 w=>
    bQ l1
     (aA pg (bH 110 []) w λl2 w=>
     aA pg (aM 110 b9 l2) w λ_u w=>
     vV pg 110 b9 w λr1=>R (.tuple #[(.slice none 0 0),r1,(.bool false),j9]) w)
     (kn lY j7 g_6 b9 Uu w))))
def kC(R:K1) lY IW D0 g_6 b9 ahD Uu Y9 w:=
 Ee (kB R) R lY IW D0 g_6 b9 ahD Uu Y9 w
def Ef(kn:K8)(R:K1) lY IW g_2 D0 w:=
 aA pg (Ba 110 g_2) w λg_6 w=>
 aA pg (bG 110) w λb9 w=>
 aA pg (dD .min #[32,32] 32 [D0,(.int .u64 131072)]) w λc8 w=>
 aA pg (cH 32 3 c8) w λc9 w=>
 aK pg iH #[lY,(aOo 3)] w λd2 w=>
 aA pg (aV d2 0) w λd3 w=>
 aA pg (aV d2 1) w λd4 w=>
 aA pg (aD .neq 24 (.tmp 25) (.const (aOo 0)) d4 (aOo 0)) w λd6 w=>
 bQ d6
  (aA pg (bH 110 []) w λd7 w=>
  aA pg (aM 110 b9 d7) w λ_u w=>
  vV pg 110 b9 w λr1=>R (.tuple #[(.slice none 0 0),r1,(.bool false),d4]) w)
  (aK pg wT #[d3] w λe1 w=>
  aA pg (aV e1 0) w λe2 w=>
  aA pg (aV e1 1) w λe3 w=>
  aA pg (bG 65) w λUu w=>
  aA pg (aM 65 Uu e2) w λ_u w=>
  aA pg (aD .neq 24 (.tmp 34) (.const (aOo 0)) e3 (aOo 0)) w λe5 w=>
  bQ e5
   (aA pg (bH 110 []) w λe6 w=>
   aA pg (aM 110 b9 e6) w λ_u w=>
   vV pg 110 b9 w λr1=>R (.tuple #[(.slice none 0 0),r1,(.bool false),e3]) w)
   (aA pg (aJ 65 Uu 2) w λe8 w=>
   aA pg (aH 3 e8) w λe9 w=>
   aA pg (aD .gtr 3 aG aG e9 c9) w λf1 w=>
   bQ f1
    (aA pg (bH 110 []) w λf2 w=>
    aA pg (aM 110 b9 f2) w λ_u w=>
    vV pg 110 b9 w λr1=>R (.tuple #[(.slice none 0 0),r1,(.bool false),(aOo 12)]) w)
    (aA pg (aJ 65 Uu 2) w λf3 w=>
    aA pg (aH 3 f3) w λf4 w=>
    aA pg (aJ 65 Uu 1) w λf5 w=>
    aA pg (aH 3 f5) w λf6 w=>
    aA pg (aD .eql 3 (.tmp 46) (.const (aOo 1)) f6 (aOo 1)) w λf7 w=>
    bQ f7
     (kn lY IW D0 g_6 b9 c9 Uu (aOo 1) w)
     (kn lY IW D0 g_6 b9 c9 Uu f4 w))))
def Eg(R:K1) lY IW g_2 D0 w:=
 Ef (kC R) R lY IW g_2 D0 w
def Jh a0 a1 a2 a3 w(R:K1):=
 Eg R a0 a1 a2 a3 w
theorem NJ{a0 a1 a2 a3 w R}(h:Jh a0 a1 a2 a3 w R):aK pg pO #[a0,a1,a2,a3] w R:=
 lC (ann:=Pg) Tryz.f56 Nv [a0,a1,a2,a3] RN 105 TryzM.mixed Tryz.func56 (bZ 9 (Mn (Mq8 (kC R) 0 1 3 6 9 12 15 16) h (λg w h=>aE (bZ 2 (Mn (O9 (kB R) 0 1 6 9 15) h (λg w h=>aE (lX h cO)) cO))) cO))
def Ng:FA:=⟨jZ,λi=> .leaf ([],[]) []⟩
def P4:List ResultVar:=[.tmp 4]
noncomputable def L9:Code:=aY Tryz.f57
def CW(R:K1) lY IW w:=
 aK pg iH #[lY,(aOo 4)] w λc0 w=>
 aA pg (aV c0 0) w λc1 w=>
 aA pg (aV c0 1) w λc2 w=>
 aA pg (aD .neq 24 (.tmp 13) (.const (aOo 0)) c2 (aOo 0)) w λc4 w=>
 bQ c4
  (R c2 w)
  (aK pg fN #[c1] w λc7 w=>
  aK pg cC #[c7,(aOo 4)] w λc8 w=>
  aK pg Na #[IW] w λd1 w=>
  aA pg (aD .and 32 aG aG d1 (.int .u64 4294967295)) w λd2 w=>
  aA pg (aD .neq 32 (.tmp 19) (.tmp 22) c8 d2) w λd3 w=>
  bQ d3
   (R (aOo 13) w)
   (R (aOo 0) w))
def HL a0 a1 w(R:K1):=
 CW R a0 a1 w
theorem Ml{a0 a1 w R}(h:HL a0 a1 w R):aK pg jZ #[a0,a1] w R:=
 lC (ann:=Ng) Tryz.f57 L9 [a0,a1] P4 24 TryzM.mixed Tryz.func57 (lX h cO)
def pG:FA:=⟨sD,λi=> .leaf ([],[]) []⟩
def rA:List ResultVar:=[.tmp 4]
noncomputable def nM:Code:=aY Tryz.f58
def rB(R:K1) w:=
 R (aOo (-1)) w
def rC(kn:K4)(k0:K0)(R:K1) lY f_1 b7 b8 w:=
 aA pg (aD .lss 3 aG aG b8 b7) w λb9 w=>
 bQ b9
  (aA pg (aO 22 lY b8) w λc4 w=>
  aA pg (aH 5 c4) w λc5 w=>
  aA pg (BL f_1 [c5]) w λc6 w=>
  bQ c6
   (R b8 w)
   (aA pg (aD .add 3 aG aG b8 (aOo 1)) w λc8 w=>
   kn lY f_1 b7 c8 w))
  (k0 w)
def kQ(k0:K0)(R:K1) lY f_1 b7 b8 w:=
 aX (λ(X:aOn->K0) (t:aOn) (w:aOm)=>rC (λ_ _ _ b8 w=>X b8 w) k0 R lY f_1 b7 t w) b8 w
theorem IK(k0:K0)(R:K1)(h0:E0 Q k0 0)(hr:HR rA R Q)(h:kQ k0 R (g 0) (g 1) (g 7) (g 8) w):cP pg pG (bI (aI 1 (aQ 1 (aI 1 nM)))) Q g w:=by
 refine AR (λg:Env=>g 8) (λX t w=>rC (λ_ _ _ b8 w=>X b8 w) k0 R (g 0) (g 1) (g 7) t w) h (λX g1 w1 ha hL=> ?_)
 rw[<-cI 0 ha,<-cI 1 ha,<-cI 7 ha]at hL
 exact(zO [(0,(Mq0 k0))] (AQ (λ_ _ _ b8 w=>X b8 w) 0 1 7 8) hL cO hr ⟨h0,trivial⟩)
def Bd(kn:K4) lY f_1 w:=
 aA pg (dD .len #[22] 3 [lY]) w λb7 w=>
 kn lY f_1 b7 (aOo 0) w
def rD(kn:K0)(R:K1) lY f_1 w:=
 Bd (kQ kn R) lY f_1 w
def rE(R:K1) lY f_1 w:=
 rD (rB R) R lY f_1 w
theorem IL(kn:K0)(R:K1)(hn:N0 Q kn)(hr:HR rA R Q)(h:rD kn R (g 0) (g 1) w):cP pg pG (aQ 1 (aI 1 nM)) Q g w:=
 bZ 1 (eM (AQ (kQ kn R) 0 1 7 8) h (λg w h=>aE (qU 0 (IK _ g w kn R hn hr h))))
def Be(kn:K2) lY f_1 w:=
 kn lY f_1 w
def Bf(R:K1) lY f_1 w:=
 Be (rE R) lY f_1 w
def EE a0 a1 w(R:K1):=
 Bf R a0 a1 w
theorem Ks{a0 a1 w R}(h:EE a0 a1 w R):aK pg sD #[a0,a1] w R:=
 lC (ann:=pG) Tryz.f58 nM [a0,a1] rA 19 TryzM.mixed Tryz.func58 (bZ 1 (eM (Lg (rE R) 0 1) h (λg w h=>aE (bZ 1 (IL _ g w (rB R) R (λg w h=>aE (lX h cO)) cO h)))))
end Go.Proofs.YtoecppploooloaaGreatDoor

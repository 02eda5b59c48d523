/- Parts of the proof of StorePlays: merged and given short names by a program of ours. -/
import Derived.Orders
import Derived.Below
import Derived.KernelRfl
import Derived.Eval
import Derived.RangeFuncRecord
import Derived.Laws.Sem
import Derived.Scope
import Derived.Test.YteelnmpbnaohpaaGreatDoorRows
set_option linter.unusedVariables false
set_option linter.unusedSimpArgs false
open Array renaming getElem?_eq_getElem → aJ6, getElem?_setIfInBounds_self_of_lt → aJ8, getD_eq_getD_getElem? → aJR, all_eq_true' → aKP, getElem?_setIfInBounds_ne → aKa, getElem?_eq_none → aKn, length_toList → aLG, mem_of_getElem? → aLQ, getElem?_toList → aLg
open Bool renaming false_eq_true → aJM, and_eq_true → aJQ, not_eq_true' → aK1, true_and → aKM, not_true → aKS, or_eq_true → aKu, false_or → aLi, or_eq_false_iff → aLm
open List renaming mem_cons_self → aJ7, getElem?_eq_getElem → aJE, getElem?_cons_succ → aJJ, mem_cons → aJK, getD_eq_getElem?_getD → aJL, mem_cons_of_mem → aJT, map_cons → aJU, length_cons → aJX, toList_toArray → aJZ, mem_append_left → aK9, drop_eq_getElem_cons → aKB, map_congr_left → aKK, size_toArray → aKL, mem_of_getElem? → aKR, length_eq_zero_iff → aKd, mem_append → aKg, mem_map → aKq, getElem?_eq_none → aKt, mem_range → aKv, all_eq_true → aKx, length_erase_of_mem → aLJ, length_filter_le → aLS, map_nil → aLU, mem_filter → aLV, getElem_of_mem → aLs, mem_append_right → aLx
open Nat renaming zero_add → aJG, le_refl → aJO, le_trans → aK5, le_of_ble_eq_true → aK8, lt_or_ge → aKA, lt_of_lt_of_le → aKe, eq_of_beq_eq_true → aKk, add_assoc → aKy, mod_lt → aLo, blt_eq → aLv, ne_of_lt → aLy
open Option renaming getD_some → aKF, map_some → aKs
open Option.some renaming inj → aKO, injEq → aKc
namespace Go.En
open Go
abbrev aL0:=World
abbrev aL1:=Value
abbrev Env:=Nat->aL1
def put(g:Env)(d:Option Tmp)(v:aL1):Env:=
 match d with
 |some d=>λi=>match Nat.beq i d with|true=>v|false=>g i
 |none=>g
def ev(g:Env):Operand->aL1
 | .tmp t=>g t
 | .const v=>v
 | .global b=> .pointer (some ⟨b,0,none⟩)
 | .func f=> .func (.func f) #[] #[]
def Ret(P:Program)(f:FuncId)(args:Array aL1)(w:aL0)(v:aL1)(w':aL0):Prop:=
 Calls P f args w λe w''=>e= .returned v/\w''=w'
def aG(P:Program)(f:FuncId)(args:Array aL1)(w:aL0)(R:aL1->aL0->Prop):Prop:=
 ∃v w',Ret P f args w v w'/\R v w'
theorem aG.mono {P:Program}{f:FuncId}{args:Array aL1}{w:aL0}{R R':aL1->aL0->Prop}(h:aG P f args w R)
 (hr:∀v w',R v w'->R' v w'):aG P f args w R':=
 let⟨v,w',a,b⟩:=h;⟨v,w',a,hr _ _ b⟩
def aHL(P:Program)(l:Nat)(f:FuncId)(tmps:Array aL1)(aJB bd:Code)(w:aL0)(v:aL1)(w':aL0):Prop:=
 RoundIn Fence.wide 0 P l f tmps aJB bd w λe w''=>e= .returned v/\w''=w'
def aaH(P:Program)(l:Nat)(f:FuncId)(tmps:Array aL1)(aJB bd:Code)(w:aL0)(R:aL1->aL0->Prop):Prop:=
 ∃v w',aHL P l f tmps aJB bd w v w'/\R v w'
def YB(P:Program)(r:Result Next)(K:aL1->aL0->Prop):Prop:=
 match r with
 | .ok (.value v) w=>K v w
 | .ok .skip w=>K undef w
 | .ok (.enter f args) w=>aG P f args w K
 | .ok (.round l f tmps aJB bd) w=>aaH P l f tmps aJB bd w K
 |_=>False
theorem aI(P:Program)(v:aL1)(w:aL0)(K:aL1->aL0->Prop):YB P (.ok (.value v) w) K=K v w:=Eq.trans rfl rfl
theorem stepR_skip(P:Program)(w:aL0)(K:aL1->aL0->Prop):YB P (.ok .skip w) K=K undef w:=Eq.trans rfl rfl
theorem abW(P:Program)(l:Nat)(f:FuncId)(tmps:Array aL1)(aJB bd:Code)(w:aL0)(K:aL1->aL0->Prop):
 YB P (.ok (.round l f tmps aJB bd) w) K=aaH P l f tmps aJB bd w K:=Eq.trans rfl rfl
def aA(P:Program)(s:Sem Next)(w:aL0)(K:aL1->aL0->Prop):Prop:=YB P (s.run P w) K
def aP(P:Program)(s:Sem Next)(v:aL1)(w:aL0):Prop:=s.run P w= .ok (.value v) w
def Gd(b:Bool)(s:(aL1->aL0->Prop)->Prop)(w:aL0)(K:aL1->aL0->Prop):Prop:=
 match b with
 |true=>s K
 |false=>K undef w
def asB(v:aL1):Option Bool:=match v with| .bool b=>some b|_=>none
def bG(v:aL1)(want:Bool):Bool:=asB v==some want
def cS(v:aL1)(A B:Prop):Prop:=
 match v with
 | .bool b=>(match b with|true=>A|false=>B)
 |_=>False
def EK(ops:Array Oper)(j:Nat):Option Tmp:=(ops[j]?).bind (·.dst)
def Br(g:Env)(t:Option Tmp)(want:Bool):Bool:=match t with|some t=>bG (g t) want|none=>false
def V(s:Sem aL1):Sem Next:=do pure (.value (<-s))
def U(s:Sem Unit):Sem Next:=do s;pure .skip
def Eo(op:BinOp):Bool:=match op with| .eql| .neq=>true|_=>false
def aE(op:BinOp)(t:TypeId)(ox oy:Operand)(x y:aL1):Sem Next:=
 match Eo op with
 |true=>V (do eqGuard op t ox oy x y;binOp op t x y)
 |false=>V (binOp op t x y)
def eK(b:Builtin)(ats:Array TypeId)(ty:TypeId)(args:List aL1):Sem Next:=builtin b ats ty #[] args.toArray
def AO(f:aL1)(args:List aL1):Sem Next:=do let d<-Deferred.ofValue f args.toArray;invoke d.target d.args
def Pn(fn:Fn)(first captured:List aL1):Sem Next:=V (Instr.makeFunc fn first.toArray captured.toArray)
def bV(t:TypeId)(ps:List (Nat×aL1)):Sem Next:=V (Instr.build t ps.toArray)
def bB(t:TypeId)(n:Nat)(ps:List (Nat×aL1)):Sem Next:=V (Instr.buildSlice t n ps.toArray)
def Mq(g:Env)(o:Oper):Sem Next:=
 match o.op with
 | .binOp op t x y _=>aE op t x y (ev g x) (ev g y)
 | .makeFunc fn first captured=>Pn fn (first.toList.map (ev g)) (captured.toList.map (ev g))
 | .build t ps=>bV t (ps.toList.map λp=>(p.1,ev g p.2))
 | .buildSlice t n ps=>bB t n (ps.toList.map λp=>(p.1,ev g p.2))
 | .call c=>(match c.callee with
   | .builtin b=>eK b c.argTypes o.type (c.args.toList.map (ev g))
   | .value f=>AO (ev g f) (c.args.toList.map (ev g))
   |_=>execOp (ev g) o)
 |_=>execOp (ev g) o
def Kl(P:Program)(g:Env)(o:Oper)(w:aL0)(K:aL1->aL0->Prop):Prop:=
 match o.op with
 | .move x=>K (ev g x) w
 | .assign x=>K (ev g x) w
 | .call c=>(match c.callee with
   | .value (.func f)=>aG P f (c.args.toList.map (ev g)).toArray w K
   |_=>aA P (Mq g o) w K)
 |_=>aA P (Mq g o) w K
def IV(P:Program)(ops:Array Oper)(g:Env)(o:Oper)(w:aL0)(K:aL1->aL0->Prop):Prop:=
 match o.guard with
 |none=>Kl P g o w K
 |some (j,want)=>Gd (Br g (EK ops j) want) (Kl P g o w) w K
def ahB(P:Program)(ops:Array Oper):List Oper->Env->aL0->(Env->aL0->Prop)->Prop
 |[],g,w,K=>K g w
 |o::rest,g,w,K=>IV P ops g o w λv w'=>ahB P ops rest (put g o.dst v) w' K
structure Rec where
 heavy:Bool
 o:Oper
 g:Env
 w:aL0
 v:aL1
def gOf(ops:Array Oper)(o:Oper)(g:Env):Bool:=match o.guard with|none=>true|some (j,want)=>Br g (EK ops j) want
def Gs(b:Bool)(p:Prop):Prop:=match b with|true=>p|false=>True
def Vn(P:Program)(ops:Array Oper)(q:Rec)(o:Oper)(g:Env)(w':aL0)(v:aL1):Prop:=
 match q.heavy with
 |true=>Gs (gOf ops o g) (aP P (Mq g o) v q.w)
 |false=>Gs (gOf ops q.o q.g) (aP P (Mq q.g q.o) q.v w')
def ahW(i j:Nat):List (Nat×Nat)->Bool
 |[]=>false
 |(a,b)::r=>match Nat.beq a i with
  |true=>(match Nat.beq b j with|true=>true|false=>ahW i j r)
  |false=>ahW i j r
def qC(i:Nat):List Nat->Bool
 |[]=>false
 |a::r=>match Nat.beq a i with|true=>true|false=>qC i r
def auG:List Rec->Nat->Option Rec
 |[],_=>none
 |q::_,0=>some q
 |_::r,n+1=>auG r n
def aE2 (P:Program)(ops:Array Oper)(o:Oper)(g:Env)(w':aL0)(v:aL1)(hist:List Rec):List Nat->Prop
 |[]=>True
 |k::ks=>(match auG hist k with
  |some q=>Vn P ops q o g w' v
  |none=>False)/\aE2 P ops o g w' v hist ks
abbrev Ann:=List Nat×List (Nat×Nat)
abbrev arZ:=List (Bool×List Nat)
def rR(P:Program)(ops:Array Oper):List Oper->arZ->List Rec->Env->aL0->(Env->aL0->Prop)->Prop
 |[],_,_,g,w,K=>K g w
 |_::_,[],_,_,_,_=>False
 |o::rest,(hv,ks)::pl,hist,g,w,K=>
  IV P ops g o w λv w'=>
   match hv,ks with
   |true,[]=>rR P ops rest pl (⟨true,o,g,w,v⟩::hist) (put g o.dst v) w' K
   |true,k::ks=>aE2 P ops o g w' v hist (k::ks)/\rR P ops rest pl (⟨true,o,g,w,v⟩::hist) (put g o.dst v) w' K
   |false,[]=>w'=w/\rR P ops rest pl (⟨false,o,g,w,v⟩::hist) (put g o.dst v) w K
   |false,k::ks=>w'=w/\aE2 P ops o g w v hist (k::ks)/\rR P ops rest pl (⟨false,o,g,w,v⟩::hist) (put g o.dst v) w K
def bM{α:Type}(F:(α->aL0->Prop)->α->aL0->Prop)(g:α)(w:aL0):Prop:=
 ∃I:Nat->α->aL0->Prop,(∃n,I n g w)/\∀n g w,I n g w->F (λg' w'=>∃m,m<n/\I m g' w') g w
def Cy(K:Env->aL0->Prop)(Q:Exit->Env->aL0->Prop):Exit->Env->aL0->Prop:=
 λe g w=>(λ(_:Program->Sem Next->aL0->(aL1->aL0->Prop)->Prop)=>match e with| .normal=>K g w|e=>Q e g w) aA
def KQ(id:Nat)(Q:Exit->Env->aL0->Prop):Exit->Env->aL0->Prop:=
 λe g w=>(λ(_:Program->Sem Next->aL0->(aL1->aL0->Prop)->Prop)=>match e with| .exit i=>(match Nat.beq i id with|true=>Q .normal g w|false=>Q (.exit i) g w)|e=>Q e g w) aA
inductive HT where
 |leaf (an:Ann) (pl:arZ)
 |perm (π:List Nat) (es:List (Nat×Nat)) (an:Ann) (pl:arZ)
 |split(a b:Nat) (x y:HT)
structure FA where
 f:FuncId
 t:Nat->HT
def yS:List Nat->Nat->Nat
 |[],_=>0
 |a::r,i=>match Nat.beq a i with|true=>0|false=>yS r i+1
def HS(π:List Nat)(i:Nat):List (Nat×Nat)->List Edge
 |[]=>[]
 |(a,b)::r=>match Nat.beq b i with|true=>⟨yS π a,.data⟩::HS π i r|false=>HS π i r
def Lf(π:List Nat)(es:List (Nat×Nat))(i:Nat)(o:Oper):Oper:=
 {dst:=o.dst,op:=o.op,type:=o.type,pos:=o.pos,after:=(o.after.toList.map (λe=>(⟨yS π e.on,e.ground⟩:Edge))++HS π i es).toArray,
  guard:=match o.guard with|none=>none|some (j,b)=>some (yS π j,b)}
def Xh(π:List Nat)(es:List (Nat×Nat))(l:List Oper):List Nat->List Oper
 |[]=>[]
 |i::r=>match l[i]? with|some o=>Lf π es i o::Xh π es l r|none=>Xh π es l r
def pR(π:List Nat)(es:List (Nat×Nat))(ops:Array Oper):Array Oper:=(Xh π es ops.toList π).toArray
def P9 (f:FuncId)(id:Nat)(ops:Array Oper)(a b:Nat)(w:aL0):Bool:=
 Nat.ble ((Region.schedule true ops (w.tape w.drawn (.order f id))).idxOf a) ((Region.schedule true ops (w.tape w.drawn (.order f id))).idxOf b)
def Ord(b:Bool)(A B:Prop):Prop:=match b with|true=>A|false=>B
def asX(P:Program)(f:FuncId)(id:Nat)(ops:Array Oper):HT->Env->aL0->aL0->(Env->aL0->Prop)->Prop
 | .leaf _ pl,g,_,w,K=>rR P ops ops.toList pl [] g w K
 | .perm π es _ pl,g,_,w,K=>rR P (pR π es ops) (pR π es ops).toList pl [] g w K
 | .split a b x y,g,w0,w,K=>Ord (P9 f id ops a b w0) (asX P f id ops x g w0 w K) (asX P f id ops y g w0 w K)
def DS:Nat:=1000003
def atA:aL1->List Deferred
 | .pointer (some a)=>[{target:= .collected a.block,args:= #[]}]
 |_=>[]
def noMark:aL1->Bool
 | .pointer _=>false
 |_=>true
def tmpsOf(N:Nat)(g:Env):Array aL1:=Array.ofFn (n:=N) λi=>g i.val
def RS(P:Program)(f:FuncId):Nat:=match P.funcs[f]? with|some fn=>fn.ntmps|none=>0
def aGM(Q:Exit->Env->aL0->Prop)(g:Env):Option Code->aL0->Prop
 |none,w=>Q .normal g w
 |some .ret,w=>Q .ret g w
 |some (.exit i),w=>Q (.exit i) g w
 |_,_=>False
def aCE(l:Nat)(Q:Exit->Env->aL0->Prop)(g:Env)(w:aL0):Prop:=
 ∃r:Loop,w.heap[l]?=some (.loop r)/\r.state≠.busy/\aGM Q g r.pending (w.putObj l (.loop {r with state:= .exhausted}))
def rfW(f:FuncId)(N:Nat)(ps:Array Tmp)(aJB bd:Code)(g:Env)(w:aL0):aL0:=
 (w.alloc (.deferred (some []))).alloc (.loop {state:= .ready,pending:=none,fn:=f,tmps:=tmpsOf N g,params:=ps,assign:=aJB,body:=bd,defers:=w.heap.size})
def aId(P:Program)(r:Result Next)(K:aL1->aL0->Prop):Prop:=
 match r with
 | .ok (.enter f args) w=>aG P f args w K
 |_=>False
def GM(l:Nat):aL1:= .func (.yield l) #[] #[]
def RF(P:Program)(f:FuncId)(gf:Operand)(ps:Array Tmp)(aJB bd:Code)(Q:Exit->Env->aL0->Prop)(g:Env)(w:aL0):Prop:=
 match noMark (g DS)with
 |true=>aId P ((AO (ev g gf) [GM (w.heap.size+1)]).run P (rfW f (RS P f) ps aJB bd g w)) λ_ w3=>
  aCE (w.heap.size+1) Q (put g (some DS) (.pointer (some ⟨w.heap.size,0,none⟩))) w3
 |false=>False
def dM(P:Program)(ann:FA):Code->(Exit->Env->aL0->Prop)->Env->aL0->Prop
 | .skip,Q,g,w=>Q .normal g w
 | .region id ops draw,Q,g,w=>match draw with
   |false=>ahB P ops ops.toList g w (Q .normal)
   |true=>asX P ann.f id ops (ann.t id) g w {w with drawn:=w.drawn+1} (Q .normal)
 | .seq x y,Q,g,w=>dM P ann x (Cy (λg w=>dM P ann y Q g w) Q) g w
 | .cond c x y,Q,g,w=>cS (ev g c) (dM P ann x Q g w) (dM P ann y Q g w)
 | .block id c,Q,g,w=>dM P ann c (KQ id Q) g w
 | .loop c,Q,g,w=>bM (λX g w=>dM P ann c (Cy X Q) g w) g w
 | .scope c,Q,g,w=>dM P ann c Q g w
 | .label _,Q,g,w=>Q .normal g w
 | .exit id,Q,g,w=>Q (.exit id) g w
 | .ret,Q,g,w=>Q .ret g w
 | .rangeFunc gf ps aJB bd,Q,g,w=>RF P ann.f gf ps aJB bd Q g w
 |_,_,_,_=>False
def aAp(N:Nat)(o:Oper):Bool:=match o.dst with|some d=>Nat.blt d N|none=>true
def bef(b:Array Nat)(i j:Nat):Bool:=(b.getD j 0).testBit i
def looks(ops:Array Oper)(o:Oper):List Tmp:=
 (o.op.operands.toList.filterMap λ| .tmp t=>some t|_=>none)++(match o.guard with|some (j,_)=>(EK ops j).toList|none=>[])
def aCU(ops:Array Oper)(x y:Oper):Bool:=
 (match x.dst with|some d=>(looks ops y).contains d||y.dst==some d|none=>false)||
 (match y.dst with|some d=>(looks ops x).contains d|none=>false)
def aaR(o:Oper):Bool:=match o.op with| .select .. =>true|_=>false
def aDn(o:Oper):Bool:=match o.op with| .call {callee:= .value (.func _),.. }=>true|_=>false
def anP(o:Oper):Bool:=match o.op with| .defer .. =>true|_=>false
def anV:Operand->Bool| .tmp t=>Nat.blt t DS|_=>true
def afI(P:Program)(o:Oper):Bool:=
 match o.op with
 | .call c=>(match c.callee with
   | .value (.func f)=>(match P.funcs[f]? with|some fn=>fn.body.isSome&& !(fn.name== "runtime.NumGoroutine")|none=>false)
   | .builtin b=>(match b with| .print| .println=>false|_=>true)
   |_=>true)
 |_=>true
def CV(P:Program)(o:Oper):Bool:=afI P o&&(o.op.operands.toList.all anV&&(!aaR o&& !anP o))
def Nw(o:Oper):Bool:=match o.op with| .move _| .assign _=>true|_=>false
def RU(ops:Array Oper)(b:Array Nat)(an:Ann)(i j:Nat)(x y:Oper):Bool:=
 bef b i j||
 (!aCU ops x y&&
   match qC i an.1,qC j an.1 with
   |true,true=>false
   |false,false=>true
   |true,false=>Nw y||ahW i j an.2
   |false,true=>Nw x||ahW i j an.2)
def asE(ops:Array Oper)(b:Array Nat)(an:Ann):Bool:=
 (List.range ops.size).all λj=>(List.range j).all λi=>
  match ops[i]?,ops[j]? with
  |some x,some y=>RU ops b an i j x y
  |_,_=>false
def anK(ops:Array Oper):Bool:=
 (List.range ops.size).all λi=>match ops[i]? with
  |some o=>o.after.all λe=> !Region.binds .any e||Nat.blt e.on i
  |none=>false
def anD(ops:Array Oper)(b:Array Nat):Bool:=
 (List.range ops.size).all λj=>(List.range ops.size).all λi=>
  !bef b i j||(match ops[j]? with
   |some o=>o.after.any λe=>Region.binds .any e&&(Nat.beq e.on i||bef b i e.on)
   |none=>false)
def ahC(ops:Array Oper)(an:Ann):Bool:=
 anK ops&&anD ops (Region.before ops)&&asE ops (Region.before ops) an&&(ops.all λo=> !aaR o)&&
  (List.range ops.size).all λi=>match ops[i]? with|some o=> !aDn o||qC i an.1|none=>false
def aiF(n:Nat)(an:Ann)(pl:arZ):Bool:=
 (List.range n).all λi=>match pl[i]? with
  |some (h,ks)=>h==qC i an.1&&an.2.all λp=> !Nat.beq p.2 i||(Nat.blt p.1 i&&ks.contains (i-1-p.1))
  |none=>false
def ayL(π:List Nat)(ops:Array Oper):Bool:=
 Nat.beq π.length ops.size&&((List.range ops.size).all λk=>match π[k]? with|some i=>Nat.beq (yS π i) k&&Nat.blt i ops.size|none=>false)&&
  ((List.range ops.size).all λi=>match π[yS π i]? with|some j=>Nat.beq j i|none=>false)&&
  ((List.range ops.size).all λi=>match ops[i]? with
    |some o=>(o.after.all λe=>Nat.blt e.on ops.size)&&(match o.guard with|some (j,_)=>Nat.blt j ops.size|none=>true)
    |none=>false)
def V1 (P:Program)(N:Nat)(ops:Array Oper):List (Nat×Nat)->HT->Bool
 |_,.leaf an pl=>ahC ops an&&aiF ops.size an pl
 |path,.perm π es an pl=>(es.all λp=>ahW p.1 p.2 path&&Nat.blt p.1 ops.size)&&ayL π ops&&(pR π es ops).all (aAp N)&&(pR π es ops).all (CV P)&&
  ahC (pR π es ops) an&&aiF (pR π es ops).size an pl
 |path,.split a b x y=> !Nat.beq a b&&V1 P N ops ((a,b)::path) x&&V1 P N ops ((b,a)::path) y
def codeOk(P:Program)(N:Nat)(ann:FA):Code->Bool
 | .skip| .exit _| .ret| .label _=>true
 | .scope c=>codeOk P N ann c
 | .region id ops draw=>ops.all (aAp N)&&ops.all (CV P)&&(!draw||V1 P N ops [] (ann.t id))
 | .seq x y=>codeOk P N ann x&&codeOk P N ann y
 | .cond c x y=>anV c&&(codeOk P N ann x&&codeOk P N ann y)
 | .block _ c=>codeOk P N ann c
 | .loop c=>codeOk P N ann c
 | .rangeFunc gf _ _ _=>anV gf
 |_=>false
def sR:Code->Bool
 | .seq x y=>sR x&&sR y
 | .cond _ x y=>sR x&&sR y
 | .block _ c=>sR c
 | .loop c=>sR c
 | .scope c=>sR c
 | .rangeFunc .. =>false
 |_=>true
def aoK:ResultVar->Bool
 | .tmp t=>Nat.blt t DS
 | .cell a _=>Nat.blt a DS
theorem Ms(g:Env)(d i:Nat)(v:aL1):put g (some d) v i=if i=d then v else g i:=by
 unfold put
 by_cases h:i=d
 .subst h;simp
 .have:Nat.beq i d=false:=by
   cases hb:Nat.beq i d
   .rfl
   .exact absurd (aKk hb) h
  simp[this,h]
theorem asK{P:Program}{o:Oper}(h:CV P o=true):afI P o=true:=by
 unfold CV at h;simp only[aJQ]at h;exact h.1
theorem axO{P:Program}{o:Oper}(h:CV P o=true):∀x∈o.op.operands,anV x=true:=by
 unfold CV at h;simp only[aJQ]at h
 intro x hx
 exact aKx.1 h.2.1 x (by simpa using hx)
theorem axP{P:Program}{o:Oper}(h:CV P o=true):aaR o=false:=by
 unfold CV at h;simp only[aJQ,aK1]at h;exact h.2.2.1
theorem axN{P:Program}{o:Oper}(h:CV P o=true):anP o=false:=by
 unfold CV at h;simp only[aJQ,aK1]at h;exact h.2.2.2
def Vf(N:Nat)(ops:Array Oper):Prop:=∀(i:Nat) (o:Oper),ops[i]?=some o->∀t,o.dst=some t->t<N
structure Qy(N:Nat)(g:Env)(a:Act):Prop where
 le:N<=DS
 defers:a.defers=atA (g DS)
 size:a.tmps.size=N
 at_:∀i,i≠DS->a.tmps.getD i undef=g i
theorem Qy.ev {N:Nat}{g:Env}{a:Act}(h:Qy N g a)(x:Operand)(hx:anV x=true):a.eval x=ev g x:=by
 cases x with
 |tmp t=>
  have:t<DS:=(aLv (x:=t) (y:=DS))▸hx
  have e:=h.at_ t (aLy this)
  simp[Act.eval,En.ev,<-e]
 |_=>simp[Act.eval,En.ev]
theorem Qy.put {N:Nat}{g:Env}{a:Act}(h:Qy N g a)(d:Option Tmp)(v:aL1)(hd:∀t,d=some t->t<N):
 Qy N (put g d v) (a.put d v):=by
 cases d with
 |none=>exact h
 |some t=>
  obtain⟨h0,h1,h2,h3⟩:=h
  have ht:=hd t rfl
  refine⟨h0, ?_,by simp[Act.put,h2],λi hne=> ?_⟩
  .rw [Ms,if_neg (Nat.ne_of_gt (aKe ht h0))];exact h1
  .rw [Ms,<-h3 i hne]
   by_cases hi:i=t
   .subst hi;simp[Act.put,h2,ht]
   .have hi':t≠i:=λe=>hi e.symm
    simp[Act.put,hi,aKa hi']
theorem Qy.wanted {N:Nat}{g:Env}{a:Act}(h:Qy N g a)(ops:Array Oper)(hd:Vf N ops)(o:Oper):
 Region.wanted o (yielded ops a.tmps)=match o.guard with|none=>true|some (j,want)=>Br g (EK ops j) want:=by
 unfold Region.wanted
 cases o.guard with
 |none=>rfl
 |some p=>
  obtain⟨j,want⟩:=p
  simp only[yielded,Br,EK]
  cases ho:ops[j]? with
  |none=>simp
  |some o'=>
   cases hdd:o'.dst with
   |none=>simp[hdd]
   |some t=>
    have hlt:=hd j o' ho t hdd
    have hle:=h.le
    have h3:=h.at_ t (aLy (aKe hlt hle))
    simp only[hdd,Option.bind_some,bG,asB,<-h3]
    simp only[aJR]
    cases ht:a.tmps[t]? with
    |none=>simp[undef]
    |some v=>cases v<;>simp
def upX(P:Program)(o:Oper)(a:Act)(next:Act->aL0->Prop):Result Next->Prop
 | .ok (.value v) w'=>next (a.put o.dst v) w'
 | .ok .skip w'=>next (a.put o.dst undef) w'
 | .ok (.enter f args) w'=>∃v w'',Ret P f args w' v w''/\next (a.put o.dst v) w''
 | .ok (.round l f tmps aJB bd) w'=>∃v w'',aHL P l f tmps aJB bd w' v w''/\next (a.put o.dst v) w''
 |_=>False
def azG(P:Program)(o:Oper)(a:Act)(w:aL0)(next:Act->aL0->Prop):Prop:=anP o=false/\upX P o a next ((execOp a.eval o).run P w)
def Tg(P:Program)(ops:Array Oper)(i:Nat)(K:Act->aL0->Prop)(a:Act)(w:aL0):Prop:=
 match ops[i]? with
 |none=>K a w
 |some o=>if Region.wanted o (yielded ops a.tmps)then azG P o a w K else K (a.put o.dst undef) w
def EO(P:Program)(ops:Array Oper)(Q:Act->aL0->Prop):List Nat->Act->aL0->Prop
 |[],a,w=>Q a w
 |i::rest,a,w=>Tg P ops i (EO P ops Q rest) a w
def alE(P:Program)(ops:Array Oper)(Q:Act->aL0->Prop):Nat->Array Bool->Act->aL0->Prop
 |0,listed,a,w=>Region.ready .any ops listed=[]/\Q a w
 |fuel+1,listed,a,w=>
  (Region.ready .any ops listed=[]->Q a w)/\∀i∈Region.ready .any ops listed,Tg P ops i (alE P ops Q fuel (listed.setIfInBounds i true)) a w
theorem aoM{P:Program}{o:Oper}{a:Act}{w:aL0}{K K':Act->aL0->Prop}(h:∀a w,K a w->K' a w)(hh:azG P o a w K):azG P o a w K':=by
 refine⟨hh.1, ?_⟩
 have hh:=hh.2
 generalize(execOp a.eval o).run P w=r at*
 cases r with
 |ok x w'=>
  cases x<;>simp only[upX]at hh⊢<;>first|exact h _ _ hh|(obtain⟨v,w'',h1,h2⟩:=hh;exact⟨v,w'',h1,h _ _ h2⟩)|exact hh
 |halt x w'=>exact hh.elim
theorem azY{P:Program}{ops:Array Oper}{i:Nat}{a:Act}{w:aL0}{K K':Act->aL0->Prop}(h:∀a w,K a w->K' a w)(hh:Tg P ops i K a w):Tg P ops i K' a w:=by
 unfold Tg at*
 split
 .exact h _ _ (by simpa[*]using hh)
 .rename_i o ho
  simp only[ho]at hh
  split
  .rename_i hw;simp only[hw,if_true]at hh;exact aoM h hh
  .rename_i hw;simp only[hw]at hh;exact h _ _ hh
def alD(ro:Option Nat):Fence:={Fence.wide with round:=ro}
theorem aCu{P:Program}{ops:Array Oper}{Q:Act->aL0->Prop}(ro:Option Nat):∀(L:List Nat) (a:Act) (w:aL0),EO P ops Q L a w→
 wpOpsIn (alD ro) 0 P ops (λe a w=>e= .normal/\Q a w) L a w:=by
 intro L
 induction L with
 |nil=>intro a w h;exact⟨rfl,h⟩
 |cons i L ih=>
  intro a w h
  simp only[EO,Tg]at h
  simp only[wpOpsIn]
  cases ho:ops[i]? with
  |none=>rw[ho]at h;exact ih _ _ h
  |some o=>
   rw[ho]at h
   simp only at h⊢
   by_cases hw:Region.wanted o (yielded ops a.tmps)=true
   .rw [if_pos hw]at h⊢
    obtain⟨hd,h⟩:=h
    refine⟨λ_ _=>trivial, ?_⟩
    rw[Oper.semAt_eq _ _ _ (λc hc=>by simp[anP,hc]at hd)]
    generalize(execOp a.eval o).run P w=r at*
    cases r with
    |halt x w'=>exact h.elim
    |ok x w'=>
     cases x<;>simp only[upX]at h<;>simp only[Oper.uponIn]<;>try(exact h.elim)
     .exact ih _ _ h
     .exact ih _ _ h
     .obtain ⟨v,w'',h1,h2⟩:=h
      refine⟨λhn=>by simp[alD,Fence.wide]at hn, ?_⟩
      have:=callsIn_wide (n:=0).2 h1
      refine CallsIn.mono (F:=alD ro) (n:=0) this ?_
      rintro e w3 ⟨rfl,rfl⟩
      exact ih _ _ h2
     .obtain ⟨v,w'',h1,h2⟩:=h
      refine⟨λhn=>by simp[alD,Fence.wide]at hn, ?_⟩
      refine RoundIn.mono (F:=alD ro) (n:=0) h1 ?_
      rintro e w3 ⟨rfl,rfl⟩
      exact ih _ _ h2
   .rw [if_neg hw]at h⊢
    exact⟨λ_ _=>trivial,ih _ _ h⟩
section
variable{P:Program}{ops:Array Oper}
def aaI(P:Program)(ops:Array Oper)(g:Env)(o:Oper)(w:aL0)(v:aL1)(w':aL0):Prop:=
 ∀K:aL1->aL0->Prop,K v w'->IV P ops g o w K
theorem aAe{s:Sem Next}{w:aL0}{K:aL1->aL0->Prop}(h:aA P s w K):
 ∃v w',(∀K':aL1->aL0->Prop,K' v w'->aA P s w K')/\K v w':=by
 unfold aA at*
 generalize s.run P w=r at*
 match r,h with
 | .ok (.value v) w1,h=>exact⟨v,w1,λ_ h'=>h',h⟩
 | .ok .skip w1,h=>exact⟨undef,w1,λ_ h'=>h',h⟩
 | .ok (.enter f args) w1,h=>
   obtain⟨v,w',hr,hk⟩:=h
   exact⟨v,w',λ_ h'=>⟨v,w',hr,h'⟩,hk⟩
 | .ok (.round l f tmps aJB bd) w1,h=>
   obtain⟨v,w',hr,hk⟩:=h
   exact⟨v,w',λ_ h'=>⟨v,w',hr,h'⟩,hk⟩
theorem anU{g:Env}{o:Oper}{w:aL0}{K:aL1->aL0->Prop}(h:Kl P g o w K):
 ∃v w',(∀K':aL1->aL0->Prop,K' v w'->Kl P g o w K')/\K v w':=by
 unfold Kl at*
 split at h
 .exact ⟨_,_,λ_ h'=>h',h⟩
 .exact ⟨_,_,λ_ h'=>h',h⟩
 .split at h
  .obtain ⟨v,w',a,b⟩:=h
   exact⟨v,w',λ_ h'=>⟨v,w',a,h'⟩,b⟩
  .exact aAe h
 .exact aAe h
theorem aFQ(op:BinOp)(t:TypeId)(ox oy:Operand)(x y:aL1):aE op t ox oy x y=V (do eqGuard op t ox oy x y;binOp op t x y):=by
 cases op<;>simp[aE,Eo,eqGuard]
theorem aDK{g:Env}{o:Oper}(ho:CV P o=true):Mq g o=execOp (ev g) o:=by
 have ho:=asK ho
 unfold Mq
 split
 .rename_i op t x y yt hx
  simp only[execOp,hx,aFQ,V]
 .rename_i fn first captured hx
  have e1:(List.map (ev g) first.toList).toArray=first.map (ev g):=by obtain⟨l⟩:=first;simp
  have e2:(List.map (ev g) captured.toList).toArray=captured.map (ev g):=by obtain⟨l⟩:=captured;simp
  simp only[execOp,hx,Pn,V,e1,e2]
 .rename_i t ps hx
  have e:(List.map (λp:Nat×Operand=>(p.1,ev g p.2)) ps.toList).toArray=ps.map (λp=>(p.1,ev g p.2)):=by obtain⟨l⟩:=ps;simp
  simp only[execOp,hx,bV,V,e]
 .rename_i t n ps hx
  have e:(List.map (λp:Nat×Operand=>(p.1,ev g p.2)) ps.toList).toArray=ps.map (λp=>(p.1,ev g p.2)):=by obtain⟨l⟩:=ps;simp
  simp only[execOp,hx,bB,V,e]
 .rename_i c hx
  split
  .rename_i b hb
   simp only[execOp,hx,resolve,hb,pure_bind,invoke,eK]
   unfold afI at ho
   simp only[hx,hb]at ho
   have e:(List.map (ev g) c.args.toList).toArray=c.args.map (ev g):=by obtain⟨l⟩:=c.args;simp
   rw[e]
   cases b<;>first|rfl|(cases ho)
  .rename_i f hb
   have e:(List.map (ev g) c.args.toList).toArray=c.args.map (ev g):=by obtain⟨l⟩:=c.args;simp
   simp only[execOp,hx,resolve,hb,AO,e]
  .rfl
 .rfl
theorem Nj{f:FuncId}{fn:Func}(hf:P.funcs[f]?=some fn)(hb:fn.body.isSome=true)(hn:(fn.name== "runtime.NumGoroutine")=false)
 (args:Array aL1) (w:aL0):(callFunc f args).run P w= .ok (.enter f args) w:=by
 unfold callFunc
 have hb':fn.body.isNone=false:=by cases h:fn.body<;>simp_all
 show Sem.run P (Sem.program λp=>_) w=_
 simp only[Sem.run]
 simp only[bind,Sem.bind,hf,hn,hb',aJM,if_false]
 rfl
theorem NG{g:Env}{o:Oper}{w:aL0}{K:aL1->aL0->Prop}(h:IV P ops g o w K):
 ∃v w',aaI P ops g o w v w'/\K v w':=by
 unfold aaI
 unfold IV at*
 split at h
 .obtain ⟨v,w',h1,h2⟩:=anU h
  exact⟨v,w',h1,h2⟩
 .rename_i j want hg
  unfold Gd at*
  cases hb:Br g (EK ops j) want with
  |true=>
   simp only[hb]at h
   obtain⟨v,w',h1,h2⟩:=anU h
   exact⟨v,w',λK hk=>h1 K hk,h2⟩
  |false=>
   simp only[hb]at h
   exact⟨_,_,λK hk=>hk,h⟩
theorem abY{N i:Nat}{g:Env}{a:Act}{o:Oper}{w w':aL0}{v:aL1}{next:Act->aL0->Prop}
 (hi:ops[i]?=some o) (hc:CV P o=true) (hd:Vf N ops) (hr:Qy N g a) (hy:aaI P ops g o w v w') (hn:next (a.put o.dst v) w'):Tg P ops i next a w:=by
 have h:=hy (λv2 w2=>v2=v/\w2=w') ⟨rfl,rfl⟩
 unfold Tg
 rw[hi]
 simp only[hr.wanted ops hd]
 have run:Kl P g o w (λv2 w2=>v2=v/\w2=w')->azG P o a w next:=by
  intro h
  refine⟨axN hc, ?_⟩
  have hevs:execOp a.eval o=execOp (ev g) o:=execOp_congr o (λcs b he=>by have:=axP hc;simp[aaR,he]at this) (λx hx=>hr.ev x (axO hc x hx))
  have stp:aA P (Mq g o) w (λv2 w2=>v2=v/\w2=w')->upX P o a next ((execOp (ev g) o).run P w):=by
   intro h
   rw[aDK hc]at h
   unfold aA at h
   generalize(execOp (ev g) o).run P w=r at*
   match r,h with
   | .ok (.value v) w1,h=>obtain⟨rfl,rfl⟩:=h;exact hn
   | .ok .skip w1,h=>obtain⟨rfl,rfl⟩:=h;exact hn
   | .ok (.enter f args) w1,h=>
     obtain⟨v2,w2,hret,rfl,rfl⟩:=h
     exact⟨_,_,hret,hn⟩
   | .ok (.round l f tmps aJB bd) w1,h=>
     obtain⟨v2,w2,hret,rfl,rfl⟩:=h
     exact⟨_,_,hret,hn⟩
  rw[hevs]
  unfold Kl at h
  split at h
  .rename_i x hx
   obtain⟨rfl,rfl⟩:=h
   simp only[execOp,hx];exact hn
  .rename_i x hx
   obtain⟨rfl,rfl⟩:=h
   simp only[execOp,hx];exact hn
  .rename_i c hx
   split at h
   .rename_i f hcal
    obtain⟨v2,w2,hret,rfl,rfl⟩:=h
    have e:(execOp (ev g) o).run P w= .ok (.enter f (List.map (ev g) c.args.toList).toArray) w:=by
     have hc:=asK hc
     unfold afI at hc
     simp only[hx,hcal]at hc
     cases hfn:P.funcs[f]? with
     |none=>rw[hfn]at hc;cases hc
     |some fn=>
      rw[hfn]at hc
      simp only[aJQ,aK1]at hc
      have ea:(List.map (ev g) c.args.toList).toArray=c.args.map (ev g):=by obtain⟨l⟩:=c.args;simp
      rw[ea]
      simp only[execOp,hx,resolve,hcal,ev,Deferred.ofValue,pure_bind,invoke]
      simp only[Array.empty_append,Array.append_empty]
      exact Nj hfn hc.1 hc.2 _ w
    rw[e]
    exact⟨_,_,hret,hn⟩
   .exact stp h
  .exact stp h
 unfold IV at h
 cases hg:o.guard with
 |none=>
  rw[hg]at h
  simp only[if_true]
  exact run h
 |some p=>
  obtain⟨j,want⟩:=p
  simp only[hg]at h
  simp only
  by_cases hb:Br g (EK ops j) want=true
  .rw [if_pos hb]
   simp only[hb,Gd]at h
   exact run h
  .rw [if_neg hb]
   have hb':Br g (EK ops j) want=false:=by simpa using hb
   simp only[hb',Gd]at h
   obtain⟨rfl,rfl⟩:=h
   exact hn
def V8 (P:Program)(ops:Array Oper):Prop:=∀(i:Nat) (o:Oper),ops[i]?=some o->CV P o=true
theorem aBU{N:Nat}(hd:Vf N ops)(hca:V8 P ops){Q:Act->aL0->Prop}{K:Env->aL0->Prop}
 (hQ:∀g a w,Qy N g a->K g w->Q a w):
 ∀(l:List Oper) (k:Nat) (g:Env) (a:Act) (w:aL0),(∀j,l[j]?=ops[k+j]?)->Qy N g a->ahB P ops l g w K→
  EO P ops Q (List.range' k l.length) a w:=by
 intro l
 induction l with
 |nil=>intro k g a w _ hr h;exact hQ _ _ _ hr h
 |cons o l ih=>
  intro k g a w hl hr h
  have h0:ops[k]?=some o:=by have:=hl 0;simpa using this.symm
  obtain⟨v,w',hy,hk⟩:=NG h
  rw[aJX,List.range'_succ]
  show Tg P ops k (EO P ops Q _) a w
  refine abY h0 (hca k o h0) hd hr hy ?_
  refine ih (k+1) _ _ _ (λj=> ?_) (hr.put _ _ (hd k o h0)) hk
  have:=hl (j+1)
  simp only[aJJ]at this
  rw[this];congr 1;omega
def abE(an:Ann)(O:Nat->Oper)(G:Nat->Env)(W:Nat->aL0)(V:Nat->aL1)(i:Nat):Rec:=
 ⟨qC i an.1,O i,G i,W i,V i⟩
def aAl(P:Program)(ops:Array Oper)(an:Ann)(O:Nat->Oper)(G:Nat->Env)(W:Nat->aL0)(V:Nat->aL1)(i j:Nat):Prop:=
 Vn P ops (abE an O G W V i) (O j) (G j) (W (j+1)) (V j)
structure Run(P:Program)(ops:Array Oper)(an:Ann)(g0:Env)(w0:aL0)(n:Nat)(O:Nat->Oper)(G:Nat->Env)(W:Nat->aL0)(V:Nat->aL1):Prop where
 g0:G 0=g0
 w0:W 0=w0
 op:∀i,i<n->ops[i]?=some (O i)
 yld:∀i,i<n->aaI P ops (G i) (O i) (W i) (V i) (W (i+1))
 light:∀i,i<n->qC i an.1=false->W (i+1)=W i
 env:∀i,i<n->G (i+1)=put (G i) (O i).dst (V i)
 chk:∀i j,i<j->j<n->ahW i j an.2=true->aAl P ops an O G W V i j
theorem asN{o:Oper}{g:Env}{w':aL0}{v:aL1}{hist:List Rec}:∀{ks:List Nat},aE2 P ops o g w' v hist ks->∀k∈ks,∃q,auG hist k=some q/\Vn P ops q o g w' v:=by
 intro ks
 induction ks with
 |nil=>intro _ k hk;cases hk
 |cons a ks ih=>
  rintro⟨h1,h2⟩ k hk
  rcases aJK.1 hk with rfl|hk
  .cases hn:auG hist k with
   |none=>rw[hn]at h1;exact h1.elim
   |some q=>rw[hn]at h1;exact⟨q,rfl,h1⟩
  .exact ih h2 k hk
theorem aBW{n:Nat}{an:Ann}{pl:arZ}(h:aiF n an pl=true){i:Nat}(hi:i<n):
 ∃ks,pl[i]?=some (qC i an.1,ks)/\∀j,ahW j i an.2=true->j<i/\(i-1-j)∈ks:=by
 have:=aKx.1 h i (aKv.2 hi)
 cases hp:pl[i]? with
 |none=>rw[hp]at this;cases this
 |some p=>
  obtain⟨hv,ks⟩:=p
  rw[hp]at this
  simp only[aJQ]at this
  obtain⟨h1,h2⟩:=this
  have h1:hv=qC i an.1:=by simpa using h1
  refine⟨ks,by rw[h1],λj hj=> ?_⟩
  have mm:∀(l:List (Nat×Nat)),ahW j i l=true->(j,i)∈l:=by
   intro l
   induction l with
   |nil=>intro h;cases h
   |cons q r ih=>
    obtain⟨a,b⟩:=q
    intro h
    unfold ahW at h
    cases ha:Nat.beq a j with
    |true=>
     simp only[ha]at h
     cases hb:Nat.beq b i with
     |true=>
      obtain rfl:=aKk ha
      obtain rfl:=aKk hb
      exact aJ7
     |false=>simp only[hb]at h;exact aJT _ (ih h)
    |false=>simp only[ha]at h;exact aJT _ (ih h)
  have:=aKx.1 h2 (j,i) (mm _ hj)
  simp only[Nat.beq_refl,aKS,aLi,aJQ]at this
  refine⟨?_,by simpa using this.2⟩
  have hlt:=this.1
  exact(aLv (x:=j) (y:=i))▸hlt
theorem avQ{an:Ann}{pl:arZ}{g0:Env}{w0:aL0}{K:Env->aL0->Prop}(hpl:aiF ops.size an pl=true):
 ∀(l:List Oper) (m:Nat) (hist:List Rec) (O:Nat->Oper) (G:Nat->Env) (W:Nat->aL0) (V:Nat->aL1),
  (∀j,l[j]?=ops[m+j]?)->m+l.length=ops.size->Run P ops an g0 w0 m O G W V->(∀i,i<m->auG hist (m-1-i)=some (abE an O G W V i))→
  rR P ops l (pl.drop m) hist (G m) (W m) K→
  ∃(O:Nat->Oper) (G:Nat->Env) (W:Nat->aL0) (V:Nat->aL1),Run P ops an g0 w0 (m+l.length) O G W V/\K (G (m+l.length)) (W (m+l.length)):=by
 intro l
 induction l with
 |nil=>intro m hist O G W V _ _ hr _ h;exact⟨O,G,W,V,hr,by unfold rR at h;exact h⟩
 |cons o l ih=>
  intro m hist O G W V hl hlen hr hh h
  have h0:ops[m]?=some o:=by have:=hl 0;simpa using this.symm
  have hmn:m<ops.size:=by rw[aJX]at hlen;omega
  obtain⟨ks,hk1,hk2⟩:=aBW hpl hmn
  have hdrop:pl.drop m=(qC m an.1,ks)::pl.drop (m+1):=by
   have hlt:m<pl.length:=by
    rcases aKA m pl.length with h|h
    .exact h
    .rw [aKt h]at hk1;cases hk1
   rw[aKB hlt]
   rw[aJE hlt]at hk1
   rw[aKO hk1]
  rw[hdrop]at h
  obtain⟨v,w',hy,hk⟩:=NG h
  have key:(qC m an.1=false->w'=W m)/\(∀k∈ks,∃q,auG hist k=some q/\Vn P ops q o (G m) w' v)/\
      (rR P ops l (pl.drop (m+1)) (⟨qC m an.1,o,G m,W m,v⟩::hist) (put (G m) o.dst v) w' K):=by
   have nil:∀w',∀k∈([]:List Nat),∃q,auG hist k=some q/\Vn P ops q o (G m) w' v:=λ_ k hk=>(by cases hk)
   cases hm:qC m an.1 with
   |true=>
    rw[hm]at hk
    cases ks with
    |nil=>exact⟨λe=>(by cases e),nil _,hk⟩
    |cons k ks=>exact⟨λe=>(by cases e),asN hk.1,hk.2⟩
   |false=>
    rw[hm]at hk
    cases ks with
    |nil=>obtain⟨rfl,hk⟩:=hk;exact⟨λ_=>rfl,nil _,hk⟩
    |cons k ks=>obtain⟨rfl,hc,hk⟩:=hk;exact⟨λ_=>rfl,asN hc,hk⟩
  obtain⟨kl,c1,c2⟩:=key
  let O':Nat->Oper:=λi=>if i=m then o else O i
  let V':Nat->aL1:=λi=>if i=m then v else V i
  let G':Nat->Env:=λi=>if i=m+1 then put (G m) o.dst v else G i
  let W':Nat->aL0:=λi=>if i=m+1 then w' else W i
  have eO:∀i,i<m->O' i=O i:=λi hi=>if_neg (by omega)
  have eV:∀i,i<m->V' i=V i:=λi hi=>if_neg (by omega)
  have eG:∀i,i<=m->G' i=G i:=λi hi=>if_neg (by omega)
  have eW:∀i,i<=m->W' i=W i:=λi hi=>if_neg (by omega)
  have oO:O' m=o:=if_pos rfl
  have oV:V' m=v:=if_pos rfl
  have oG:G' (m+1)=put (G m) o.dst v:=if_pos rfl
  have oW:W' (m+1)=w':=if_pos rfl
  have eR:∀i,i<m->abE an O' G' W' V' i=abE an O G W V i:=λi hi=>by
   simp only[abE,eO i hi,eV i hi,eG i (by omega),eW i (by omega)]
  have hr':Run P ops an g0 w0 (m+1) O' G' W' V':=by
   refine⟨by rw[eG 0 (by omega)];exact hr.g0,by rw[eW 0 (by omega)];exact hr.w0,λi hi=> ?_,λi hi=> ?_,λi hi hm=> ?_,λi hi=> ?_,λi j hij hj hm=> ?_⟩
   .by_cases hi':i=m
    .subst hi';rw[oO];exact h0
    .rw [eO i (by omega)];exact hr.op i (by omega)
   .by_cases hi':i=m
    .subst hi';rw[oO,oV,oW,eG i (by omega),eW i (by omega)];exact hy
    .rw [eO i (by omega),eV i (by omega),eG i (by omega),eW i (by omega),eW (i+1) (by omega)];exact hr.yld i (by omega)
   .by_cases hi':i=m
    .subst hi';rw[oW,eW i (by omega)];exact kl hm
    .rw [eW i (by omega),eW (i+1) (by omega)];exact hr.light i (by omega) hm
   .by_cases hi':i=m
    .subst hi';rw[oO,oV,oG,eG i (by omega)]
    .rw [eO i (by omega),eV i (by omega),eG i (by omega),eG (i+1) (by omega)];exact hr.env i (by omega)
   .unfold aAl
    by_cases hj':j=m
    .subst hj'
     rw[eR i (by omega),oO,oV,oW,eG j (by omega)]
     obtain⟨q,hq,hc⟩:=c1 _ (hk2 i hm).2
     rw[hh i hij]at hq
     obtain rfl:=aKO hq
     exact hc
    .rw [eR i (by omega),eO j (by omega),eV j (by omega),eG j (by omega),eW (j+1) (by omega)]
     exact hr.chk i j hij (by omega) hm
  have:=ih (m+1) (⟨qC m an.1,o,G m,W m,v⟩::hist) O' G' W' V' (λj=>by
      have:=hl (j+1)
      simp only[aJJ]at this
      rw[this];congr 1;omega) (by rw[aJX]at hlen;omega) hr' (λi hi=>by
      by_cases hi':i=m
      .subst hi'
       rw[show i+1-1-i=0 from by omega]
       simp only[auG,abE,oO,oV,eG i (by omega),eW i (by omega)]
      .rw [eR i (by omega),show m+1-1-i=(m-1-i)+1 from by omega]
       exact hh i (by omega)) (by rw[oG,oW];exact c2)
  rw[aJX,show m+(l.length+1)=m+1+l.length from by omega]
  exact this
end
section
variable{P:Program}{ops:Array Oper}{an:Ann}{g0:Env}{w0:aL0}{O:Nat->Oper}{G:Nat->Env}{W:Nat->aL0}{V:Nat->aL1}
def M8 (n:Nat)(O:Nat->Oper)(V:Nat->aL1)(g0:Env)(S:Nat->Prop)(g:Env):Prop:=
 ∀s,(∃j,j<n/\S j/\(O j).dst=some s/\(∀k,k<n->S k->(O k).dst=some s->k<=j)/\g s=V j)∨
  ((∀j,j<n->S j->(O j).dst≠some s)/\g s=g0 s)
theorem M8.agree {n:Nat}{S T:Nat->Prop}{g g':Env}(h:M8 n O V g0 S g)(h':M8 n O V g0 T g')(s:Nat)
 (hs:∀j,j<n->(O j).dst=some s->(S j↔T j)):g s=g' s:=by
 rcases h s with⟨j,h1,h2,h3,h4,h5⟩|⟨h1,h2⟩<;>rcases h' s with⟨k,k1,k2,k3,k4,k5⟩|⟨k1,k2⟩
 .have a:=h4 k k1 ((hs k k1 k3).2 k2) k3
  have b:=k4 j h1 ((hs j h1 h3).1 h2) h3
  have:j=k:=by omega
  subst this;rw[h5,k5]
 .exact absurd h3 (k1 j h1 ((hs j h1 h3).1 h2))
 .exact absurd k3 (h1 k k1 ((hs k k1 k3).2 k2))
 .rw [h2,k2]
theorem M8.step {n:Nat}{S:Nat->Prop}{g:Env}(h:M8 n O V g0 S g)(i:Nat)(hi:i<n)
 (hw:∀s,(O i).dst=some s->∀j,j<n->j≠i->(O j).dst=some s->S j->j<i):
 M8 n O V g0 (λj=>S j∨j=i) (put g (O i).dst (V i)):=by
 intro s
 cases hd:(O i).dst with
 |none=>
  rcases h s with⟨j,h1,h2,h3,h4,h5⟩|⟨h1,h2⟩
  .refine .inl ⟨j,h1,.inl h2,h3,λk k1 k2 k3=> ?_,h5⟩
   rcases k2 with k2|rfl
   .exact h4 k k1 k2 k3
   .rw [hd]at k3;cases k3
  .refine .inr ⟨λj h3 h4 h5=> ?_,h2⟩
   rcases h4 with h4|rfl
   .exact h1 j h3 h4 h5
   .rw [hd]at h5;cases h5
 |some t=>
  rw[Ms]
  by_cases hst:s=t
  .subst hst
   rw[if_pos rfl]
   refine .inl ⟨i,hi,.inr rfl,hd,λk k1 k2 k3=> ?_,rfl⟩
   rcases k2 with k2|rfl
   .by_cases hk:k=i
    .omega
    .have:=hw s hd k k1 hk k3 k2;omega
   .omega
  .rw [if_neg hst]
   rcases h s with⟨j,h1,h2,h3,h4,h5⟩|⟨h1,h2⟩
   .refine .inl ⟨j,h1,.inl h2,h3,λk k1 k2 k3=> ?_,h5⟩
    rcases k2 with k2|rfl
    .exact h4 k k1 k2 k3
    .rw [hd]at k3;exact absurd (aKO k3).symm hst
   .refine .inr ⟨λj h3 h4 h5=> ?_,h2⟩
    rcases h4 with h4|rfl
    .exact h1 j h3 h4 h5
    .rw [hd]at h5;exact absurd (aKO h5).symm hst
theorem Run.envFor {n:Nat}(r:Run P ops an g0 w0 n O G W V):∀i,i<=n->M8 n O V g0 (λj=>j<i) (G i):=by
 intro i
 induction i with
 |zero=>intro _ s;exact .inr ⟨λj _ h=>absurd h (by omega),by rw[r.g0]⟩
 |succ i ih=>
  intro hi
  have h:=ih (by omega)
  have:=h.step (V:=V) i (by omega) (λs _ j _ _ _ hj=>hj)
  rw[<-r.env i (by omega)]at this
  intro s
  rcases this s with⟨j,h1,h2,h3,h4,h5⟩|⟨h1,h2⟩
  .exact .inl ⟨j,h1,by omega,h3,λk k1 k2 k3=>h4 k k1 (by omega) k3,h5⟩
  .exact .inr ⟨λj a b=>h1 j a (by omega),h2⟩
theorem Run.still {n:Nat}(r:Run P ops an g0 w0 n O G W V)(i:Nat):∀d,i+d<=n->(∀h,i<=h->h<i+d->qC h an.1=false)->W (i+d)=W i:=by
 intro d
 induction d with
 |zero=>intro _ _;rfl
 |succ d ih=>
  intro h1 h2
  rw[<-aKy,r.light (i+d) (by omega) (h2 _ (by omega) (by omega))]
  exact ih (by omega) (λh a b=>h2 h a (by omega))
theorem Run.still' {n:Nat}(r:Run P ops an g0 w0 n O G W V){i k:Nat}(hik:i<=k)(hk:k<=n)(hh:∀h,i<=h->h<k->qC h an.1=false):W k=W i:=by
 have:=r.still i (k-i) (by omega) (λh a b=>hh h a (by omega))
 rwa [show i+(k-i)=k from by omega]at this
theorem atV{i k:Nat}:(∃h,i<=h/\h<k/\qC h an.1=true)->∃h,i<=h/\h<k/\qC h an.1=true/\∀h',i<=h'->h'<h->qC h' an.1=false:=by
 rintro⟨h,h1,h2,h3⟩
 induction h using Nat.strongRecOn with
 |_ h ih=>
  by_cases hx:∃h',i<=h'/\h'<h/\qC h' an.1=true
  .obtain ⟨h',a,b,c⟩:=hx
   exact ih h' b a (by omega) c
  .refine ⟨h,h1,h2,h3,λh' a b=> ?_⟩
   cases hm:qC h' an.1
   .rfl
   .exact absurd ⟨h',a,b,hm⟩ hx
theorem ahF{i k:Nat}:(∃h,i<=h/\h<k/\qC h an.1=true)->∃h,i<=h/\h<k/\qC h an.1=true/\∀h',h<h'->h'<k->qC h' an.1=false:=by
 rintro⟨h,h1,h2,h3⟩
 induction hd:k-h using Nat.strongRecOn generalizing h with
 |_ d ih=>
  by_cases hx:∃h',h<h'/\h'<k/\qC h' an.1=true
  .obtain ⟨h',a,b,c⟩:=hx
   exact ih (k-h') (by omega) h' (by omega) b c rfl
  .refine ⟨h,h1,h2,h3,λh' a b=> ?_⟩
   cases hm:qC h' an.1
   .rfl
   .exact absurd ⟨h',a,b,hm⟩ hx
structure agF(ops:Array Oper)(an:Ann)(O:Nat->Oper)(b:Array Nat):Prop where
 back:∀i,i<ops.size->∀e∈(O i).after,Region.binds .any e=true->e.on<i
 closed:∀i j,i<ops.size->j<ops.size->bef b i j=true->∃e∈(O j).after,Region.binds .any e=true/\(e.on=i∨bef b i e.on=true)
 pair:∀i j,i<j->j<ops.size->RU ops b an i j (O i) (O j)=true
 sel:∀i,i<ops.size->aaR (O i)=false
 fn:∀i,i<ops.size->aDn (O i)=true->qC i an.1=true
theorem aCf(h:ahC ops an=true)(ho:∀i,i<ops.size->ops[i]?=some (O i)):agF ops an O (Region.before ops):=by
 unfold ahC at h
 simp only[aJQ]at h
 obtain⟨⟨⟨⟨h1,h2⟩,h3⟩,h5⟩,h6⟩:=h
 refine⟨λi hi e he hb=> ?_,λi j hi hj hb=> ?_,λi j hij hj=> ?_,λi hi=> ?_,λi hi hf=> ?_⟩
 .unfold anK at h1
  have:=aKx.1 h1 i (aKv.2 hi)
  rw[ho i hi]at this
  have:=aKP.1 this e he
  simp only[hb,aKS,aLi]at this
  exact(aLv (x:=e.on) (y:=i))▸this
 .unfold anD at h2
  have:=aKx.1 (aKx.1 h2 j (aKv.2 hj)) i (aKv.2 hi)
  rw[ho j hj]at this
  simp only[hb,aKS,aLi]at this
  obtain⟨e,he,h⟩:=Array.any_eq_true'.1 this
  simp only[aJQ,aKu]at h
  refine⟨e,he,h.1,h.2.imp (λh=>aKk h) id⟩
 .unfold asE at h3
  have:=aKx.1 (aKx.1 h3 j (aKv.2 hj)) i (aKv.2 hij)
  rw[ho i (by omega),ho j hj]at this
  exact this
 .have:=aKP.1 h5 (O i) (aLQ (ho i hi))
  simpa using this
 .have:=aKx.1 h6 i (aKv.2 hi)
  rw[ho i hi]at this
  simpa[hf]using this
theorem aDD{i j:Nat}:∀{l:List (Nat×Nat)},ahW i j l=true->(i,j)∈l:=by
 intro l
 induction l with
 |nil=>intro h;cases h
 |cons p r ih=>
  obtain⟨a,b⟩:=p
  intro h
  unfold ahW at h
  cases ha:Nat.beq a i with
  |true=>
   simp only[ha]at h
   cases hb:Nat.beq b j with
   |true=>
    obtain rfl:=aKk ha
    obtain rfl:=aKk hb
    exact aJ7
   |false=>simp only[hb]at h;exact aJT _ (ih h)
  |false=>simp only[ha]at h;exact aJT _ (ih h)
theorem agF.order {b:Array Nat}(st:agF ops an O b){S:Nat->Prop}{i:Nat}(hi:i<ops.size)
 (hdown:∀j k,j<ops.size->k<ops.size->S k->bef b j k=true->S j) (hbi:∀j,j<ops.size->bef b j i=true->S j) (hni:¬S i)
 {s:Nat} (hs:s∈looks ops (O i)∨(O i).dst=some s) {j:Nat} (hj:j<ops.size) (hji:j≠i) (hd:(O j).dst=some s):S j↔j<i:=by
 rcases aKA j i with h|h
 .refine ⟨λ_=>h,λ_=> ?_⟩
  have p:=st.pair j i h hi
  unfold RU at p
  simp only[aKu,aJQ,aK1]at p
  rcases p with p|p
  .exact hbi j hj p
  .exfalso
   have p1:=p.1
   unfold aCU at p1
   simp only[hd,aLm]at p1
   rcases hs with hs|hs
   .have:=p1.1.1;simp[hs]at this
   .have:=p1.1.2;simp[hs]at this
 .have h':i<j:=by omega
  refine⟨λhS=> ?_,λhh=>by omega⟩
  exfalso
  have p:=st.pair i j h' hj
  unfold RU at p
  simp only[aKu,aJQ,aK1]at p
  rcases p with p|p
  .exact hni (hdown i j hi hj hS p)
  .have p1:=p.1
   unfold aCU at p1
   simp only[hd,aLm]at p1
   rcases hs with hs|hs
   .have:=p1.2;simp[hs]at this
   .have:=p1.1;rw[hs]at this;simp at this
theorem Mc{g g':Env}{o:Oper}(h:∀s∈looks ops o,g s=g' s):∀x∈o.op.operands,ev g x=ev g' x:=by
 intro x hx
 cases x with
 |tmp t=>exact h t (aK9 _ (List.mem_filterMap.2 ⟨.tmp t,by simpa using hx,rfl⟩))
 |_=>rfl
theorem auI{g g':Env}{o:Oper}(hs:aaR o=false)(h:∀s∈looks ops o,g s=g' s):Mq g o=Mq g' o:=by
 have e:=execOp_congr o (λcs b he=>by simp[aaR,he]at hs) (Mc h)
 have k:=Mc h
 unfold Mq
 split
 .rename_i op t x y yt hx
  rw[k x (by simp[hx,Op.operands]),k y (by simp[hx,Op.operands])]
 .rename_i fn first captured hx
  have e1:List.map (ev g) first.toList=List.map (ev g') first.toList:=aKK λp hp=>k p (by simp[hx,Op.operands];exact .inl (by simpa using hp))
  have e2:List.map (ev g) captured.toList=List.map (ev g') captured.toList:=aKK λp hp=>k p (by simp[hx,Op.operands];exact .inr (by simpa using hp))
  rw[e1,e2]
 .rename_i t ps hx
  congr 1
  refine aKK λp hp=> ?_
  rw[k p.2 (by simp[hx,Op.operands];exact⟨p.1,by simpa using hp⟩)]
 .rename_i t n ps hx
  congr 1
  refine aKK λp hp=> ?_
  rw[k p.2 (by simp[hx,Op.operands];exact⟨p.1,by simpa using hp⟩)]
 .rename_i c hx
  split
  .rename_i b hb
   congr 1
   refine aKK λp hp=> ?_
   exact k p (by simp[hx,Op.operands,Call.operands,hb];simpa using hp)
  .rename_i f hb
   have:List.map (ev g) c.args.toList=List.map (ev g') c.args.toList:=aKK λp hp=>k p (by simp[hx,Op.operands,Call.operands,hb];exact .inr (by simpa using hp))
   rw[this,k f (by simp[hx,Op.operands,Call.operands,hb])]
  .exact e
 .exact e
theorem alU{g g':Env}{o:Oper}{j:Nat}{want:Bool}(hg:o.guard=some (j,want))(h:∀s∈looks ops o,g s=g' s):
 Br g (EK ops j) want=Br g' (EK ops j) want:=by
 cases hs:EK ops j with
 |none=>rfl
 |some t=>
  have:=h t (aLx _ (by simp[hg,hs]))
  simp[Br,this]
theorem Xe{g g':Env}{o:Oper}{w:aL0}{K:aL1->aL0->Prop}(hs:aaR o=false)(h:∀s∈looks ops o,g s=g' s)
 (hk:IV P ops g o w K):IV P ops g' o w K:=by
 have e:=auI (ops:=ops) hs h
 have run:Kl P g o w=Kl P g' o w:=by
  funext K
  unfold Kl
  split
  .rename_i x hx
   have:=Mc (ops:=ops) h x (by simp[hx,Op.operands])
   rw[this]
  .rename_i x hx
   have:=Mc (ops:=ops) h x (by simp[hx,Op.operands])
   rw[this]
  .rename_i c hx
   have k:=Mc h
   have:List.map (ev g) c.args.toList=List.map (ev g') c.args.toList:=aKK λp hp=>k p (by simp[hx,Op.operands,Call.operands];exact .inr (by simpa using hp))
   rw[this,e]
  .rw [e]
 unfold IV at*
 cases hg:o.guard with
 |none=>rw[hg]at hk;simp only at hk⊢;rwa [<-run]
 |some p=>
  obtain⟨j,want⟩:=p
  simp only[hg]at hk⊢
  rw[<-run,<-alU hg h]
  exact hk
theorem atZ{n:Nat}(hn:n=ops.size){b:Array Nat}(r:Run P ops an g0 w0 n O G W V)(st:agF ops an O b){S:Nat->Prop}{i k:Nat}(hi:i<n)(hk:k<=n)
 (hdown:∀j k,j<ops.size->k<ops.size->S k->bef b j k=true->S j) (hbi:∀j,j<ops.size->bef b j i=true->S j) (hni:¬S i)
 (hS:∀h,h<n->qC h an.1=true->(S h↔h<k)) (hl:qC i an.1=false):
 aaI P ops (G i) (O i) (W k) (V i) (W k):=by
 subst hn
 have same:Gs (gOf ops (O i) (G i)) (aP P (Mq (G i) (O i)) (V i) (W k))->Nw (O i)=false->aaI P ops (G i) (O i) (W k) (V i) (W k):=by
  intro hs hm K hK
  have run:aP P (Mq (G i) (O i)) (V i) (W k)->Kl P (G i) (O i) (W k) K:=by
   intro hs
   unfold aP at hs
   have stp:aA P (Mq (G i) (O i)) (W k) K:=by unfold aA;rw[hs];exact hK
   unfold Kl
   split
   .rename_i x hx;simp[Nw,hx]at hm
   .rename_i x hx;simp[Nw,hx]at hm
   .rename_i c hx
    have hf:aDn (O i)=false:=by
     cases hh:aDn (O i)
     .rfl
     .rw [st.fn i hi hh]at hl;cases hl
    obtain⟨cal,cargs,cats⟩:=c
    cases cal with
    |value f=>
     cases f with
     |func f=>simp[aDn,hx]at hf
     |_=>exact stp
    |_=>exact stp
   .exact stp
  have hy:=r.yld i hi (λv _=>v=V i) rfl
  unfold IV at hy⊢
  unfold gOf at hs
  cases hg:(O i).guard with
  |none=>rw[hg]at hs;exact run hs
  |some p=>
   obtain⟨j,want⟩:=p
   rw[hg]at hs
   simp only[hg]at hs hy⊢
   cases hb:Br (G i) (EK ops j) want with
   |true=>rw[hb]at hs;exact run hs
   |false=>
    rw[hb]at hy
    have:undef=V i:=hy
    show K undef (W k)
    rw[this];exact hK
 have moved:Nw (O i)=true->aaI P ops (G i) (O i) (W k) (V i) (W k):=by
  intro hm K hK
  have hy:=r.yld i hi (λv _=>v=V i) rfl
  unfold IV at hy⊢
  have mv:∀(K':aL1->aL0->Prop) w,Kl P (G i) (O i) w K'↔∃x,((O i).op= .move x∨(O i).op= .assign x)/\K' (ev (G i) x) w:=by
   intro K' w
   unfold Kl
   unfold Nw at hm
   split
   .rename_i x hx;constructor
    .intro h;exact⟨x,.inl hx,h⟩
    .rintro ⟨y,h|h,h'⟩
     .rw [hx]at h;cases h;exact h'
     .rw [hx]at h;cases h
   .rename_i x hx;constructor
    .intro h;exact⟨x,.inr hx,h⟩
    .rintro ⟨y,h|h,h'⟩
     .rw [hx]at h;cases h
     .rw [hx]at h;cases h;exact h'
   .rename_i c hx;simp[hx]at hm
   .rename_i h1 h2 _;split at hm
    .rename_i x hx;exact absurd hx (h1 x)
    .rename_i x hx;exact absurd hx (h2 x)
    .cases hm
  cases hg:(O i).guard with
  |none=>
   rw[hg]at hy
   simp only at hy⊢
   rw[mv]at hy⊢
   obtain⟨x,hx,h⟩:=hy
   exact⟨x,hx,h▸hK⟩
  |some p=>
   obtain⟨j,want⟩:=p
   simp only[hg]at hy⊢
   unfold Gd at*
   cases hb:Br (G i) (EK ops j) want with
   |true=>
    simp only[hb]at hy⊢
    rw[mv]at hy⊢
    obtain⟨x,hx,h⟩:=hy
    exact⟨x,hx,h▸hK⟩
   |false=>
    simp only[hb]at hy⊢
    rwa [hy]
 rcases Nat.le_total k i with hki|hki
 .by_cases hx:∃h,k<=h/\h<i/\qC h an.1=true
  .obtain ⟨h,h1,h2,h3,h4⟩:=atV hx
   have e:W h=W k:=r.still' h1 (by omega) h4
   have p:=st.pair h i h2 hi
   unfold RU at p
   simp only[aKu,aJQ,aK1]at p
   rcases p with p|p
   .have:=hbi h (by omega) p
    have:=(hS h (by omega) h3).1 this
    omega
   .have p2:=p.2
    rw[h3,hl]at p2
    simp only[aKu]at p2
    cases hmv:Nw (O i)with
    |true=>exact moved hmv
    |false=>
     rcases p2 with p2|p2
     .rw [hmv]at p2;cases p2
     .refine same ?_ hmv
      have c:=r.chk h i h2 hi p2
      unfold aAl Vn abE at c
      simp only[h3]at c
      rw[<-e];exact c
  .have e:W i=W k:=r.still' hki (by omega) (λh a b=>by
    cases hm:qC h an.1
    .rfl
    .exact absurd ⟨h,a,b,hm⟩ hx)
   have hy:=r.yld i hi
   rw[r.light i hi hl,e]at hy
   exact hy
 .by_cases hx:∃h,i<=h/\h<k/\qC h an.1=true
  .obtain ⟨h,h1,h2,h3,h4⟩:=ahF hx
   have hne:h≠i:=λe=>by rw[e,hl]at h3;cases h3
   have e:W k=W (h+1):=r.still' (by omega) hk (λh' a b=>h4 h' (by omega) b)
   have p:=st.pair i h (by omega) (by omega)
   unfold RU at p
   simp only[aKu,aJQ,aK1]at p
   rcases p with p|p
   .exact absurd (hdown i h (by omega) (by omega) ((hS h (by omega) h3).2 h2) p) hni
   .have p2:=p.2
    rw[h3,hl]at p2
    simp only[aKu]at p2
    cases hmv:Nw (O i)with
    |true=>exact moved hmv
    |false=>
     rcases p2 with p2|p2
     .rw [hmv]at p2;cases p2
     .refine same ?_ hmv
      have c:=r.chk i h (by omega) (by omega) p2
      unfold aAl Vn abE at c
      simp only[hl]at c
      rw[e];exact c
  .have e:W k=W i:=r.still' hki hk (λh a b=>by
    cases hm:qC h an.1
    .rfl
    .exact absurd ⟨h,a,b,hm⟩ hx)
   have hy:=r.yld i hi
   rw[r.light i hi hl,<-e]at hy
   exact hy
def kM(listed:Array Bool)(i:Nat):Prop:=listed.getD i false=true
theorem aC5 {N n:Nat}(hn:n=ops.size)(hd:Vf N ops)(hca:V8 P ops){b:Array Nat}(r:Run P ops an g0 w0 n O G W V)(st:agF ops an O b)
 {Q:Act->aL0->Prop} (hQ:∀a,Qy N (G n) a->Q a (W n)):
 ∀(fuel:Nat) (listed:Array Bool) (g:Env) (a:Act) (k:Nat),listed.size=n->Qy N g a->k<=n→
  (∀j,j<n->kM listed j->∀e∈(O j).after,Region.binds .any e=true->kM listed e.on)→
  M8 n O V g0 (kM listed) g->(∀h,h<n->qC h an.1=true->(kM listed h↔h<k))→
  ((List.range n).filter λi=> !listed.getD i false).length<=fuel→
  alE P ops Q fuel listed a (W k):=by
 subst hn
 have ready_iff:∀(listed:Array Bool),listed.size=ops.size->∀i,i∈Region.ready .any ops listed↔(i<ops.size/\¬kM listed i/\∀e∈(O i).after,Region.binds .any e=true->kM listed e.on):=by
  intro listed hsz i
  unfold Region.ready kM
  rw[aLV,aKv]
  constructor
  .rintro ⟨h1,h2⟩
   rw[r.op i h1]at h2
   simp only[aJQ,aKs,aKF]at h2
   refine⟨h1, ?_,λe he hb=> ?_⟩
   .have:=h2.1
    rw[aJR]at this⊢
    rw[aJ6 (by omega)]at this⊢
    simpa using this
   .have:=aKP.1 h2.2 e he
    simpa[hb]using this
  .rintro ⟨h1,h2,h3⟩
   refine⟨h1, ?_⟩
   rw[r.op i h1]
   simp only[aJQ,aKs,aKF]
   refine⟨?_,aKP.2 λe he=> ?_⟩
   .rw [aJR]at h2⊢
    rw[aJ6 (by omega)]at h2⊢
    simpa using h2
   .by_cases hb:Region.binds .any e=true
    .simp [hb,h3 e he hb]
    .simp [hb]
 have none_ready:∀(listed:Array Bool),listed.size=ops.size->Region.ready .any ops listed=[]->∀i,i<ops.size->kM listed i:=by
  intro listed hsz hr i
  induction i using Nat.strongRecOn with
  |_ i ih=>
   intro hi
   refine Classical.byContradiction λhl=> ?_
   have:i∈Region.ready .any ops listed:=(ready_iff listed hsz i).2 ⟨hi,hl,λe he hb=>by
    have:=st.back i hi e he hb
    exact ih e.on this (by omega)⟩
   rw[hr]at this;cases this
 have all_done:∀(listed:Array Bool) (g:Env) (a:Act) (k:Nat),Qy N g a->k<=ops.size->M8 ops.size O V g0 (kM listed) g→
     (∀h,h<ops.size->qC h an.1=true->(kM listed h↔h<k))->(∀i,i<ops.size->kM listed i)->Q a (W k):=by
  intro listed g a k hr hk he hh hall
  have e:W ops.size=W k:=r.still' hk (aJO _) (λh h1 h2=>by
   cases hm:qC h an.1
   .rfl
   .have:=(hh h h2 hm).1 (hall h h2);omega)
  have eg:g=G ops.size:=funext λs=>he.agree (r.envFor ops.size (aJO _)) s (λj hj _=>⟨λ_=>hj,λ_=>hall j hj⟩)
  rw[<-e];exact hQ a (eg▸hr)
 intro fuel
 induction fuel with
 |zero=>
  intro listed g a k hsz hr hk hdep henv hh hc
  have hall:∀i,i<ops.size->kM listed i:=by
   intro i hi
   have hnil:((List.range ops.size).filter λi=> !listed.getD i false)=[]:=aKd.1 (by omega)
   have:=List.filter_eq_nil_iff.1 hnil i (aKv.2 hi)
   unfold kM;simpa using this
  refine⟨?_,all_done listed g a k hr hk henv hh hall⟩
  rw[List.eq_nil_iff_forall_not_mem]
  intro i hi
  have:=(ready_iff listed hsz i).1 hi
  exact this.2.1 (hall i this.1)
 |succ fuel ih=>
  intro listed g a k hsz hr hk hdep henv hh hc
  refine⟨λhn=>all_done listed g a k hr hk henv hh (none_ready listed hsz hn),λi hi=> ?_⟩
  obtain⟨h1,h2,h3⟩:=(ready_iff listed hsz i).1 hi
  have hdown:∀k j,j<ops.size->k<ops.size->kM listed k->bef b j k=true->kM listed j:=by
   intro k
   induction k using Nat.strongRecOn with
   |_ k ihk=>
    intro j hj hk hl hb
    obtain⟨e,he,hbi,h⟩:=st.closed j k hj hk hb
    have hle:=hdep k hk hl e he hbi
    rcases h with h|h
    .exact h▸hle
    .have hlt:=st.back k hk e he hbi
     exact ihk e.on hlt j hj (by omega) hle h
  have hbi:∀j,j<ops.size->bef b j i=true->kM listed j:=by
   intro j hj hb
   obtain⟨e,he,hbi,h⟩:=st.closed j i hj h1 hb
   have hle:=h3 e he hbi
   rcases h with h|h
   .exact h▸hle
   .have hlt:=st.back i h1 e he hbi
    exact hdown e.on j hj (by omega) hle h
  have hdown':∀j k,j<ops.size->k<ops.size->kM listed k->bef b j k=true->kM listed j:=λj k=>hdown k j
  have hlooks:∀s∈looks ops (O i),(G i) s=g s:=λs hs=>
   (r.envFor i (by omega)).agree henv s (λj hj hd=>by
     by_cases hji:j=i
     .subst hji
      exact⟨λh=>absurd h (by omega),λh=>absurd h h2⟩
     .exact (st.order h1 hdown' hbi h2 (.inl hs) hj hji hd).symm)
  have hl':∀j,kM (listed.setIfInBounds i true) j↔(kM listed j∨j=i):=by
   intro j
   unfold kM
   rw[aJR,aJR]
   by_cases hji:j=i
   .subst hji
    rw[aJ8 (by omega)]
    simp
   .rw [aKa (λe=>hji e.symm)]
    simp[hji]
  have next:∀k',k'<=ops.size->(∀h,h<ops.size->qC h an.1=true->((kM listed h∨h=i)↔h<k'))->aaI P ops g (O i) (W k) (V i) (W k')→
      Tg P ops i (alE P ops Q fuel (listed.setIfInBounds i true)) a (W k):=by
   intro k' hk' hh' hy
   refine abY (r.op i h1) (hca i _ (r.op i h1)) hd hr hy ?_
   refine ih _ (put g (O i).dst (V i)) _ k' (by simp[hsz]) (hr.put _ _ (hd i _ (r.op i h1))) hk' ?_ ?_ ?_ ?_
   .intro j hj hlj e he hb
    rw[hl']at hlj⊢
    rcases hlj with hlj|rfl
    .exact .inl (hdep j hj hlj e he hb)
    .exact .inl (h3 e he hb)
   .have:=henv.step i h1 (λs hs j hj hji hd hlj=>(st.order h1 hdown' hbi h2 (.inr hs) hj hji hd).1 hlj)
    intro s
    rcases this s with⟨j,j1,j2,j3,j4,j5⟩|⟨j1,j2⟩
    .exact .inl ⟨j,j1,(hl' j).2 j2,j3,λk k1 k2 k3=>j4 k k1 ((hl' k).1 k2) k3,j5⟩
    .exact .inr ⟨λj a b=>j1 j a ((hl' j).1 b),j2⟩
   .intro h a b;rw[hl'];exact hh' h a b
   .have hin:i∈(List.range ops.size).filter λi=> !listed.getD i false:=
     aLV.2 ⟨aKv.2 h1,by unfold kM at h2;simpa using h2⟩
    have e1:((List.range ops.size).filter λj=> !(listed.setIfInBounds i true).getD j false)=((List.range ops.size).filter λj=> !listed.getD j false).filter λj=>j !=i:=by
     rw[List.filter_filter]
     refine List.filter_congr λj _=> ?_
     have:=hl' j
     unfold kM at this
     by_cases hji:j=i
     .have hh:(listed.setIfInBounds i true).getD j false=true:=this.2 (.inr hji)
      rw[hh,hji];simp
     .have hne:(j !=i)=true:=by simpa using hji
      rw[hne,aKM]
      cases ha:listed.getD j false with
      |true=>rw[this.2 (.inl ha)]
      |false=>
       cases hb:(listed.setIfInBounds i true).getD j false with
       |false=>rfl
       |true=>rcases this.1 hb with h|h
              .rw [ha]at h;cases h
              .exact absurd h hji
    have hnd:((List.range ops.size).filter λj=> !listed.getD j false).Nodup:=List.nodup_range.filter _
    rw[e1,<-List.Nodup.erase_eq_filter hnd,aLJ hin]
    omega
  cases hm:qC i an.1 with
  |true=>
   have hS:∀h,h<ops.size->qC h an.1=true->(kM listed h↔h<i):=by
    intro h hh1 hhm
    rcases Nat.lt_trichotomy h i with hlt|heq|hgt
    .refine ⟨λ_=>hlt,λ_=> ?_⟩
     have p:=st.pair h i hlt h1
     unfold RU at p
     rw[hhm,hm]at p
     simp only[aKu,aJQ,aJM,and_false,or_false]at p
     exact hbi h hh1 p
    .subst heq;exact⟨λhh=>absurd hh h2,λhh=>absurd hh (by omega)⟩
    .refine ⟨λhl=> ?_,λhh=>absurd hh (by omega)⟩
     have p:=st.pair i h hgt hh1
     unfold RU at p
     rw[hhm,hm]at p
     simp only[aKu,aJQ,aJM,and_false,or_false]at p
     exact absurd (hdown h i h1 hh1 hl p) h2
   have eW:W k=W i:=by
    rcases Nat.le_total k i with hki|hki
    .exact (r.still' hki (by omega) (λh a b=>by
      cases hx:qC h an.1
      .rfl
      .have:=(hh h (by omega) hx).1 ((hS h (by omega) hx).2 b);omega)).symm
    .exact r.still' hki hk (λh a b=>by
      cases hx:qC h an.1
      .rfl
      .have:=(hS h (by omega) hx).1 ((hh h (by omega) hx).2 b);omega)
   refine next (i+1) (by omega) (λh a b=> ?_) ?_
   .rw [hS h a b];omega
   .rw [eW]
    intro K hK
    exact Xe (ops:=ops) (st.sel i h1) hlooks (r.yld i h1 K hK)
  |false=>
   refine next k hk (λh a b=> ?_) ?_
   .rw [<-hh h a b]
    constructor
    .rintro (h'|rfl)
     .exact h'
     .rw [hm]at b;cases b
    .exact .inl
   .intro K hK
    exact Xe (ops:=ops) (st.sel i h1) hlooks (atZ rfl r st h1 hk hdown' hbi h2 hh hm K hK)
end
abbrev agH(P:Program):Machine->Prop:=Machine.fenced P Fence.wide
def wpF(P:Program)(f:FuncId)(ro:Option Nat)(c:Code)(Q:Exit->Act->aL0->Prop)(a:Act)(w:aL0):Prop:=
 ∀(b:Frame) (k:List Item) (cs:List Frame),b.fn=f->b.roundOf=ro->∃e a' w',Q e a' w'/\ArrivesIn (agH P) P (lone (b.atR a (.code c::k)) cs w) b k cs e a' w'
section
variable{P:Program}{f:FuncId}{ro:Option Nat}{Q:Exit->Act->aL0->Prop}{a:Act}{w:aL0}
theorem IU{m m1:Machine}(h:step P m= .next m1):StepsIn (agH P) P m m1:= .one (fenced_wide P m) h
theorem OY{m m1 m2:Machine}(h:step P m= .next m1)(h':StepsIn (agH P) P m1 m2):StepsIn (agH P) P m m2:= .head (fenced_wide P m) h h'
theorem aEL(h:Q .normal a w):wpF P f ro .skip Q a w:=λ_ _ _ _ _=>⟨.normal,a,w,h,IU Go.stepR_skip⟩
theorem aCr{l:Nat}(h:Q .normal a w):wpF P f ro (.label l) Q a w:=λ_ _ _ _ _=>⟨.normal,a,w,h,IU stepR_label⟩
theorem awY{id:Nat}(h:Q (.exit id) a w):wpF P f ro (.exit id) Q a w:=
 λ_ k _ _ _=>⟨.exit id,a,w,h,λ_ hk=>IU (stepR_exit hk),λ_ hk=>⟨k,hk,.refl _⟩⟩
theorem aBf(h:Q .ret a w):wpF P f ro .ret Q a w:=
 λ_ k _ _ _=>⟨.ret,a,w,h,λhn=>⟨_,IU (stepR_ret hn)⟩,λ_=>⟨k,.refl _⟩⟩
theorem aF3 {x y:Code}(h:wpF P f ro x (Exit.then (wpF P f ro y Q) Q) a w):wpF P f ro (.seq x y) Q a w:=by
 intro b k cs hb hro
 obtain⟨e,a1,w1,hq,har⟩:=h b (.code y::k) cs hb hro
 cases e with
 |normal=>
  obtain⟨e2,a2,w2,hq2,har2⟩:=hq b k cs hb hro
  exact⟨e2,a2,w2,hq2,.of_steps (OY stepR_seq har) har2⟩
 |_=>exact⟨_,a1,w1,hq,.of_steps (IU stepR_seq) (.pass (x:= .code y) rfl (λ_ _=> .inl (by simp)) har)⟩
theorem aEJ{c:Operand}{x y:Code}{t:Bool}(hc:a.eval c= .bool t)(h:wpF P f ro (if t then x else y) Q a w):wpF P f ro (.cond c x y) Q a w:=
 λb k cs hb hro=>let⟨e,a1,w1,q,r⟩:=h b k cs hb hro;⟨e,a1,w1,q,.of_steps (IU (stepR_cond hc)) r⟩
theorem aCq{id:Nat}{c:Code}(h:wpF P f ro c (Exit.inBlock id Q) a w):wpF P f ro (.block id c) Q a w:=by
 intro b k cs hb hro
 obtain⟨e,a1,w1,hq,har⟩:=h b (.inBlock id::k) cs hb hro
 cases e with
 |normal=>exact⟨.normal,a1,w1,hq,OY stepR_block (StepsIn.trans har (IU stepR_inBlock))⟩
 |exit i=>
  by_cases hid:i=id
  .simp only[Exit.inBlock,hid,if_true]at hq
   exact⟨.normal,a1,w1,hq,OY stepR_block (har.1 k (by simp[exitTo,hid]))⟩
  .simp only[Exit.inBlock,hid,if_false]at hq
   have this:(id==i)=false:=by simp;exactλh=>hid h.symm
   have hx:exitTo i (.inBlock id::k)=exitTo i k:=by simp[exitTo,this]
   exact⟨.exit i,a1,w1,hq,λk' hk=>OY stepR_block (har.1 k' (by rw[hx];exact hk)),
    λhr' hk=>let⟨k1,h1,h2⟩:=har.2 hr' (by rw[hx];exact hk);⟨k1,h1,OY stepR_block h2⟩⟩
 |goto l=>
  have hx:gotoIn l (.inBlock id::k)=gotoIn l k:=by simp[gotoIn]
  exact⟨_,a1,w1,hq,λk' hk=>OY stepR_block (har.1 k' (by rw[hx];exact hk)),
   λhr' hk=>let⟨k1,h1,h2⟩:=har.2 hr' (by rw[hx];exact hk);⟨k1,h1,OY stepR_block h2⟩⟩
 |ret=>exact⟨_,a1,w1,hq,.of_steps (IU stepR_block) har⟩
 |panic ch=>exact⟨_,a1,w1,hq,.of_steps (IU stepR_block) har⟩
 |outgrown=>exact⟨_,a1,w1,hq,.of_steps (IU stepR_block) har⟩
theorem Cv{b:Frame}{k:List Item}{cs:List Frame}{c:Code}:
 step P (lone (b.atR a (.code (.scope c)::k)) cs w)= .next (lone (b.atR a (.code c:: .inScope c::k)) cs w):=
 step_lone_go (by simp[stepG,stepG.exec,Frame.atR])
theorem amX{b:Frame}{k:List Item}{cs:List Frame}{c:Code}:
 step P (lone (b.atR a (.inScope c::k)) cs w)= .next (lone (b.atR a k) cs w):=
 step_lone_go (by simp[stepG,stepG.exec,Frame.atR])
theorem aCt{c:Code}(h:wpF P f ro c (Exit.noGoto Q) a w):wpF P f ro (.scope c) Q a w:=by
 intro b k cs hb hro
 obtain⟨e,a1,w1,hq,har⟩:=h b (.inScope c::k) cs hb hro
 cases e with
 |normal=>exact⟨.normal,a1,w1,hq,OY Cv (StepsIn.trans har (IU amX))⟩
 |exit id=>
  have hx:exitTo id (.inScope c::k)=exitTo id k:=by simp[exitTo]
  exact⟨.exit id,a1,w1,hq,λk' hk=>OY Cv (har.1 k' (by rw[hx];exact hk)),
   λhr' hk=>let⟨k1,h1,h2⟩:=har.2 hr' (by rw[hx];exact hk);⟨k1,h1,OY Cv h2⟩⟩
 |goto l=>exact hq.elim
 |ret=>exact⟨_,a1,w1,hq,.of_steps (IU Cv) har⟩
 |panic ch=>exact⟨_,a1,w1,hq,.of_steps (IU Cv) har⟩
 |outgrown=>exact⟨_,a1,w1,hq,.of_steps (IU Cv) har⟩
theorem aEK{c:Code}(I:Act->aL0->Prop)(μ:Act->aL0->Nat)(h0:I a w)
 (round:∀a w,I a w->wpF P f ro c (Exit.then (λa' w'=>I a' w'/\μ a' w'<μ a w) Q) a w):wpF P f ro (.loop c) Q a w:=by
 intro b k cs hb hro
 have key:∀n a w,μ a w=n->I a w→
     ∃e a' w',Q e a' w'/\ArrivesIn (agH P) P (lone (b.atR a (.code c:: .inLoop c::k)) cs w) b k cs e a' w':=by
  intro n
  induction n using Nat.strongRecOn with
  |_ n ih=>
   intro a w hn hI
   obtain⟨e,a1,w1,hq,har⟩:=round a w hI b (.inLoop c::k) cs hb hro
   cases e with
   |normal=>
    obtain⟨hI1,hlt⟩:=hq
    obtain⟨e2,a2,w2,hq2,har2⟩:=ih (μ a1 w1) (hn▸hlt) a1 w1 rfl hI1
    exact⟨e2,a2,w2,hq2,.of_steps (StepsIn.trans har (IU stepR_inLoop)) har2⟩
   |_=>exact⟨_,a1,w1,hq,.pass (x:= .inLoop c) rfl (λ_ _=> .inl (by simp)) har⟩
 obtain⟨e,a',w',hq,har⟩:=key _ a w rfl h0
 exact⟨e,a',w',hq,.of_steps (IU stepR_loop) har⟩
theorem aBe{ops:Array Oper}{L:List Nat}(h:EO P ops (Q .normal) L a w)(b:Frame)(k:List Item)(cs:List Frame)(hro:b.roundOf=ro):
 ∃e a' w',Q e a' w'/\ArrivesIn (agH P) P (lone (b.atR a (.inRegion ops L::k)) cs w) b k cs e a' w':=by
 obtain⟨e,a',w',⟨rfl,hq⟩,hs⟩:=wp_opsIn (F:=alD ro) (n:=0) L a w (aCu ro L a w h) b k cs hro trivial (λ_ h=>by simp[alD,Fence.wide]at h)
 exact⟨.normal,a',w',hq,hs⟩
theorem azX{id:Nat}{ops:Array Oper}(h:EO P ops (Q .normal) (List.range ops.size) a w):wpF P f ro (.region id ops false) Q a w:=by
 intro b k cs hb hro
 obtain⟨e,a1,w1,q,r⟩:=aBe h b k cs hro
 exact⟨e,a1,w1,q,.of_steps (IU stepR_region) r⟩
theorem afE(hm:P.follows .mixedOrders=true){id:Nat}{ops:Array Oper}
 (h:EO P ops (Q .normal) (Region.schedule true ops (w.tape w.drawn (.order f id))) a {w with drawn:=w.drawn+1}):wpF P f ro (.region id ops true) Q a w:=by
 intro b k cs hb hro
 obtain⟨e,a1,w1,q,r⟩:=aBe h b k cs hro
 refine⟨e,a1,w1,q,.of_steps (IU ?_) r⟩
 have:= @stepR_region_draw P b a k cs w ops id
 rw[hm,hb]at this
 exact this
def G3 (v:aL1)(w:aL0)(K:aL0->Prop):Prop:=
 match v with
 | .pointer (some a)=>w.heap[a.block]?=some (.deferred (some []))/\K (w.putObj a.block (.deferred none))
 |_=>K w
def aBn(P:Program)(fn:Func)(R:aL1->aL0->Prop):Exit->Act->aL0->Prop
 | .normal,a,w| .ret,a,w=>∃m,a.defers=atA m/\G3 m w λw'=>∃v,(results fn a.tmps).run P w'= .ok v w'/\R v w'
 |_,_,_=>False
theorem atW{fn:Func}{R:aL1->aL0->Prop}{fr:Frame}{cs:List Frame}(hm:fr.mode= .returning)(hf:P.funcs[fr.fn]?=some fn)(hk:fr.kind= .normal){m:aL1}(hd:fr.defers=atA m)
 (h:G3 m w λw'=>∃v,(results fn fr.tmps).run P w'= .ok v w'/\R v w'):
 ∃v w' fr',R v w'/\Steps P (lone fr cs w) (lone fr' cs w')/\fr'.fn=fr.fn/\fr'.leaving P w' (.returned v):=by
 have nil:fr.defers=[]->(∃v,(results fn fr.tmps).run P w= .ok v w/\R v w)→
     ∃v w' fr',R v w'/\Steps P (lone fr cs w) (lone fr' cs w')/\fr'.fn=fr.fn/\fr'.leaving P w' (.returned v):=by
  rintro hd ⟨v,hv,hR⟩
  exact⟨v,w,fr,hR,.refl _ _,rfl,hm,hd,hk,fn,hf,hv⟩
 cases m with
 |pointer p=>
  cases p with
  |none=>exact nil hd h
  |some a=>
   obtain⟨h1,v,hv,hR⟩:=h
   have hs:=step_collected (P:=P) (fr:=fr) (cs:=cs) (w:=w) (d:={target:= .collected a.block,args:= #[]}) (r:=a.block) (ds:=[]) (calls:=[])
    (by rw[hm];simp) hd rfl (run_takeDeferred h1)
   exact⟨v,_,{fr with defers:=[]},hR,.head hs (.refl _ _),rfl,hm,rfl,hk,fn,hf,hv⟩
 |_=>exact nil hd h
theorem apN{fn:Func}{c:Code}{args:Array aL1}{w:aL0}{R:aL1->aL0->Prop}
 (hf:P.funcs[f]?=some fn) (hb:fn.body=some c)
 (h:wpF P f none c (aBn P fn R) {tmps:=args++Array.replicate (fn.ntmps-args.size) undef,defers:=[]} w):Calls P f args w λe w'=>∃v,e= .returned v/\R v w':=by
 intro cs
 let b:Frame:={(default:Frame)with fn:=f,kind:= .normal,roundOf:=none}
 have henter:Frame.enter P f args .normal=b.atR {tmps:=args++Array.replicate (fn.ntmps-args.size) undef,defers:=[]} [.code c]:=by
  simp[Frame.enter,Frame.atR,hf,hb,b]
 obtain⟨e,a',w',hq,har⟩:=h b [] cs rfl rfl
 rw[<-henter]at har
 cases e with
 |normal=>
  obtain⟨m,hd,hq⟩:=hq
  obtain⟨v,w2,fr,hR,hs,hfn,hl⟩:=atW (P:=P) (cs:=cs) (fr:={b.atR a' []with mode:= .returning}) rfl hf rfl hd hq
  exact⟨.returned v,w2,fr,⟨v,rfl,hR⟩,(StepsIn.steps har).trans (.head (stepR_end rfl) hs),hfn,hl⟩
 |ret=>
  obtain⟨m,hd,hq⟩:=hq
  obtain⟨todo,hs0⟩:=har.1 rfl
  obtain⟨v,w2,fr,hR,hs,hfn,hl⟩:=atW (P:=P) (cs:=cs) (fr:={b.atR a' todo with mode:= .returning}) rfl hf rfl hd hq
  exact⟨.returned v,w2,fr,⟨v,rfl,hR⟩,(StepsIn.steps hs0).trans hs,hfn,hl⟩
 |panic chain=>exact hq.elim
 |exit id=>exact hq.elim
 |goto l=>exact hq.elim
 |outgrown=>exact hq.elim
def aGp(P:Program)(f:FuncId)(Q:Exit->Act->aL0->Prop)(a:Act)(w:aL0):Option Code->Prop
 |none=>Q .normal a w
 |some c=>wpF P f none c Q a w
theorem aCs{gf:Operand}{ps:Array Tmp}{aJB bd:Code}{d:Deferred}{g:FuncId}{args:Array aL1}{w1:aL0}{l:Nat}{mark:List Deferred}{w2 w3:aL0}{v:aL1}
 (he:(Instr.enterLoop f a.tmps ps aJB bd none).run P w= .ok (l,mark) w1)
 (hres:(resolve a.eval (rangeCall gf l) 0).run P w1= .ok d w1) (hinv:(invoke d.target d.args).run P w1= .ok (.enter g args) w2)
 (hcall:Ret P g args w2 v w3)
 {jump:Option Code} {w4:aL0} (hend:(Instr.endLoop l).run P w3= .ok jump w4)
 (hj:aGp P f Q {a with defers:=mark++a.defers} w4 jump):
 wpF P f none (.rangeFunc gf ps aJB bd) Q a w:=by
 intro b k cs hb hro
 rw[<-hb,<-hro]at he
 have henter:=stepR_rangeFunc (P:=P) (b:=b) (a:=a) (k:=k) (cs:=cs) (w:=w) he hres hinv
 obtain⟨e,w3',fr,⟨rfl,rfl⟩,hsteps,hfn,hleave⟩:=hcall (b.atR {a with defers:=mark++a.defers} (.inRangeFunc l::k)::cs)
 have sback:StepsIn (agH P) P (lone (b.atR a (.code (.rangeFunc gf ps aJB bd)::k)) cs w) (lone (b.atR {a with defers:=mark++a.defers} ((jump.map Item.code).toList++k)) cs w4):=by
  refine OY henter (StepsIn.trans (stepsIn_wide.2 hsteps) (OY (m1:=lone (b.atR {a with defers:=mark++a.defers} (.endRangeFunc l::k)) cs w3') ?_ (IU (stepR_endRangeFunc hend))))
  rw[<-finish_atR_inRangeFunc l v];exact step_leave_returned hleave
 cases jump with
 |none=>exact⟨.normal,_,w4,hj,sback⟩
 |some c=>
  obtain⟨e',a'',w5,hq,harr⟩:=hj b k cs hb hro
  exact⟨e',a'',w5,hq,.of_steps sback harr⟩
def ayZ(P:Program)(l:Nat)(R:aL1->aL0->Prop):Exit->Act->aL0->Prop
 | .normal,_,w=>∃v w',(Instr.endRound l none).run P w= .ok v w'/\R v w'
 | .ret,_,w=>∃v w',(Instr.endRound l (some .ret)).run P w= .ok v w'/\R v w'
 | .exit id,_,w=>∃v w',(Instr.endRound l (some (.exit id))).run P w= .ok v w'/\R v w'
 |_,_,_=>False
theorem aqV{l:Nat}{tmps:Array aL1}{aJB bd:Code}{R:aL1->aL0->Prop}
 (h:wpF P f (some l) aJB (Exit.then (λa1 w1=>∃w2,(Instr.beginRound l).run P w1= .ok () w2/\wpF P f (some l) bd (ayZ P l R) a1 w2) (λ_ _ _=>False))
   {tmps:=tmps,defers:=[]} w):
 RoundIn Fence.wide 0 P l f tmps aJB bd w λe w'=>∃v,e= .returned v/\R v w':=by
 refine⟨trivial,λc cs _=> ?_⟩
 let b:Frame:={(default:Frame)with fn:=f,kind:= .normal,roundOf:=some l}
 have hb0:Frame.round l f tmps aJB bd .normal=b.atR {tmps:=tmps,defers:=[]} [.code aJB,.beginRound,.code bd]:=by
  simp[Frame.round,Frame.atR,b]
 obtain⟨e,a1,w1,hq,harr⟩:=h b [.beginRound,.code bd] (c::cs) rfl rfl
 rw[<-hb0]at harr
 cases e with
 |normal=>
  obtain⟨w2,hbr,hbody⟩:=hq
  have s1:=IU (stepR_beginRound (P:=P) (b:=b) (a:=a1) (k:=[.code bd]) (cs:=c::cs) rfl hbr)
  obtain⟨e2,a2,w3,hq2,harr2⟩:=hbody b [] (c::cs) rfl rfl
  cases e2 with
  |normal=>
   obtain⟨v,w4,hend,hR⟩:=hq2
   exact⟨.returned v,w4,⟨v,rfl,hR⟩,(StepsIn.trans harr s1).trans (StepsIn.trans harr2 (IU (stepR_round_end rfl rfl hend)))⟩
  |ret=>
   obtain⟨v,w4,hend,hR⟩:=hq2
   obtain⟨k1,hs⟩:=harr2.2 rfl
   exact⟨.returned v,w4,⟨v,rfl,hR⟩,(StepsIn.trans harr s1).trans (StepsIn.trans hs (IU (stepR_round_ret rfl rfl hend)))⟩
  |exit id=>
   obtain⟨v,w4,hend,hR⟩:=hq2
   obtain⟨k1,hk,hs⟩:=harr2.2 rfl rfl
   exact⟨.returned v,w4,⟨v,rfl,hR⟩,(StepsIn.trans harr s1).trans (StepsIn.trans hs (IU (stepR_round_exit rfl rfl hk hend)))⟩
  |goto t=>exact hq2.elim
  |panic chain=>exact hq2.elim
  |outgrown=>exact hq2.elim
 |exit id=>exact hq.elim
 |goto t=>exact hq.elim
 |ret=>exact hq.elim
 |panic chain=>exact hq.elim
 |outgrown=>exact hq.elim
end
def apD(ops:Array Oper):Nat->Array Bool->List Nat->Prop
 |0,_,L=>L=[]
 |_+1,listed,[]=>Region.ready .any ops listed=[]
 |n+1,listed,i::L=>i∈Region.ready .any ops listed/\apD ops n (listed.setIfInBounds i true) L
section
variable{P:Program}{ops:Array Oper}{Q:Act->aL0->Prop}
theorem aFr:∀(fuel t:Nat) (listed:Array Bool),apD ops fuel listed (Region.linearise.go .any ops fuel t listed []):=by
 intro fuel
 induction fuel with
 |zero=>intro t listed;simp[Region.linearise.go,apD]
 |succ fuel ih=>
  intro t listed
  simp only[Region.linearise.go]
  change apD ops (fuel+1) listed (match(Region.ready .any ops listed)[t%(Region.ready .any ops listed).length]? with
   |some i=>Region.linearise.go .any ops fuel (t/(Region.ready .any ops listed).length) (listed.setIfInBounds i true) [i]
   |none=>[].reverse)
  cases hi:(Region.ready .any ops listed)[t%(Region.ready .any ops listed).length]? with
  |none=>
   have:Region.ready .any ops listed=[]:=by
    cases hr:Region.ready .any ops listed with
    |nil=>rfl
    |cons x xs=>
     rw[hr]at hi
     have hlt:t%(x::xs).length<(x::xs).length:=aLo _ (by simp)
     rw[aJE hlt]at hi
     cases hi
   simpa[apD]using this
  |some i=>
   simp only[]
   rw[linearise_go_acc]
   exact⟨aKR hi,ih _ _⟩
theorem YM:∀(fuel:Nat) (listed:Array Bool) (L:List Nat) (a:Act) (w:aL0),alE P ops Q fuel listed a w->apD ops fuel listed L->EO P ops Q L a w:=by
 intro fuel
 induction fuel with
 |zero=>intro listed L a w h hL;obtain rfl:L=[]:=hL;exact h.2
 |succ fuel ih=>
  intro listed L a w h hL
  cases L with
  |nil=>exact h.1 hL
  |cons i L=>
   exact azY (λa w hh=>ih _ _ a w hh hL.2) (h.2 i hL.1)
end
structure Perm(π:List Nat)(ops:Array Oper):Prop where
 len:π.length=ops.size
 to:∀i,i<ops.size->yS π i<ops.size/\π[yS π i]?=some i
 back:∀k,k<ops.size->∃i,π[k]?=some i/\yS π i=k/\i<ops.size
 after:∀(i:Nat) (o:Oper),ops[i]?=some o->∀e∈o.after,e.on<ops.size
 guard:∀(i:Nat) (o:Oper) (j:Nat) (b:Bool),ops[i]?=some o->o.guard=some (j,b)->j<ops.size
theorem aFI{π:List Nat}{ops:Array Oper}(h:ayL π ops=true):Perm π ops:=by
 unfold ayL at h
 simp only[aJQ]at h
 obtain⟨⟨⟨h1,h2⟩,h3⟩,h4⟩:=h
 have h1:=aKk h1
 have at4:∀(i:Nat) (o:Oper),ops[i]?=some o->(o.after.all λe=>Nat.blt e.on ops.size)=true/\(match o.guard with|some (j,_)=>Nat.blt j ops.size|none=>true)=true:=by
  intro i o ho
  have hi:i<ops.size:=by
   rcases aKA i ops.size with h|h
   .exact h
   .rw [aKn h]at ho;cases ho
  have:=aKx.1 h4 i (aKv.2 hi)
  rw[ho]at this
  simp only[aJQ]at this
  refine⟨this.1, ?_⟩
  have h:=this.2
  revert h
  cases o.guard<;>exact id
 refine⟨h1,λi hi=> ?_,λk hk=> ?_,λi o ho e he=> ?_,λi o j b ho hg=> ?_⟩
 .have:=aKx.1 h3 i (aKv.2 hi)
  cases hp:π[yS π i]? with
  |none=>rw[hp]at this;cases this
  |some j=>
   rw[hp]at this
   obtain rfl:=aKk this
   refine⟨?_,rfl⟩
   rcases aKA (yS π j) π.length with h|h
   .omega
   .rw [aKt h]at hp;cases hp
 .have:=aKx.1 h2 k (aKv.2 hk)
  cases hp:π[k]? with
  |none=>rw[hp]at this;cases this
  |some i=>
   rw[hp]at this
   simp only[aJQ]at this
   exact⟨i,rfl,aKk this.1,(aLv (x:=i) (y:=ops.size))▸this.2⟩
 .have:=aKP.1 (at4 i o ho).1 e he
  exact(aLv (x:=e.on) (y:=ops.size))▸this
 .have:=(at4 i o ho).2
  rw[hg]at this
  exact(aLv (x:=j) (y:=ops.size))▸this
theorem anY{π:List Nat}{es:List (Nat×Nat)}{l:List Oper}:∀(r:List Nat),(∀i∈r,i<l.length)->(Xh π es l r).length=r.length/\∀k i:Nat,r[k]?=some i->(Xh π es l r)[k]?=(l[i]?).map (Lf π es i):=by
 intro r
 induction r with
 |nil=>intro _;exact⟨rfl,λk i h=>by simp at h⟩
 |cons j r ih=>
  intro h
  obtain⟨h1,h2⟩:=ih λi hi=>h i (aJT _ hi)
  have hj:j<l.length:=h j (by simp)
  simp only[Xh,aJE hj]
  refine⟨by simp[h1],λk i hk=> ?_⟩
  cases k with
  |zero=>simp at hk;subst hk;simp[aJE hj]
  |succ k=>simp at hk⊢;exact h2 k i hk
section
variable{P:Program}{ops:Array Oper}{Q:Act->aL0->Prop}{π:List Nat}{es:List (Nat×Nat)}
theorem Perm.mem (p:Perm π ops):∀i∈π,i<ops.toList.length:=by
 intro i hi
 obtain⟨k,hk,e⟩:=aLs hi
 obtain⟨j,h1,_,h2⟩:=p.back k (by rw[<-p.len];exact hk)
 rw[aJE hk]at h1
 cases h1
 rw[<-e];simpa using h2
theorem Perm.size (p:Perm π ops):(pR π es ops).size=ops.size:=by
 unfold pR
 rw[aKL,(anY (es:=es) (π:=π) π p.mem).1,p.len]
theorem Perm.get (p:Perm π ops){i:Nat}(hi:i<ops.size):(pR π es ops)[yS π i]?=(ops[i]?).map (Lf π es i):=by
 unfold pR
 have:=(anY (es:=es) (π:=π) π p.mem).2 (yS π i) i (p.to i hi).2
 rw[aLg]at this
 simpa using this
theorem ayM{i:Nat}{o:Oper}{a:Act}{w:aL0}{K:Act->aL0->Prop}:azG P (Lf π es i o) a w K↔azG P o a w K:=by
 unfold azG
 have h1:execOp a.eval (Lf π es i o)=execOp a.eval o:=by
  obtain⟨d,op,ty,ps,af,g⟩:=o
  cases op<;>rfl
 have h2:anP (Lf π es i o)=anP o:=rfl
 rw[h1,h2]
 generalize(execOp a.eval o).run P w=r
 cases r with
 |ok n w=>cases n<;>exact Iff.rfl
 |halt x w=>exact Iff.rfl
theorem auP(p:Perm π ops){i:Nat}{o:Oper}(ho:ops[i]?=some o)(tmps:Array aL1):
 Region.wanted (Lf π es i o) (yielded (pR π es ops) tmps)=Region.wanted o (yielded ops tmps):=by
 unfold Region.wanted Lf
 simp only
 cases hg:o.guard with
 |none=>rfl
 |some q=>
  obtain⟨j,b⟩:=q
  simp only
  have hj:=p.guard i o j b ho hg
  have:(pR π es ops)[yS π j]?.bind (·.dst)=(ops[j]?).bind (·.dst):=by
   rw[p.get hj]
   cases ops[j]?<;>rfl
  unfold yielded
  rw[this]
theorem azZ(p:Perm π ops):∀(L:List Nat),(∀i∈L,i<ops.size)->∀(a:Act) (w:aL0),EO P (pR π es ops) Q (L.map (yS π)) a w->EO P ops Q L a w:=by
 intro L
 induction L with
 |nil=>intro _ a w h;exact h
 |cons i L ih=>
  intro hL a w h
  rw[aJU]at h
  simp only[EO]at h⊢
  have hi:=hL i (by simp)
  have ih:=ih λi hi=>hL i (aJT _ hi)
  unfold Tg at h⊢
  rw[p.get hi]at h
  rw[aJ6 hi]at h⊢
  simp only[aKs]at h
  rw[auP p (aJ6 hi)]at h
  simp only
  split
  .rename_i hw
   rw[if_pos hw,ayM]at h
   exact aoM (λa w=>ih a w) h
  .rename_i hw
   rw[if_neg hw]at h
   exact ih _ _ h
theorem Ts{ops:Array Oper}{listed:Array Bool}(hsz:listed.size=ops.size)(i:Nat):
 i∈Region.ready .any ops listed↔(i<ops.size/\listed.getD i false=false/\∀o,ops[i]?=some o->∀e∈o.after,Region.binds .any e=true->listed.getD e.on false=true):=by
 unfold Region.ready
 rw[aLV,aKv]
 constructor
 .rintro ⟨h1,h2⟩
  rw[aJ6 h1]at h2
  simp only[aJQ,aKs,aKF]at h2
  refine⟨h1, ?_,λo ho e he hb=> ?_⟩
  .have:=h2.1
   rw[aJR]at this⊢
   rw[aJ6 (by omega)]at this⊢
   simpa using this
  .rw [aJ6 h1]at ho
   cases ho
   have:=aKP.1 h2.2 e he
   simpa[hb]using this
 .rintro ⟨h1,h2,h3⟩
  refine⟨h1, ?_⟩
  rw[aJ6 h1]
  simp only[aJQ,aKs,aKF]
  refine⟨?_,aKP.2 λe he=> ?_⟩
  .rw [aJR]at h2⊢
   rw[aJ6 (by omega)]at h2⊢
   simpa using h2
  .by_cases hb:Region.binds .any e=true
   .simp [hb,h3 _ (aJ6 h1) e he hb]
   .simp [hb]
theorem aDU{π:List Nat}{i:Nat}:∀{es:List (Nat×Nat)} {e:Edge},e∈HS π i es->∃a,(a,i)∈es/\e.on=yS π a:=by
 intro es
 induction es with
 |nil=>intro e h;simp[HS]at h
 |cons q r ih=>
  obtain⟨a,b⟩:=q
  intro e h
  simp only[HS]at h
  cases hb:Nat.beq b i with
  |true=>
   rw[hb]at h
   obtain rfl:=aKk hb
   rcases aJK.1 h with rfl|h
   .exact ⟨a,by simp,rfl⟩
   .obtain ⟨a,h1,h2⟩:=ih h;exact⟨a,aJT _ h1,h2⟩
  |false=>rw[hb]at h;obtain⟨a,h1,h2⟩:=ih h;exact⟨a,aJT _ h1,h2⟩
theorem aBH(p:Perm π ops){L0:List Nat}(hes:∀q∈es,L0.idxOf q.1<=L0.idxOf q.2/\q.1≠q.2/\q.1<ops.size):
 ∀(fuel:Nat) (listed listed':Array Bool) (pre L:List Nat),L0=pre++L->listed.size=ops.size->listed'.size=ops.size→
  (∀j,j<ops.size->listed'.getD (yS π j) false=listed.getD j false)->(∀j∈pre,listed.getD j false=true)->(∀j,listed.getD j false=true->j∈pre)→
  apD ops fuel listed L->apD (pR π es ops) fuel listed' (L.map (yS π))/\∀i∈L,i<ops.size:=by
 intro fuel
 induction fuel with
 |zero=>intro listed listed' pre L _ _ _ _ _ _ h;obtain rfl:L=[]:=h;exact⟨rfl,by simp⟩
 |succ fuel ih=>
  intro listed listed' pre L hL0 hs hs' hrel hpre hpre' h
  have hsz:(pR π es ops).size=ops.size:=p.size
  cases L with
  |nil=>
   refine⟨?_,by simp⟩
   show Region.ready .any (pR π es ops) listed'=[]
   rw[List.eq_nil_iff_forall_not_mem]
   intro k hk
   obtain⟨h1,h2,h3⟩:=(Ts (by omega) k).1 hk
   obtain⟨i,hi1,hi2,hi3⟩:=p.back k (by omega)
   have:i∈Region.ready .any ops listed:=by
    refine(Ts hs i).2 ⟨hi3, ?_,λo ho e he hb=> ?_⟩
    .rw [<-hrel i hi3,hi2];exact h2
    .have g:=p.get (es:=es) hi3
     rw[hi2,ho]at g
     have hon:=p.after i o ho e he
     have:=h3 _ g ⟨yS π e.on,e.ground⟩ (by
      simp only[Lf,List.mem_toArray,aKg,aKq]
      exact .inl ⟨e,by simpa using he,rfl⟩) (by unfold Region.binds at hb⊢;exact hb)
     rw[<-hrel e.on hon];exact this
   rw[show Region.ready .any ops listed=[]from h]at this
   cases this
  |cons i L=>
   obtain⟨h1,h2⟩:=h
   obtain⟨r1,r2,r3⟩:=(Ts hs i).1 h1
   have hnot:i∉pre:=λhm=>by rw[hpre i hm]at r2;cases r2
   have hidx:L0.idxOf i=pre.length:=by
    rw[hL0,List.idxOf_append,if_neg hnot];simp
   have ready':yS π i∈Region.ready .any (pR π es ops) listed':=by
    refine(Ts (by omega) _).2 ⟨by rw[hsz];exact(p.to i r1).1,by rw[hrel i r1];exact r2,λo' ho' e' he' hb=> ?_⟩
    rw[p.get r1,aJ6 r1]at ho'
    simp only[aKs,aKc]at ho'
    subst ho'
    simp only[Lf,List.mem_toArray,aKg,aKq]at he'
    rcases he' with⟨e,he,rfl⟩|he'
    .have ho:=aJ6 r1
     have he2:e∈ops[i].after:=by simpa using he
     rw[hrel e.on (p.after i _ ho e he2)]
     exact r3 _ ho e he2 (by unfold Region.binds at hb⊢;exact hb)
    .obtain ⟨a,ha,hon⟩:=aDU he'
     obtain⟨q1,q2,q3⟩:=hes _ ha
     simp only at q1 q2 q3
     rw[hon,hrel a q3]
     refine hpre a ?_
     rw[hidx]at q1
     rw[hL0,List.idxOf_append]at q1
     by_cases hm:a∈pre
     .exact hm
     .rw [if_neg hm]at q1
      exfalso
      have hz:(i::L).idxOf a=0:=by omega
      rw[List.idxOf_cons]at hz
      cases hb:(i==a)with
      |true=>exact q2 (by simpa using(beq_iff_eq.1 hb).symm)
      |false=>rw[hb]at hz;simp at hz
   have hlen':listed'.size=ops.size:=hs'
   obtain⟨k1,k2⟩:=ih (listed.setIfInBounds i true) (listed'.setIfInBounds (yS π i) true) (pre++[i]) L (by rw[hL0];simp) (by simp[hs]) (by simp[hs'])
    (λj hj=>by
     by_cases hji:j=i
     .subst hji
      rw[aJR,aJR,aJ8 (by rw[hs'];exact(p.to j hj).1),aJ8 (by omega)]
     .have hne:yS π i≠yS π j:=λe=>by
       have a1:=(p.to i r1).2
       have a2:=(p.to j hj).2
       rw[e]at a1
       rw[a1]at a2
       exact hji (aKO a2).symm
      have:=hrel j hj
      rw[aJR,aJR]at this⊢
      rw[aKa hne,aKa (λe=>hji e.symm)]
      exact this)
    (λj hj=>by
     rw[aJR]
     rcases aKg.1 hj with hj|hj
     .by_cases hji:j=i
      .subst hji;rw[aJ8 (by omega)]<;>rfl
      .rw [aKa (λe=>hji e.symm),<-aJR];exact hpre j hj
     .have:j=i:=by simpa using hj
      subst this
      rw[aJ8 (by omega)]<;>rfl)
    (λj hj=>by
     by_cases hji:j=i
     .subst hji;simp
     .rw [aJR,aKa (λe=>hji e.symm),<-aJR]at hj
      exact aK9 _ (hpre' j hj))
    h2
   exact⟨⟨ready',k1⟩,λj hj=>(aJK.1 hj).elim (λe=>e▸r1) (k2 j)⟩
end
section
variable{P:Program}{ops:Array Oper}
theorem aaO{N:Nat}{an:Ann}{pl:arZ}(hok:ahC ops an=true)(hpl:aiF ops.size an pl=true)(hd:Vf N ops)(hca:V8 P ops)
 {K:Env->aL0->Prop} {Q:Act->aL0->Prop} (hQ:∀g a w,Qy N g a->K g w->Q a w) {g:Env} {a:Act} {w:aL0} (hr:Qy N g a)
 (h:rR P ops ops.toList pl [] g w K):alE P ops Q ops.size (Array.replicate ops.size false) a w:=by
 have r0:Run P ops an g w 0 (λ_=>default) (λ_=>g) (λ_=>w) (λ_=>undef):=
  ⟨rfl,rfl,λi hi=>by omega,λi hi=>by omega,λi hi=>by omega,λi hi=>by omega,λi j _ hj=>by omega⟩
 obtain⟨O,G,W,V,r,hk⟩:=avQ hpl ops.toList 0 [] _ _ _ _ (λj=>by simp) (by simp) r0 (λi hi=>by omega) h
 simp only[aJG,aLG]at r hk
 have st:=aCf hok r.op
 have:=aC5 (Q:=Q) (n:=ops.size) rfl hd hca r st (λa hra=>hQ _ a _ hra hk) ops.size (Array.replicate ops.size false) g a 0 (by simp) hr (by omega)
  (λj hj hl=>by unfold kM at hl;simp[aJR,hj]at hl)
  (λs=> .inr ⟨λj hj hl=>by unfold kM at hl;simp[aJR,hj]at hl,rfl⟩)
  (λh hh _=>⟨λhl=>by unfold kM at hl;simp[aJR,hh]at hl,λhl=>by omega⟩)
  (aK5 (aLS _ _) (by simp))
 rw[r.w0]at this
 exact this
theorem YS{N:Nat}{ops:Array Oper}(h:ops.all (aAp N)=true):Vf N ops:=by
 intro i o ho t ht
 have:=aKP.1 h o (aLQ ho)
 unfold aAp at this
 rw[ht]at this
 exact(aLv (x:=t) (y:=N))▸this
theorem agI{ops:Array Oper}(h:ops.all (CV P)=true):V8 P ops:=
 λ_ o ho=>aKP.1 h o (aLQ ho)
theorem azQ{N:Nat}{f:FuncId}{id:Nat}(hd:Vf N ops)(hca:V8 P ops)
 {K:Env->aL0->Prop} {Q:Act->aL0->Prop} (hQ:∀g a w,Qy N g a->K g w->Q a w) {g:Env} {a:Act} {w0 w:aL0} (hr:Qy N g a):
 ∀(T:HT) (path:List (Nat×Nat)),V1 P N ops path T=true→
  (∀q∈path,(Region.schedule true ops (w0.tape w0.drawn (.order f id))).idxOf q.1<=(Region.schedule true ops (w0.tape w0.drawn (.order f id))).idxOf q.2/\q.1≠q.2)→
  asX P f id ops T g w0 w K->EO P ops Q (Region.schedule true ops (w0.tape w0.drawn (.order f id))) a w:=by
 have lin:apD ops ops.size (Array.replicate ops.size false) (Region.schedule true ops (w0.tape w0.drawn (.order f id))):=by
  unfold Region.schedule
  simp only[Bool.true_or,if_true]
  exact aFr _ _ _
 generalize hL:Region.schedule true ops (w0.tape w0.drawn (.order f id))=L at lin⊢
 intro T
 induction T with
 |leaf an pl=>
  intro path hok _ h
  simp only[V1,aJQ]at hok
  exact YM _ _ _ _ _ (aaO hok.1 hok.2 hd hca hQ hr h) lin
 |perm π es an pl=>
  intro path hok hpath h
  simp only[V1,aJQ]at hok
  obtain⟨⟨⟨⟨⟨h1,h2⟩,h3⟩,h4⟩,h5⟩,h6⟩:=hok
  have p:=aFI h2
  have hes:∀q∈es,L.idxOf q.1<=L.idxOf q.2/\q.1≠q.2/\q.1<ops.size:=λq hq=>by
   have:=aKx.1 h1 q hq
   simp only[aJQ]at this
   have hp:=hpath q (aDD this.1)
   exact⟨hp.1,hp.2,(aLv (x:=q.1) (y:=ops.size))▸this.2⟩
  obtain⟨k1,k2⟩:=aBH (es:=es) p hes ops.size (Array.replicate ops.size false) (Array.replicate ops.size false) [] L rfl (by simp) (by simp)
   (λj hj=>by simp[aJR,hj,(p.to j hj).1]) (by simp)
   (λj hj=>by rw[aJR]at hj;by_cases hh:j<ops.size<;>simp[hh]at hj) lin
  have hw:=aaO h5 h6 (YS h3) (agI h4) hQ hr h
  rw[p.size]at hw
  exact azZ (es:=es) p L k2 a w (YM _ _ _ _ _ hw k1)
 |split x y A B ihA ihB=>
  intro path hok hpath h
  simp only[V1,aJQ]at hok
  have hne:x≠y:=by
   intro e
   have:=hok.1.1
   rw[e]at this
   simp at this
  simp only[asX]at h
  unfold Ord P9 at h
  rw[hL]at h
  cases hb:Nat.ble (L.idxOf x) (L.idxOf y)with
  |true=>
   rw[hb]at h
   refine ihA _ hok.1.2 (λq hq=> ?_) h
   rcases aJK.1 hq with rfl|hq
   .exact ⟨aK8 hb,hne⟩
   .exact hpath q hq
  |false=>
   rw[hb]at h
   refine ihB _ hok.2 (λq hq=> ?_) h
   rcases aJK.1 hq with rfl|hq
   .refine ⟨?_,hne.symm⟩
    simp only
    rcases aKA (L.idxOf y) (L.idxOf x)with hh|hh
    .omega
    .have:=Nat.ble_eq_true_of_le hh;rw[this]at hb;cases hb
   .exact hpath q hq
end
section
variable{P:Program}{ann:FA}
def nW:List Oper->List Nat
 |[]=>[]
 |o::r=>match o.dst with|some d=>d::nW r|none=>nW r
def TT:Code->List Nat
 | .region _ ops _=>nW ops.toList
 | .seq x y=>TT x++TT y
 | .cond _ x y=>TT x++TT y
 | .block _ c=>TT c
 | .scope c=>TT c
 | .loop c=>TT c
 | .rangeFunc .. =>[DS]
 |_=>[]
def kJ(l:List Nat)(g g':Env):Prop:=∀s,s∉l->g' s=g s
theorem kJ.refl (l:List Nat)(g:Env):kJ l g g:=λ_ _=>rfl
theorem kJ.trans {l l1 l2:List Nat}{a b c:Env}(h:kJ l1 a b)(k:kJ l2 b c)(h1:∀s,s∈l1->s∈l)(h2:∀s,s∈l2->s∈l):kJ l a c:=
 λs hs=>(k s λh=>hs (h2 s h)).trans (h s λh=>hs (h1 s h))
theorem kJ.mono {l l1:List Nat}{a b:Env}(h:kJ l1 a b)(h1:∀s,s∈l1->s∈l):kJ l a b:=λs hs=>h s λhh=>hs (h1 s hh)
theorem kJ.put {l:List Nat}{a:Env}(d:Option Tmp)(v:aL1)(h:∀t,d=some t->t∈l):kJ l a (put a d v):=by
 intro s hs
 cases d with
 |none=>rfl
 |some t=>
  rw[Ms,if_neg (λe=>hs (by rw[e];exact h t rfl))]
theorem axS{ops:Array Oper}{K:Env->aL0->Prop}:∀(l:List Oper) (g:Env) (w:aL0),ahB P ops l g w K→
 ∃g' w',K g' w'/\kJ (nW l) g g'/\∀K':Env->aL0->Prop,K' g' w'->ahB P ops l g w K':=by
 intro l
 induction l with
 |nil=>intro g w h;exact⟨g,w,h,kJ.refl _ _,λ_ h=>h⟩
 |cons o l ih=>
  intro g w h
  obtain⟨v,w1,hy,h1⟩:=NG h
  obtain⟨g',w',hk,ha,hall⟩:=ih _ _ h1
  refine⟨g',w',hk, ?_,λK' hk'=>hy _ (hall K' hk')⟩
  refine kJ.trans (kJ.put o.dst v (l:=nW (o::l)) λt ht=>by simp[nW,ht]) ha (λ_ h=>h) (λs hs=> ?_)
  unfold nW
  split
  .exact aJT _ hs
  .exact hs
theorem aaL{ops:Array Oper}{K:Env->aL0->Prop}:∀(l:List Oper) (pl:arZ) (hist:List Rec) (g:Env) (w:aL0),rR P ops l pl hist g w K→
 ∃g' w',K g' w'/\kJ (nW l) g g'/\∀K':Env->aL0->Prop,K' g' w'->rR P ops l pl hist g w K':=by
 intro l
 induction l with
 |nil=>intro pl hist g w h;unfold rR at h;exact⟨g,w,h,kJ.refl _ _,λ_ h=>(by unfold rR;exact h)⟩
 |cons o l ih=>
  intro pl hist g w h
  cases pl with
  |nil=>exact h.elim
  |cons p pl=>
   obtain⟨hv,ks⟩:=p
   obtain⟨v,w1,hy,h1⟩:=NG h
   have tail:∀(w2:aL0) (hist':List Rec),rR P ops l pl hist' (put g o.dst v) w2 K→
       ∃g' w',K g' w'/\kJ (nW (o::l)) g g'/\∀K':Env->aL0->Prop,K' g' w'->rR P ops l pl hist' (put g o.dst v) w2 K':=by
    intro w2 hist' c2
    obtain⟨g',w',hk,ha,hall⟩:=ih _ _ _ _ c2
    refine⟨g',w',hk, ?_,hall⟩
    refine kJ.trans (kJ.put o.dst v (l:=nW (o::l)) λt ht=>by simp[nW,ht]) ha (λ_ h=>h) (λs hs=> ?_)
    unfold nW
    split
    .exact aJT _ hs
    .exact hs
   cases hv with
   |true=>
    cases ks with
    |nil=>
     obtain⟨g',w',hk,ha,hall⟩:=tail w1 _ h1
     exact⟨g',w',hk,ha,λK' hk'=>hy _ (hall K' hk')⟩
    |cons k ks=>
     obtain⟨hc,h1⟩:=h1
     obtain⟨g',w',hk,ha,hall⟩:=tail w1 _ h1
     exact⟨g',w',hk,ha,λK' hk'=>hy _ ⟨hc,hall K' hk'⟩⟩
   |false=>
    cases ks with
    |nil=>
     obtain⟨rfl,h1⟩:=h1
     obtain⟨g',w',hk,ha,hall⟩:=tail w1 _ h1
     exact⟨g',w',hk,ha,λK' hk'=>hy _ ⟨rfl,hall K' hk'⟩⟩
    |cons k ks=>
     obtain⟨rfl,hc,h1⟩:=h1
     obtain⟨g',w',hk,ha,hall⟩:=tail w1 _ h1
     exact⟨g',w',hk,ha,λK' hk'=>hy _ ⟨rfl,hc,hall K' hk'⟩⟩
theorem Kg{l:List Oper}{s:Nat}:s∈nW l↔∃o∈l,o.dst=some s:=by
 induction l with
 |nil=>simp[nW]
 |cons o l ih=>
  unfold nW
  cases hd:o.dst with
  |none=>simp[ih,hd]
  |some d=>simp[ih,hd,eq_comm]
theorem axW{π:List Nat}{es:List (Nat×Nat)}{l:List Oper}{s:Nat}:∀(r:List Nat),s∈nW (Xh π es l r)->s∈nW l:=by
 intro r
 induction r with
 |nil=>intro h;simp[Xh,nW]at h
 |cons i r ih=>
  intro h
  simp only[Xh]at h
  cases ho:l[i]? with
  |none=>rw[ho]at h;exact ih h
  |some o=>
   rw[ho]at h
   obtain⟨o',h1,h2⟩:=Kg.1 h
   rcases aJK.1 h1 with rfl|h1
   .exact Kg.2 ⟨o,aKR ho,h2⟩
   .exact ih (Kg.2 ⟨o',h1,h2⟩)
theorem aC0 {f:FuncId}{id:Nat}{ops:Array Oper}{K:Env->aL0->Prop}{g:Env}{w0:aL0}:∀(T:HT) (w:aL0),asX P f id ops T g w0 w K→
 ∃g' w',K g' w'/\kJ (nW ops.toList) g g'/\∀K':Env->aL0->Prop,K' g' w'->asX P f id ops T g w0 w K':=by
 intro T
 induction T with
 |leaf an pl=>intro w h;exact aaL _ _ _ _ _ h
 |perm π es an pl=>
  intro w h
  obtain⟨g',w',a,b,c⟩:=aaL _ _ _ _ _ h
  exact⟨g',w',a,b.mono (λs hs=>axW π (by simpa[pR]using hs)),c⟩
 |split x y A B ihA ihB=>
  intro w h
  simp only[asX,Ord]at h⊢
  cases hb:P9 f id ops x y w0 with
  |true=>rw[hb]at h;exact ihA w h
  |false=>rw[hb]at h;exact ihB w h
theorem bM.head {α:Type}{F:(α->aL0->Prop)->α->aL0->Prop}(hmono:∀X Y g w,(∀g w,X g w->Y g w)->F X g w->F Y g w)
 {g:α} {w:aL0} (h:F (λg' w'=>bM F g' w') g w) (hdet:∃g' w',bM F g' w'/\∀X:α->aL0->Prop,X g' w'->F X g w):bM F g w:=by
 obtain⟨g1,w1,⟨I,⟨n1,h1⟩,hI⟩,hF⟩:=hdet
 refine⟨λn g' w'=>I n g' w'∨(n=n1+1/\g'=g/\w'=w),⟨n1+1,.inr ⟨rfl,rfl,rfl⟩⟩, ?_⟩
 rintro n g' w' (h|⟨rfl,rfl,rfl⟩)
 .exact hmono _ _ _ _ (λ_ _ ⟨m,hm,hh⟩=>⟨m,hm,.inl hh⟩) (hI _ _ _ h)
 .exact hF _ ⟨n1,by omega,.inl h1⟩
theorem aGC{f:FuncId}{gf:Operand}{ps:Array Tmp}{aJB bd:Code}{Q:Exit->Env->aL0->Prop}{g:Env}{w:aL0}(h:RF P f gf ps aJB bd Q g w):
 ∃e g' w',Q e g' w'/\kJ [DS] g g'/\∀Q':Exit->Env->aL0->Prop,Q' e g' w'->RF P f gf ps aJB bd Q' g w:=by
 unfold RF at h⊢
 cases hn:noMark (g DS)with
 |false=>rw[hn]at h;exact h.elim
 |true=>
  rw[hn]at h
  simp only at h⊢
  generalize(AO (ev g gf) [GM (w.heap.size+1)]).run P (rfW f (RS P f) ps aJB bd g w)=r at*
  match r,h with
  | .ok (.enter f2 args) w1,h=>
    obtain⟨v,w3,hret,r,h1,h2,h3⟩:=h
    have ha:kJ [DS] g (put g (some DS) (.pointer (some ⟨w.heap.size,0,none⟩))):=kJ.put _ _ (λt ht=>by cases ht;simp)
    cases hp:r.pending with
    |none=>
     rw[hp]at h3
     exact⟨.normal,_,_,h3,ha,λQ' h=>⟨v,w3,hret,r,h1,h2,by rw[hp];exact h⟩⟩
    |some c=>
     rw[hp]at h3
     cases c<;>first
      |exact h3.elim
      |exact⟨.ret,_,_,h3,ha,λQ' h=>⟨v,w3,hret,r,h1,h2,by rw[hp];exact h⟩⟩
      |exact⟨.exit _,_,_,h3,ha,λQ' h=>⟨v,w3,hret,r,h1,h2,by rw[hp];exact h⟩⟩
theorem afM:∀(c:Code) (Q:Exit->Env->aL0->Prop) (g:Env) (w:aL0),dM P ann c Q g w→
 ∃e g' w',Q e g' w'/\kJ (TT c) g g'/\∀Q':Exit->Env->aL0->Prop,Q' e g' w'->dM P ann c Q' g w:=by
 intro c
 induction c with
 |skip=>intro Q g w h;exact⟨_,_,_,h,kJ.refl _ _,λ_ h=>h⟩
 |region id ops draw=>
  intro Q g w h
  cases draw with
  |false=>
   obtain⟨g',w',a,b,c⟩:=axS _ _ _ h
   exact⟨.normal,g',w',a,b,λQ' h=>c _ h⟩
  |true=>
   obtain⟨g',w',a,b,c⟩:=aC0 _ _ h
   exact⟨.normal,g',w',a,b,λQ' h=>c _ h⟩
 |seq x y ihx ihy=>
  intro Q g w h
  obtain⟨e,g1,w1,a,b,c⟩:=ihx _ _ _ h
  cases e with
  |normal=>
   obtain⟨e2,g2,w2,a2,b2,c2⟩:=ihy _ _ _ a
   exact⟨e2,g2,w2,a2,b.trans b2 (λs h=>aK9 _ h) (λs h=>aLx _ h),λQ' h=>c _ (c2 _ h)⟩
  |_=>exact⟨_,g1,w1,a,b.mono (λs h=>aK9 _ h),λQ' h=>c _ h⟩
 |cond c x y ihx ihy=>
  intro Q g w h
  simp only[dM]at h⊢
  unfold cS at h⊢
  cases hc:ev g c with
  |bool b=>
   rw[hc]at h
   cases b with
   |true=>
    obtain⟨e,g',w',a,b,c⟩:=ihx _ _ _ h
    exact⟨e,g',w',a,b.mono (λs h=>aK9 _ h),c⟩
   |false=>
    obtain⟨e,g',w',a,b,c⟩:=ihy _ _ _ h
    exact⟨e,g',w',a,b.mono (λs h=>aLx _ h),c⟩
  |_=>rw[hc]at h;exact h.elim
 |block id c ih=>
  intro Q g w h
  obtain⟨e,g',w',a,b,c⟩:=ih _ _ _ h
  cases e with
  |exit i=>
   simp only[KQ]at a
   cases hb:Nat.beq i id with
   |true=>
    simp only[hb]at a
    refine⟨.normal,g',w',a,b,λQ' h=>c _ ?_⟩
    simp only[KQ,hb];exact h
   |false=>
    simp only[hb]at a
    refine⟨.exit i,g',w',a,b,λQ' h=>c _ ?_⟩
    simp only[KQ,hb];exact h
  |_=>exact⟨_,g',w',a,b,λQ' h=>c _ h⟩
 |loop c ih=>
  intro Q g w h
  have hmono:∀(Q:Exit->Env->aL0->Prop) (X Y:Env->aL0->Prop) g w,(∀g w,X g w->Y g w)->dM P ann c (Cy X Q) g w->dM P ann c (Cy Y Q) g w:=by
   intro Q X Y g w hxy h
   obtain⟨e,g',w',a,_,k⟩:=ih _ _ _ h
   refine k _ ?_
   cases e with
   |normal=>exact hxy _ _ a
   |_=>exact a
  obtain⟨I,⟨n,h0⟩,hI⟩:=h
  have key:∀n g w,I n g w->∃e g' w',Q e g' w'/\kJ (TT c) g g'/\∀Q':Exit->Env->aL0->Prop,Q' e g' w'->bM (λX g w=>dM P ann c (Cy X Q') g w) g w:=by
   intro n
   induction n using Nat.strongRecOn with
   |_ n ih2=>
    intro g w hg
    obtain⟨e,g1,w1,a,b,k⟩:=ih _ _ _ (hI n g w hg)
    have once:∀(Q':Exit->Env->aL0->Prop),(∀X:Env->aL0->Prop,dM P ann c (Cy X Q') g w)->bM (λX g w=>dM P ann c (Cy X Q') g w) g w:=by
     intro Q' h
     refine⟨λn g' w'=>g'=g/\w'=w,⟨0,rfl,rfl⟩, ?_⟩
     rintro _ g' w' ⟨rfl,rfl⟩
     exact h _
    cases e with
    |normal=>
     obtain⟨m,hm,hIm⟩:=a
     obtain⟨e2,g2,w2,a2,b2,k2⟩:=ih2 m hm g1 w1 hIm
     refine⟨e2,g2,w2,a2,b.trans b2 (λ_ h=>h) (λ_ h=>h),λQ' h=> ?_⟩
     have hl:=k2 Q' h
     exact bM.head (hmono Q') (k _ hl) ⟨g1,w1,hl,λX hx=>k _ hx⟩
    |_=>exact⟨_,g1,w1,a,b,λQ' h=>once Q' λX=>k _ h⟩
  exact key n g w h0
 |exit id=>intro Q g w h;exact⟨_,_,_,h,kJ.refl _ _,λ_ h=>h⟩
 |label l=>intro Q g w h;exact⟨_,_,_,h,kJ.refl _ _,λ_ h=>h⟩
 |scope c ih=>intro Q g w h;exact ih Q g w h
 |ret=>intro Q g w h;exact⟨_,_,_,h,kJ.refl _ _,λ_ h=>h⟩
 |rangeFunc gf ps aJB bd=>intro Q g w h;exact aGC h
 |_=>intro Q g w h;exact h.elim
theorem FJ{c:Code}{Q Q':Exit->Env->aL0->Prop}{g:Env}{w:aL0}(h:dM P ann c Q g w)
 (hq:∀e g' w',kJ (TT c) g g'->Q e g' w'->Q' e g' w'):dM P ann c Q' g w:=
 let⟨_,_,_,a,b,k⟩:=afM c Q g w h
 k _ (hq _ _ _ b a)
def noG(Q:Exit->Env->aL0->Prop):Exit->Env->aL0->Prop
 | .goto _,_,_=>False
 |e,g,w=>Q e g w
theorem axT:∀(c:Code) (Q:Exit->Env->aL0->Prop) (g:Env) (w:aL0),dM P ann c Q g w->dM P ann c (noG Q) g w:=by
 intro c
 induction c with
 |skip=>intro Q g w h;exact h
 |region id ops draw=>intro Q g w h;cases draw<;>exact h
 |seq x y ihx ihy=>
  intro Q g w h
  show dM P ann x (Cy (λg w=>dM P ann y (noG Q) g w) (noG Q)) g w
  refine FJ (ihx _ _ _ h) (λe g' w' _ hq=> ?_)
  cases e with
  |normal=>exact ihy _ _ _ hq
  |goto l=>exact hq.elim
  |_=>exact hq
 |cond c x y ihx ihy=>
  intro Q g w h
  simp only[dM]at h⊢
  unfold cS at h⊢
  cases hc:ev g c with
  |bool b=>
   rw[hc]at h
   cases b with
   |true=>exact ihx _ _ _ h
   |false=>exact ihy _ _ _ h
  |_=>rw[hc]at h;exact h.elim
 |block id c ih=>
  intro Q g w h
  show dM P ann c (KQ id (noG Q)) g w
  refine FJ (ih _ _ _ h) (λe g' w' _ hq=> ?_)
  cases e with
  |exit i=>
   simp only[noG,KQ]at hq⊢
   cases hb:Nat.beq i id with
   |true=>rw[hb]at hq;exact hq
   |false=>rw[hb]at hq;exact hq
  |goto l=>exact hq.elim
  |_=>exact hq
 |loop c ih=>
  intro Q g w h
  obtain⟨I,h0,hI⟩:=h
  refine⟨I,h0,λn g w hi=> ?_⟩
  refine FJ (ih _ _ _ (hI n g w hi)) (λe g' w' _ hq=> ?_)
  cases e with
  |normal=>exact hq
  |goto l=>exact hq.elim
  |_=>exact hq
 |exit id=>intro Q g w h;exact h
 |label l=>intro Q g w h;exact h
 |scope c ih=>intro Q g w h;exact ih Q g w h
 |ret=>intro Q g w h;exact h
 |rangeFunc gf ps aJB bd=>
  intro Q g w h
  have h:RF P ann.f gf ps aJB bd Q g w:=h
  show RF P ann.f gf ps aJB bd (noG Q) g w
  unfold RF at h⊢
  cases hn:noMark (g DS)with
  |false=>rw[hn]at h;exact h.elim
  |true=>
   rw[hn]at h
   simp only at h⊢
   generalize(AO (ev g gf) [GM (w.heap.size+1)]).run P (rfW ann.f (RS P ann.f) ps aJB bd g w)=r at*
   match r,h with
   | .ok (.enter f2 args) w1,h=>
     obtain⟨v,w3,hret,r,h1,h2,h3⟩:=h
     refine⟨v,w3,hret,r,h1,h2, ?_⟩
     cases hp:r.pending with
     |none=>rw[hp]at h3;exact h3
     |some c=>rw[hp]at h3;cases c<;>exact h3
 |_=>intro Q g w h;exact h.elim
theorem akW{N:Nat}{g:Env}{a:Act}(h:Qy N g a):a.tmps=tmpsOf N g:=by
 refine Array.ext (by simp[tmpsOf,h.size]) λi h1 h2=> ?_
 have hi:i<N:=by rw[<-h.size];exact h1
 have:=h.at_ i (aLy (aKe hi h.le))
 rw[aJR,aJ6 h1]at this
 simp[tmpsOf]at this⊢
 exact this
theorem aC2 {v:aL1}(h:noMark v=true):atA v=[]:=by cases v<;>first|rfl|cases h
theorem Zd{N:Nat}(hm:P.follows .mixedOrders=true){ro:Option Nat}(hN:RS P ann.f=N):∀(c:Code),codeOk P N ann c=true->ro=none∨sR c=true→
 ∀(Q:Exit->Env->aL0->Prop) (QA:Exit->Act->aL0->Prop) (g:Env) (a:Act) (w:aL0),Qy N g a→
  (∀e g a w,Qy N g a->Q e g w->QA e a w)->dM P ann c Q g w->wpF P ann.f ro c QA a w:=by
 intro c
 induction c with
 |skip=>intro _ _ Q QA g a w hr hq h;exact aEL (hq _ _ _ _ hr h)
 |region id ops draw=>
  intro hok _ Q QA g a w hr hq h
  simp only[codeOk,aJQ,aKu,aK1]at hok
  have hd:=YS hok.1.1
  have hca:=agI hok.1.2
  cases draw with
  |false=>
   refine azX ?_
   have:=aBU hd hca (P:=P) (Q:=QA .normal) (K:=Q .normal) (λg a w=>hq .normal g a w) ops.toList 0 g a w (λj=>by simp) hr h
   rw[List.range_eq_range']
   simpa using this
  |true=>
   rcases hok.2 with h1|h1
   .cases h1
   .exact afE hm (azQ hd hca (λg a w=>hq .normal g a w) hr _ [] h1 (by simp) h)
 |seq x y ihx ihy=>
  intro hok hfl Q QA g a w hr hq h
  simp only[codeOk,aJQ]at hok
  have hfx:ro=none∨sR x=true:=hfl.imp id λh=>by simp only[sR,aJQ]at h;exact h.1
  have hfy:ro=none∨sR y=true:=hfl.imp id λh=>by simp only[sR,aJQ]at h;exact h.2
  refine aF3 (ihx hok.1 hfx _ _ g a w hr (λe g a w hr h=> ?_) h)
  cases e with
  |normal=>exact ihy hok.2 hfy _ _ g a w hr hq h
  |_=>exact hq _ _ _ _ hr h
 |cond c x y ihx ihy=>
  intro hok hfl Q QA g a w hr hq h
  simp only[codeOk,aJQ]at hok
  have hfx:ro=none∨sR x=true:=hfl.imp id λh=>by simp only[sR,aJQ]at h;exact h.1
  have hfy:ro=none∨sR y=true:=hfl.imp id λh=>by simp only[sR,aJQ]at h;exact h.2
  simp only[dM]at h
  unfold cS at h
  have he:=hr.ev c hok.1
  cases hc:ev g c with
  |bool b=>
   rw[hc]at h he
   refine aEJ he ?_
   cases b with
   |true=>exact ihx hok.2.1 hfx _ _ g a w hr hq h
   |false=>exact ihy hok.2.2 hfy _ _ g a w hr hq h
  |_=>rw[hc]at h;exact h.elim
 |block id c ih=>
  intro hok hfl Q QA g a w hr hq h
  refine aCq (ih hok hfl _ _ g a w hr (λe g a w hr h=> ?_) h)
  cases e with
  |exit i=>
   unfold Exit.inBlock
   simp only[KQ]at h
   by_cases hi:i=id
   .subst hi
    simp only[if_true]
    simp only[Nat.beq_refl]at h
    exact hq _ _ _ _ hr h
   .simp only[hi,if_false]
    have:Nat.beq i id=false:=by
     cases hb:Nat.beq i id
     .rfl
     .exact absurd (aKk hb) hi
    simp only[this]at h
    exact hq _ _ _ _ hr h
  |_=>exact hq _ _ _ _ hr h
 |loop c ih=>
  intro hok hfl Q QA g a w hr hq h
  obtain⟨I,h0,hround⟩:=h
  have hex:∀a w,(∃n g,Qy N g a/\I n g w)->∃n,(∃g,Qy N g a/\I n g w)/\∀m,(∃g,Qy N g a/\I m g w)->n<=m:=by
   rintro a w ⟨n,hn⟩
   induction n using Nat.strongRecOn with
   |_ n ih2=>
    by_cases hx:∃m,m<n/\∃g,Qy N g a/\I m g w
    .obtain ⟨m,hm,h⟩:=hx;exact ih2 m hm h
    .exact ⟨n,hn,λm hm=>Nat.le_of_not_lt λhlt=>hx ⟨m,hlt,hm⟩⟩
  have hdec:∀a w,Decidable (∃n g,Qy N g a/\I n g w):=λa w=>Classical.propDecidable _
  let μ:Act->aL0->Nat:=λa w=>if hh:∃n g,Qy N g a/\I n g w then Classical.choose (hex a w hh)else 0
  have hμ:∀a w n g,Qy N g a->I n g w->μ a w<=n/\∃g,Qy N g a/\I (μ a w) g w:=by
   intro a w n g hr hI
   have hh:∃n g,Qy N g a/\I n g w:=⟨n,g,hr,hI⟩
   have e:μ a w=Classical.choose (hex a w hh):=dif_pos hh
   have s:=Classical.choose_spec (hex a w hh)
   rw[e]
   exact⟨s.2 n ⟨g,hr,hI⟩,s.1⟩
  obtain⟨n0,h0⟩:=h0
  refine aEK (λa w=>∃n g,Qy N g a/\I n g w) μ ⟨n0,g,hr,h0⟩ ?_
  rintro a w ⟨n,g,hr,hI⟩
  obtain⟨_,g',hr',hI'⟩:=hμ a w n g hr hI
  refine ih hok hfl _ _ g' a w hr' (λe g1 a1 w1 hr1 h=> ?_) (hround _ _ _ hI')
  cases e with
  |normal=>
   obtain⟨m,hm,hIm⟩:=h
   have:=hμ a1 w1 m g1 hr1 hIm
   exact⟨⟨m,g1,hr1,hIm⟩,by omega⟩
  |_=>exact hq _ _ _ _ hr1 h
 |label l=>intro _ _ Q QA g a w hr hq h;exact aCr (hq _ _ _ _ hr h)
 |scope c ih=>
  intro hok hfl Q QA g a w hr hq h
  refine aCt (ih hok hfl (noG Q) _ g a w hr (λe g a w hr h=> ?_) (axT c _ g w h))
  cases e with
  |goto l=>exact h.elim
  |_=>exact hq _ _ _ _ hr h
 |exit id=>intro _ _ Q QA g a w hr hq h;exact awY (hq _ _ _ _ hr h)
 |ret=>intro _ _ Q QA g a w hr hq h;exact aBf (hq _ _ _ _ hr h)
 |rangeFunc gf ps aJB bd=>
  intro hok hfl Q QA g a w hr hq h
  have hro:ro=none:=hfl.resolve_right (by simp[sR])
  subst hro
  have hok:anV gf=true:=hok
  have h:RF P ann.f gf ps aJB bd Q g w:=h
  unfold RF at h
  cases hn:noMark (g DS)with
  |false=>rw[hn]at h;exact h.elim
  |true=>
   rw[hn]at h
   simp only[hN]at h
   have ed:a.defers=[]:=by rw[hr.defers,aC2 hn]
   have er:=run_enterLoop_outer (P:=P) (w:=w) ann.f a.tmps ps aJB bd
   rw[akW hr]at er
   have er:(Instr.enterLoop ann.f a.tmps ps aJB bd none).run P w= .ok (w.heap.size+1,[{target:= .collected w.heap.size,args:= #[]}]) (rfW ann.f N ps aJB bd g w):=by rw[akW hr];exact er
   generalize rfW ann.f N ps aJB bd g w=w1 at*
   have ee:=hr.ev gf hok
   unfold AO at h
   have hres:resolve a.eval (rangeCall gf (w.heap.size+1)) 0=Deferred.ofValue (ev g gf) #[GM (w.heap.size+1)]:=by
    have:resolve a.eval (rangeCall gf (w.heap.size+1)) 0=Deferred.ofValue (a.eval gf) #[GM (w.heap.size+1)]:=by
     simp only[resolve,List.map_toArray,aJU,aLU];rfl
    rw[this,ee]
   rw[show([GM (w.heap.size+1)]:List aL1).toArray= #[GM (w.heap.size+1)]from rfl,<-hres,Sem.run_bind]at h
   cases hv:(resolve a.eval (rangeCall gf (w.heap.size+1)) 0).run P w1 with
   |halt x wx=>rw[hv]at h;exact h.elim
   |ok d wx=>
    have hwx:wx=w1:=by
     rw[hres]at hv
     unfold Deferred.ofValue at hv
     split at hv<;>first|(simp only[Sem.run_pure]at hv;cases hv;rfl)|(simp[stuck]at hv)
    subst hwx
    rw[hv]at h
    simp only[Result.andThen]at h
    cases hi:(invoke d.target d.args).run P wx with
    |halt x w2=>rw[hi]at h;exact h.elim
    |ok nx w2=>
     rw[hi]at h
     cases nx<;>try(exact h.elim)
     obtain⟨v,w3,hret,r,h1,h2,h3⟩:=h
     have hrel:∀w,Qy N (put g (some DS) (.pointer (some ⟨w,0,none⟩))) {a with defers:=[{target:= .collected w,args:= #[]}]++a.defers}:=λw=>by
      refine⟨hr.le, ?_,hr.size,λi hi=> ?_⟩
      .rw [Ms,if_pos rfl,ed]<;>rfl
      .rw [Ms,if_neg hi];exact hr.at_ i hi
     have key:∀(j:Option Code) (w5:aL0),aGM Q (put g (some DS) (.pointer (some ⟨w.heap.size,0,none⟩))) j w5→
         aGp P ann.f QA {a with defers:=[{target:= .collected w.heap.size,args:= #[]}]++a.defers} w5 j:=by
      intro j w5 h
      cases j with
      |none=>exact hq _ _ _ _ (hrel _) h
      |some c=>
       cases c<;>first
        |exact h.elim
        |exact aBf (hq _ _ _ _ (hrel _) h)
        |exact awY (hq _ _ _ _ (hrel _) h)
     exact aCs er hv hi hret (run_endLoop h1 h2) (key _ _ h3)
 |_=>intro hok;simp[codeOk]at hok
def sE(P:Program):List ResultVar->Env->aL0->(List aL1->Prop)->Prop
 |[],_,_,K=>K []
 | .tmp t::r,g,w,K=>sE P r g w λvs=>K (g t::vs)
 | .cell a t::r,g,w,K=>∃v,(do loadVar t (<-asAddr (g a)):Sem aL1).run P w= .ok v w/\sE P r g w λvs=>K (v::vs)
def tup:List aL1->aL1
 |[v]=>v
 |vs=> .tuple vs.toArray
def aH8 (P:Program)(rs:List ResultVar)(R:aL1->aL0->Prop):Exit->Env->aL0->Prop
 | .normal,g,w=>sE P rs g w λvs=>R (tup vs) w
 | .ret,g,w=>sE P rs g w λvs=>R (tup vs) w
 |_,_,_=>False
theorem avI{N:Nat}{g:Env}{a:Act}{w:aL0}(hr:Qy N g a):∀(rs:List ResultVar),rs.all aoK=true->∀(K:List aL1->Prop),sE P rs g w K→
 ∃vs,K vs/\(rs.mapM λ| .tmp t=>pure (a.tmps.getD t undef)| .cell b t=>do loadVar t (<-asAddr (a.tmps.getD b undef)):Sem (List aL1)).run P w= .ok vs w:=by
 have ne:∀t:Nat,Nat.blt t DS=true->a.tmps.getD t undef=g t:=λt h=>hr.at_ t (aLy ((aLv (x:=t) (y:=DS))▸h))
 intro rs
 induction rs with
 |nil=>intro _ K h;exact⟨[],h,by simp⟩
 |cons r rs ih=>
  intro hok K h
  simp only[List.all_cons,aJQ]at hok
  cases r with
  |tmp t=>
   obtain⟨vs,h1,h2⟩:=ih hok.2 _ h
   refine⟨_,h1, ?_⟩
   rw[List.mapM_cons]
   rw[pure_bind,Sem.run_bind]
   simp only[h2,Result.andThen,Sem.run_pure,ne t hok.1]
  |cell b t=>
   obtain⟨v,hv,h⟩:=h
   obtain⟨vs,h1,h2⟩:=ih hok.2 _ h
   refine⟨_,h1, ?_⟩
   rw[List.mapM_cons]
   rw[<-ne b hok.1]at hv
   rw[Sem.run_bind]
   simp only[hv,Result.andThen]
   rw[Sem.run_bind]
   simp only[h2,Result.andThen]
   rfl
theorem aHo(vs:Array aL1):(if h:vs.size=1 then vs[0]else Value.tuple vs)=tup vs.toList:=by
 obtain⟨l⟩:=vs
 match l with
 |[]=>rfl
 |[v]=>rfl
 |a::b::r=>simp[tup]
theorem avR{N:Nat}{g:Env}{a:Act}{w:aL0}(fn:Func){rs:List ResultVar}(hok:rs.all aoK=true)(hrs:fn.results=rs.toArray)(hr:Qy N g a){R:aL1->aL0->Prop}
 (h:sE P rs g w λvs=>R (tup vs) w):∃v,(results fn a.tmps).run P w= .ok v w/\R v w:=by
 obtain⟨vs,h1,h2⟩:=avI hr rs hok _ h
 refine⟨tup vs, ?_,h1⟩
 unfold results
 rw[hrs,Array.mapM_eq_mapM_toList,aJZ]
 simp only[bind_assoc,map_eq_pure_bind]
 rw[Sem.run_bind]
 refine Eq.trans (congrArg (λr=>Result.andThen r _) h2) ?_
 simp only[Result.andThen]
 simp only[pure_bind,Sem.run_pure,aHo]
def aaP(args:List aL1):Env:=λi=>args.getD i undef
def aHa(P:Program)(rs:List ResultVar)(R:aL1->aL0->Prop):Exit->Env->aL0->Prop
 | .normal,g,w=>G3 (g DS) w λw=>sE P rs g w λvs=>R (tup vs) w
 | .ret,g,w=>G3 (g DS) w λw=>sE P rs g w λvs=>R (tup vs) w
 |_,_,_=>False
theorem avH{g:Env}{w:aL0}:∀(rs:List ResultVar) (K:List aL1->Prop),sE P rs g w K->∃vs,K vs/\∀K':List aL1->Prop,K' vs->sE P rs g w K':=by
 intro rs
 induction rs with
 |nil=>intro K h;exact⟨_,h,λ_ h=>h⟩
 |cons r rs ih=>
  intro K h
  cases r with
  |tmp t=>
   obtain⟨vs,a,b⟩:=ih _ h
   exact⟨_,a,λK' h=>b _ h⟩
  |cell b t=>
   obtain⟨v,hv,h⟩:=h
   obtain⟨vs,a,b⟩:=ih _ h
   exact⟨_,a,λK' h=>⟨v,hv,b _ h⟩⟩
theorem aoR{v:aL1}{w:aL0}{K:aL0->Prop}(h:G3 v w K):∃w',K w'/\∀K':aL0->Prop,K' w'->G3 v w K':=by
 cases v with
 |pointer p=>
  cases p with
  |none=>exact⟨_,h,λ_ h=>h⟩
  |some a=>exact⟨_,h.2,λ_ h'=>⟨h.1,h'⟩⟩
 |_=>exact⟨_,h,λ_ h=>h⟩
theorem azK{v:aL1}{w:aL0}{K K':aL0->Prop}(h:G3 v w K)(hk:∀w,K w->K' w):G3 v w K':=
 let⟨w',a,b⟩:=aoR h;b _ (hk w' a)
theorem atD{args:List aL1}{N i:Nat}(hle:args.length<=N)(hi:N<=i):aaP args i=undef:=by
 unfold aaP
 rw[aJL,aKt (by omega)]<;>rfl
theorem Wy{f:FuncId}{fn:Func}{c:Code}{args:List aL1}{w:aL0}{rs:List ResultVar}{R:aL1->aL0->Prop}(hm:P.follows .mixedOrders=true)(hAf:ann.f=f)
 (hf:P.funcs[f]?=some fn) (hb:fn.body=some c) (hrs:fn.results=rs.toArray) {N:Nat} (hN:fn.ntmps=N) (hle:args.length<=N)
 (hok:codeOk P N ann c=true) (hro:rs.all aoK=true) (hND:Nat.ble N DS=true) (h:dM P ann c (aHa P rs R) (aaP args) w):aG P f args.toArray w R:=by
 obtain⟨e,g',w',hq,_,hall⟩:=afM _ _ _ _ h
 have hND:=aK8 hND
 have hNt:RS P ann.f=N:=by unfold RS;rw[hAf,hf];exact hN
 have hrv:G3 (g' DS) w' λw=>sE P rs g' w λvs=>R (tup vs) w:=by cases e<;>first|exact hq|exact hq.elim
 obtain⟨w2,hrv2,hsh⟩:=aoR hrv
 obtain⟨vs,hv,hrest⟩:=avH _ _ hrv2
 refine⟨tup vs,w2, ?_,hv⟩
 have hrel:Qy N (aaP args) {tmps:=args.toArray++Array.replicate (fn.ntmps-args.toArray.size) undef,defers:=[]}:=by
  refine⟨hND,by rw[atD hle hND]<;>rfl,by simp[hN];omega,λi _=> ?_⟩
  simp only[aaP,aJR,aJL]
  by_cases hi:i<args.length
  .simp [Array.getElem?_append,hi]
  .simp only[Array.getElem?_append,aKL,hi,if_false,Array.getElem?_replicate]
   rw[aKt (by omega)]
   split<;>rfl
 have key:=apN (P:=P) (f:=f) hf hb (R:=λv3 w3=>v3=tup vs/\w3=w2) (args:=args.toArray) (w:=w)
  (hAf▸Zd hm hNt c hok (.inl rfl) (aHa P rs λv3 w3=>v3=tup vs/\w3=w2) _ _ _ _ hrel (λe g a w hr h=> ?_) (hall _ ?_))
 .refine Calls.mono key ?_
  rintro e w3 ⟨v,rfl,rfl,rfl⟩
  exact⟨rfl,rfl⟩
 .have hx:∀{w},(G3 (g DS) w λw=>sE P rs g w λvs'=>tup vs'=tup vs/\w=w2)->∃m,a.defers=atA m/\G3 m w λw'=>∃v,(results fn a.tmps).run P w'= .ok v w'/\(v=tup vs/\w'=w2):=by
   intro w h
   exact⟨_,hr.defers,azK h λw h=>avR fn hro hrs hr (R:=λv3 w3=>v3=tup vs/\w3=w2) h⟩
  cases e with
  |normal=>exact hx h
  |ret=>exact hx h
  |_=>exact h.elim
 .have:=hsh (λw=>sE P rs g' w λvs'=>tup vs'=tup vs/\w=w2) (hrest _ ⟨rfl,rfl⟩)
  cases e<;>first|exact this|exact hq.elim
theorem aFb{N:Nat}:∀(c:Code),codeOk P N ann c=true->sR c=true->∀s∈TT c,s<N:=by
 intro c
 induction c with
 |region id ops draw=>
  intro hok _ s hs
  simp only[codeOk,aJQ]at hok
  obtain⟨o,h1,h2⟩:=Kg.1 hs
  obtain⟨i,hi,rfl⟩:=aLs h1
  exact YS hok.1.1 i _ (by simp at hi⊢) s h2
 |seq x y ihx ihy=>
  intro hok hfl s hs
  simp only[codeOk,sR,aJQ]at hok hfl
  rcases aKg.1 hs with hs|hs
  .exact ihx hok.1 hfl.1 s hs
  .exact ihy hok.2 hfl.2 s hs
 |cond c x y ihx ihy=>
  intro hok hfl s hs
  simp only[codeOk,sR,aJQ]at hok hfl
  rcases aKg.1 hs with hs|hs
  .exact ihx hok.2.1 hfl.1 s hs
  .exact ihy hok.2.2 hfl.2 s hs
 |block id c ih=>intro hok hfl s hs;exact ih hok hfl s hs
 |loop c ih=>intro hok hfl s hs;exact ih hok hfl s hs
 |scope c ih=>intro hok hfl s hs;exact ih hok hfl s hs
 |rangeFunc=>intro _ hfl;simp[sR]at hfl
 |_=>intro _ _ s hs;simp[TT]at hs
theorem atB{f:FuncId}{fn:Func}{c:Code}{args:List aL1}{w:aL0}{rs:List ResultVar}{R:aL1->aL0->Prop}(hm:P.follows .mixedOrders=true)(hAf:ann.f=f)
 (hf:P.funcs[f]?=some fn) (hb:fn.body=some c) (hrs:fn.results=rs.toArray) {N:Nat} (hN:fn.ntmps=N) (hle:args.length<=N)
 (hok:codeOk P N ann c=true) (hro:rs.all aoK=true) (hND:Nat.ble N DS=true) (hfl:sR c=true) (h:dM P ann c (aH8 P rs R) (aaP args) w):aG P f args.toArray w R:=by
 refine Wy hm hAf hf hb hrs hN hle hok hro hND (FJ h λe g' w' ha hq=> ?_)
 have hND:=aK8 hND
 have:g' DS=undef:=by
  rw[ha DS (λhd=>absurd (aFb c hok hfl DS hd) (Nat.not_lt.2 hND)),atD hle hND]
 cases e with
 |normal=>show G3 (g' DS) w' (λw=>sE P rs g' w λvs=>R (tup vs) w);rw[this];exact hq
 |ret=>show G3 (g' DS) w' (λw=>sE P rs g' w λvs=>R (tup vs) w);rw[this];exact hq
 |_=>exact hq.elim
def KT(tmps:Array aL1):Env:=λi=>tmps.getD i undef
def ajM(l:Nat)(R:aL1->aL0->Prop):Exit->Env->aL0->Prop
 | .normal,_,w=>∃r:Loop,w.heap[l]?=some (.loop r)/\R (.bool true) (w.putObj l (.loop {r with state:= .ready,pending:=none}))
 | .ret,_,w=>∃r:Loop,w.heap[l]?=some (.loop r)/\R (.bool false) (w.putObj l (.loop {r with state:= .done,pending:=some .ret}))
 | .exit i,_,w=>∃r:Loop,w.heap[l]?=some (.loop r)/\R (.bool false) (w.putObj l (.loop {r with state:= .done,pending:=some (.exit i)}))
 |_,_,_=>False
def asQ(P:Program)(ann:FA)(l:Nat)(bd:Code)(R:aL1->aL0->Prop):Exit->Env->aL0->Prop
 | .normal,g,w=>∃r:Loop,w.heap[l]?=some (.loop r)/\r.state= .ready/\dM P ann bd (ajM l R) g (w.putObj l (.loop {r with state:= .busy}))
 |_,_,_=>False
theorem apX{f:FuncId}{l:Nat}{tmps:Array aL1}{aJB bd:Code}{w:aL0}{R:aL1->aL0->Prop}(hm:P.follows .mixedOrders=true)(hAf:ann.f=f){N:Nat}(hN:RS P f=N)(hND:Nat.ble N DS=true)
 (hsz:tmps.size=N) (hok1:codeOk P N ann aJB=true) (hf1:sR aJB=true) (hok2:codeOk P N ann bd=true) (hf2:sR bd=true)
 (h:dM P ann aJB (asQ P ann l bd R) (KT tmps) w):aaH P l f tmps aJB bd w R:=by
 subst hAf
 have hND:=aK8 hND
 obtain⟨e,g1,w1,hq,ha,hall⟩:=afM _ _ _ _ h
 cases e with
 |normal=>
  obtain⟨r,h1,h2,hd⟩:=hq
  obtain⟨e2,g2,w2,hq2,ha2,hall2⟩:=afM _ _ _ _ hd
  have hx:∃v w4,R v w4/\∀R':aL1->aL0->Prop,R' v w4->ajM l R' e2 g2 w2:=by
   cases e2 with
   |normal=>obtain⟨r2,k1,k2⟩:=hq2;exact⟨_,_,k2,λR' h=>⟨r2,k1,h⟩⟩
   |ret=>obtain⟨r2,k1,k2⟩:=hq2;exact⟨_,_,k2,λR' h=>⟨r2,k1,h⟩⟩
   |exit i=>obtain⟨r2,k1,k2⟩:=hq2;exact⟨_,_,k2,λR' h=>⟨r2,k1,h⟩⟩
   |_=>exact hq2.elim
  obtain⟨v,w4,hR,hrest⟩:=hx
  refine⟨v,w4, ?_,hR⟩
  have hrel:Qy N (KT tmps) {tmps:=tmps,defers:=[]}:=by
   refine⟨hND, ?_,hsz,λi _=>rfl⟩
   have:KT tmps DS=undef:=by unfold KT;rw[aJR,aKn (by omega)]<;>rfl
   rw[this]<;>rfl
  have key:RoundIn Fence.wide 0 P l ann.f tmps aJB bd w λe w'=>∃v',e= .returned v'/\(v'=v/\w'=w4):=by
   refine aqV (Zd hm hN aJB hok1 (.inr hf1) (λe g w=>e= .normal/\g=g1/\w=w1) _ _ _ _ hrel ?_ (hall _ ⟨rfl,rfl,rfl⟩))
   rintro e g a w hra ⟨rfl,rfl,rfl⟩
   refine⟨_,run_beginRound h1 h2,Zd hm hN bd hok2 (.inr hf2) (ajM l λv' w'=>v'=v/\w'=w4) _ _ _ _ hra ?_ (hall2 _ (hrest _ ⟨rfl,rfl⟩))⟩
   intro e g a w _ h
   cases e with
   |normal=>obtain⟨r,k1,k2⟩:=h;exact⟨_,_,run_endRound none k1,k2⟩
   |ret=>obtain⟨r,k1,k2⟩:=h;exact⟨_,_,run_endRound (some .ret) k1,k2⟩
   |exit i=>obtain⟨r,k1,k2⟩:=h;exact⟨_,_,run_endRound (some (.exit i)) k1,k2⟩
   |_=>exact h.elim
  refine RoundIn.mono key ?_
  rintro e w' ⟨v',rfl,rfl,rfl⟩
  exact⟨rfl,rfl⟩
 |_=>exact hq.elim
theorem alM{f:FuncId}{args:Array aL1}{w:aL0}{R:aL1->aL0->Prop}(h:aG P f args w R):
 Calls P f args w λe w'=>∃v,e= .returned v/\R v w':=by
 obtain⟨v,w',hr,hR⟩:=h
 refine Calls.mono hr ?_
 rintro e w'' ⟨rfl,rfl⟩
 exact⟨v,rfl,hR⟩
end
def sA:Code->Code| .seq a _=>a|c=>c
def cT:Code->Code| .cond _ a _=>a|c=>c
def cE:Code->Code| .cond _ _ b=>b|c=>c
def bI:Code->Code| .block _ c=>c| .loop c=>c| .scope c=>c|c=>c
def bA(f:Func):Code:=match f.body with|some c=>c|none=> .skip
def bL:Nat->Code->Code
 |0,c=>c
 |1,c=>sA c
 |n+1,.seq a b=> .seq a (bL n b)
 |_,c=>c
def aO:Nat->Code->Code
 |0,c=>c
 |n+1,.seq _ b=>aO n b
 |_,c=>c
def ayD:Nat->Code->Bool
 |1,.seq _ _=>true
 |n+1,.seq _ b=>ayD n b
 |_,_=>false
def dr(w:aL0):aL0:={w with drawn:=w.drawn+1}
def lO(P:Program)(t:TypeId)(a:aL1)(w:aL0)(K:aL1->Prop):Prop:=∃v,(do loadVar t (<-asAddr a):Sem aL1).run P w= .ok v w/\K v
def exL:List (Nat×(Env->aL0->Prop))->Nat->Env->aL0->Prop
 |[],_,_,_=>False
 |(j,k)::r,i,g,w=>match Nat.beq i j with|true=>k g w|false=>exL r i g w
def exQ(kn kr:Env->aL0->Prop)(l:List (Nat×(Env->aL0->Prop))):Exit->Env->aL0->Prop
 | .normal,g,w=>kn g w
 | .ret,g,w=>kr g w
 | .exit i,g,w=>exL l i g w
 |_,_,_=>False
def arW(Q:Exit->Env->aL0->Prop):List (Nat×(Env->aL0->Prop))->Prop
 |[]=>True
 |(i,k)::r=>(∀g w,k g w->Q (.exit i) g w)/\arW Q r
def cH(c a b:aL1):Sem Next:=do pure (.value (if<-asBool c then a else b))
def bE(t:TypeId):Sem Next:=V (Instr.alloc t true (.tuple #[]))
def jK(t:TypeId)(x:aL1):Sem Next:=V (Instr.box t x)
def aB(t:TypeId)(a:aL1):Sem Next:=V (Instr.loadAt t a)
def aF(t:TypeId)(a x:aL1):Sem Next:=U (Instr.storeAt t a x)
def cQ(x:aL1):Sem Next:=execOp (λ_=>x) ⟨none,.nilCheck (.tmp 0),0,default,#[],none⟩
def G2 (op:UnOp)(x:aL1):Sem Next:=V (Op.unary op x)
def cP(s d:TypeId)(x:aL1):Sem Next:=V (convert s d x)
def aHf(t:TypeId)(x:aL1):Sem Next:=V (Instr.makeInterface t x)
def Z7 (t:TypeId)(r:Option aL1):Sem Next:=V (Instr.makeMap t r)
def yX(t:TypeId)(l c:aL1):Sem Next:=V (Instr.makeSlice t l c)
def dH(t:TypeId)(x:aL1)(lo hi mx:Option aL1):Sem Next:=V (Instr.sliceAt t x lo hi mx)
def aD(t:TypeId)(x:aL1)(f:Nat):Sem Next:=V (Instr.fieldAt t x f)
def aR(t:TypeId)(x i:aL1):Sem Next:=V (Instr.indexAt t x i)
def VS(t:TypeId)(x i:aL1):Sem Next:=V (Instr.index t x i)
def Dp(t:TypeId)(x i:aL1)(ok:Bool):Sem Next:=V (Instr.lookup t x i ok)
def VT(t:TypeId)(m k x:aL1):Sem Next:=U (Instr.mapUpdate t m k x)
def Z8 (t:TypeId)(x:aL1):Sem Next:=V (Instr.range t x)
def arC(it:aL1):Sem Next:=V (Instr.entry it)
def avT(it:aL1)(str:Bool)(ty:TypeId):Sem Next:=V (Instr.next it str ty)
def aQ(t:aL1)(i:Nat):Sem Next:=V (Instr.extract t i)
section
variable{P:Program}{ann:FA}
theorem aGO{Q:Exit->Env->aL0->Prop}:∀{l:List (Nat×(Env->aL0->Prop))},arW Q l->∀{i:Nat} {g:Env} {w:aL0},exL l i g w->Q (.exit i) g w:=by
 intro l
 induction l with
 |nil=>intro _ i g w h;exact h.elim
 |cons p r ih=>
  obtain⟨j,k⟩:=p
  rintro⟨h1,h2⟩ i g w h
  simp only[exL]at h
  cases hb:Nat.beq i j with
  |true=>
   simp only[hb]at h
   obtain rfl:=aKk hb
   exact h1 _ _ h
  |false=>simp only[hb]at h;exact ih h2 h
theorem aE9 {c:Code}{kn kr:Env->aL0->Prop}{l:List (Nat×(Env->aL0->Prop))}{Q:Exit->Env->aL0->Prop}{g:Env}{w:aL0}{A:Prop}
 (e:A=dM P ann c (exQ kn kr l) g w) (h:A) (hn:∀g w,kn g w->Q .normal g w) (hr:∀g w,kr g w->Q .ret g w) (hl:arW Q l):dM P ann c Q g w:=by
 rw[e]at h
 refine FJ h (λe g' w' _ hq=> ?_)
 cases e with
 |normal=>exact hn _ _ hq
 |ret=>exact hr _ _ hq
 |exit i=>exact aGO hl hq
 |_=>exact hq.elim
theorem aBs{x y z:Code}{Q:Exit->Env->aL0->Prop}{g:Env}{w:aL0}(h:dM P ann (.seq (.seq x y) z) Q g w):dM P ann (.seq x (.seq y z)) Q g w:=by
 show dM P ann x (Cy (λg w=>dM P ann y (Cy (λg w=>dM P ann z Q g w) Q) g w) Q) g w
 have h:dM P ann x (Cy (λg w=>dM P ann y (Cy (λg w=>dM P ann z Q g w) Q) g w) (Cy (λg w=>dM P ann z Q g w) Q)) g w:=h
 refine FJ h (λe g' w' _ hq=> ?_)
 cases e<;>exact hq
theorem aJ{K:Env->aL0->Prop}{Q:Exit->Env->aL0->Prop}{g:Env}{w:aL0}(h:K g w):Cy K Q .normal g w:=h
theorem aBu{Q:Exit->Env->aL0->Prop}:∀(n:Nat) (c:Code) (g:Env) (w:aL0),ayD n c=true->dM P ann (.seq (bL n c) (aO n c)) Q g w->dM P ann c Q g w:=by
 intro n
 induction n with
 |zero=>intro c g w h;simp[ayD]at h
 |succ n ih=>
  intro c g w h hd
  cases c with
  |seq a b=>
   cases n with
   |zero=>exact hd
   |succ n=>
    have hb:ayD (n+1) b=true:=by simpa[ayD]using h
    have hd':dM P ann (.seq (.seq a (bL (n+1) b)) (aO (n+1) b)) Q g w:=hd
    have:=aBs hd'
    show dM P ann a (Cy (λg w=>dM P ann b Q g w) Q) g w
    have h2:dM P ann a (Cy (λg w=>dM P ann (.seq (bL (n+1) b) (aO (n+1) b)) Q g w) Q) g w:=this
    refine FJ h2 (λe g' w' _ hq=> ?_)
    cases e with
    |normal=>exact ih b g' w' hb hq
    |_=>exact hq
  |_=>cases n<;>simp[ayD]at h
def aGn(id:Nat):Code->Bool| .block i _=>Nat.beq i id|_=>false
def aDo:Code->Bool| .loop _=>true|_=>false
def aCX:Code->Option Operand| .cond o _ _=>some o|_=>none
theorem aE7 {Q:Exit->Env->aL0->Prop}(id:Nat)(c:Code)(g:Env)(w:aL0)(h:aGn id c=true)(hd:dM P ann (bI c) (KQ id Q) g w):dM P ann c Q g w:=by
 cases c with
 |block i c=>
  obtain rfl:=aKk (show Nat.beq i id=true from h)
  exact hd
 |_=>cases h
def aGo:Code->Bool| .scope _=>true|_=>false
theorem aFa{Q:Exit->Env->aL0->Prop}(c:Code)(g:Env)(w:aL0)(h:aGo c=true)(hd:dM P ann (bI c) Q g w):dM P ann c Q g w:=by
 cases c with
 |scope c=>exact hd
 |_=>cases h
theorem aE8 {Q:Exit->Env->aL0->Prop}(o:Operand)(c:Code)(g:Env)(w:aL0)(h:aCX c=some o)
 (hd:cS (ev g o) (dM P ann (cT c) Q g w) (dM P ann (cE c) Q g w)):dM P ann c Q g w:=by
 cases c with
 |cond o' a b=>obtain rfl:=aKO h;exact hd
 |_=>cases h
theorem aCB{v:aL1}{A B A' B':Prop}(ha:A->A')(hb:B->B')(h:cS v A B):cS v A' B':=by
 unfold cS at*
 cases v with
 |bool b=>cases b<;>first|exact ha h|exact hb h
 |_=>exact h
theorem aC1 {T:Type}(proj:Env->T)(F:(T->aL0->Prop)->T->aL0->Prop){c:Code}{Q:Exit->Env->aL0->Prop}{g:Env}{w:aL0}
 (hF:∀(X:T->aL0->Prop) g' w',kJ (TT c) g g'->F X (proj g') w'->dM P ann c (Cy (λg'' w''=>X (proj g'') w'') Q) g' w')
 (h:bM F (proj g) w):dM P ann (.loop c) Q g w:=by
 obtain⟨I,⟨n,h0⟩,hI⟩:=h
 refine⟨λn g' w'=>kJ (TT c) g g'/\I n (proj g') w',⟨n,kJ.refl _ _,h0⟩, ?_⟩
 rintro n g' w' ⟨ha,hi⟩
 have:=hF _ g' w' ha (hI n _ _ hi)
 refine FJ this (λe g2 w2 ha2 hq=> ?_)
 cases e with
 |normal=>
  obtain⟨m,hm,hh⟩:=hq
  exact⟨m,hm,ha.trans ha2 (λ_ h=>h) (λ_ h=>h),hh⟩
 |_=>exact hq
theorem aBt{T:Type}(proj:Env->T)(F:(T->aL0->Prop)->T->aL0->Prop)(c:Code){Q:Exit->Env->aL0->Prop}{g:Env}{w:aL0}(hl:aDo c=true)
 (h:bM F (proj g) w)
 (hF:∀(X:T->aL0->Prop) g' w',kJ (TT (bI c)) g g'->F X (proj g') w'->dM P ann (bI c) (Cy (λg'' w''=>X (proj g'') w'') Q) g' w'):dM P ann c Q g w:=by
 cases c with
 |loop c=>exact aC1 proj F hF h
 |_=>cases hl
theorem ayI{l:List Nat}{s:Nat}(hs:qC s l=false):s∉l:=by
 induction l with
 |nil=>simp
 |cons a r ih=>
  unfold qC at hs
  cases hb:Nat.beq a s with
  |true=>simp only[hb]at hs;cases hs
  |false=>
   simp only[hb]at hs
   intro hm
   rcases aJK.1 hm with e|hm
   .subst e;simp at hb
   .exact ih hs hm
theorem aCI{l:List Nat}{g g':Env}(h:kJ l g g'){s:Nat}(hs:qC s l=false):g' s=g s:=h s (ayI hs)
def xP(id:Nat):Code->Array Oper
 | .region i ops _=>match Nat.beq i id with|true=>ops|false=> #[]
 | .seq a b=>match(xP id a).size with|0=>xP id b|_+1=>xP id a
 | .cond _ a b=>match(xP id a).size with|0=>xP id b|_+1=>xP id a
 | .block _ c=>xP id c
 | .loop c=>xP id c
 | .scope c=>xP id c
 |_=> #[]
theorem Qx{b:Bool}{A B:Prop}(ha:A)(hb:B):Ord b A B:=by cases b<;>assumption
theorem bM.rule {α:Type}{F:(α->aL0->Prop)->α->aL0->Prop}(I:Nat->α->aL0->Prop){g:α}{w:aL0}(n:Nat)(h0:I n g w)
 (hr:∀n g w,I n g w->F (λg' w'=>∃m,m<n/\I m g' w') g w):bM F g w:=⟨I,⟨n,h0⟩,hr⟩
theorem cN(A B:Prop):cS (.bool true) A B=A:=Eq.trans rfl rfl
theorem bH(A B:Prop):cS (.bool false) A B=B:=Eq.trans rfl rfl
theorem gI(s:(aL1->aL0->Prop)->Prop)(w:aL0)(K:aL1->aL0->Prop):Gd true s w K=s K:=Eq.trans rfl rfl
theorem jQ(s:(aL1->aL0->Prop)->Prop)(w:aL0)(K:aL1->aL0->Prop):Gd false s w K=K undef w:=Eq.trans rfl rfl
theorem afG(p:Prop):Gs true p=p:=Eq.trans rfl rfl
theorem Wb(p:Prop):Gs false p=True:=Eq.trans rfl rfl
theorem uQ:bG (.bool true) true=true:=Eq.trans rfl rfl
theorem Nv:bG (.bool true) false=false:=Eq.trans rfl rfl
theorem wH:bG (.bool false) true=false:=Eq.trans rfl rfl
theorem qB:bG (.bool false) false=true:=Eq.trans rfl rfl
def aN:Operand:= .tmp 0
theorem exD{c:Code}{kn kr:Env->aL0->Prop}{l:List (Nat×(Env->aL0->Prop))}{Q:Exit->Env->aL0->Prop}{g:Env}{w:aL0}{A:Prop}
 (h:A) (hn:∀g w,kn g w->Q .normal g w) (hr:∀g w,kr g w->Q .ret g w) (hl:arW Q l) (e:A=dM P ann c (exQ kn kr l) g w:=by kernel_rfl):dM P ann c Q g w:=aE9 e h hn hr hl
theorem dN{Q:Exit->Env->aL0->Prop}(n:Nat){c:Code}{g:Env}{w:aL0}
 (hd:dM P ann (bL n c) (Cy (λg w=>dM P ann (aO n c) Q g w) Q) g w) (h:ayD n c=true:=by kernel_rfl):dM P ann c Q g w:=aBu n c g w h hd
theorem BK{Q:Exit->Env->aL0->Prop}(id:Nat){c:Code}{g:Env}{w:aL0}(hd:dM P ann (bI c) (KQ id Q) g w)(h:aGn id c=true:=by kernel_rfl):dM P ann c Q g w:=aE7 id c g w h hd
theorem scD{Q:Exit->Env->aL0->Prop}{c:Code}{g:Env}{w:aL0}(hd:dM P ann (bI c) Q g w)(h:aGo c=true:=by kernel_rfl):dM P ann c Q g w:=aFa c g w h hd
theorem cdD{Q:Exit->Env->aL0->Prop}(o:Operand){c:Code}{g:Env}{w:aL0}{A B:Prop}(ha:A->dM P ann (cT c) Q g w)(hb:B->dM P ann (cE c) Q g w)(hd:cS (ev g o) A B)(h:aCX c=some o:=by kernel_rfl):dM P ann c Q g w:=
 aE8 o c g w h (aCB ha hb hd)
theorem Fl{T:Type}(proj:Env->T)(F:(T->aL0->Prop)->T->aL0->Prop){c:Code}{Q:Exit->Env->aL0->Prop}{g:Env}{w:aL0}
 (h:bM F (proj g) w)
 (hF:∀(X:T->aL0->Prop) g' w',kJ (TT (bI c)) g g'->F X (proj g') w'->dM P ann (bI c) (Cy (λg'' w''=>X (proj g'') w'') Q) g' w') (hl:aDo c=true:=by kernel_rfl):dM P ann c Q g w:=aBt proj F c hl h hF
theorem fC{l:List Nat}{g g':Env}(s:Nat)(h:kJ l g g')(hs:qC s l=false:=by kernel_rfl):g' s=g s:=aCI h hs
theorem jX{ann:FA}(fn:Func)(c:Code)(args:List aL1)(rs:List ResultVar)(N:Nat){f:FuncId}{w:aL0}{R:aL1->aL0->Prop}(hm:P.follows .mixedOrders=true)
 (hf:P.funcs[f]?=some fn) (h:dM P ann c (aH8 P rs R) (aaP args) w) (hAf:ann.f=f:=by kernel_rfl) (hb:fn.body=some c:=by kernel_rfl) (hrs:fn.results=rs.toArray:=by kernel_rfl) (hN:fn.ntmps=N:=by kernel_rfl) (hle:Nat.ble args.length N=true:=by kernel_rfl)
 (hok:codeOk P N ann c=true:=by kernel_rfl) (hro:rs.all aoK=true:=by kernel_rfl) (hND:Nat.ble N DS=true:=by kernel_rfl) (hfl:sR c=true:=by kernel_rfl):aG P f args.toArray w R:=
 atB hm hAf hf hb hrs hN (aK8 hle) hok hro hND hfl h
def amH:Code->Option (Operand×Array Tmp×Code×Code)
 | .rangeFunc g ps aJB bd=>some (g,ps,aJB,bd)
 | .seq a b=>(match amH a with|some r=>some r|none=>amH b)
 | .cond _ a b=>(match amH a with|some r=>some r|none=>amH b)
 | .block _ c=>amH c
 | .loop c=>amH c
 | .scope c=>amH c
 |_=>none
def amI(c:Code):Array Tmp:=match amH c with|some (_,ps,_)=>ps|none=> #[]
def aeP(c:Code):Code:=match amH c with|some (_,_,aJB,_)=>aJB|none=> .skip
def Yh(c:Code):Code:=match amH c with|some (_,_,_,bd)=>bd|none=> .skip
def Rdy(l:Nat)(w:aL0)(K:aL0->Prop):Prop:=∃r:Loop,w.heap[l]?=some (.loop r)/\r.state= .ready/\K (w.putObj l (.loop {r with state:= .busy}))
def jSt:Option Code->LoopState
 |none=> .ready
 |some _=> .done
def agE(l:Nat)(j:Option Code)(R:aL1->aL0->Prop)(w:aL0):Prop:=
 ∃r:Loop,w.heap[l]?=some (.loop r)/\R (.bool j.isNone) (w.putObj l (.loop {r with state:=jSt j,pending:=j}))
theorem dsF{ann:FA}(fn:Func)(c:Code)(args:List aL1)(rs:List ResultVar)(N:Nat){f:FuncId}{w:aL0}{R:aL1->aL0->Prop}(hm:P.follows .mixedOrders=true)
 (hf:P.funcs[f]?=some fn) (h:dM P ann c (aHa P rs R) (aaP args) w) (hAf:ann.f=f:=by kernel_rfl) (hb:fn.body=some c:=by kernel_rfl) (hrs:fn.results=rs.toArray:=by kernel_rfl) (hN:fn.ntmps=N:=by kernel_rfl) (hle:Nat.ble args.length N=true:=by kernel_rfl)
 (hok:codeOk P N ann c=true:=by kernel_rfl) (hro:rs.all aoK=true:=by kernel_rfl) (hND:Nat.ble N DS=true:=by kernel_rfl):aG P f args.toArray w R:=
 Wy hm hAf hf hb hrs hN (aK8 hle) hok hro hND h
theorem dsR{ann:FA}(N:Nat){f:FuncId}{l:Nat}{tmps:Array aL1}{aJB bd:Code}{w:aL0}{R:aL1->aL0->Prop}(hm:P.follows .mixedOrders=true)(hsz:tmps.size=N)
 (h:dM P ann aJB (asQ P ann l bd R) (KT tmps) w) (hN:RS P f=N) (hok1:codeOk P N ann aJB=true) (hok2:codeOk P N ann bd=true) (hAf:ann.f=f:=by kernel_rfl) (hND:Nat.ble N DS=true:=by kernel_rfl)
 (hf1:sR aJB=true:=by kernel_rfl) (hf2:sR bd=true:=by kernel_rfl):aaH P l f tmps aJB bd w R:=
 apX hm hAf hN hND hsz hok1 hf1 hok2 hf2 h
end
end Go.En
namespace Go.Proofs.YteelnmpbnaohpaaGreatDoor
open Go Go.En
noncomputable abbrev pg:Program:=Tryz.prog
theorem TryzM.mixed:pg.follows .mixedOrders=true:=Tryz.checked.mixed
abbrev K0:=aL0->Prop
abbrev K1:=aL1->K0
abbrev K2:=aL1->K1
abbrev K3:=aL1->K2
abbrev K4:=aL1->K3
abbrev K5:=aL1->K4
abbrev K6:=aL1->K5
abbrev K7:=aL1->K6
abbrev K8:=aL1->K7
abbrev K9:=aL1->K8
abbrev K10:=aL1->K9
abbrev HR(rs:List ResultVar)(R:K1)(Q:Exit->Env->aL0->Prop):Prop:=∀g w,(sE pg rs g w λvs=>R (tup vs) w)->Q .ret g w
abbrev no:Env->aL0->Prop:=λ_ _=>False
theorem JO{Q:Env->aL0->Prop}:∀g w,no g w->Q g w:=λ_ _ h=>h.elim
def fz:Nat->List (Bool×List Nat)->List (Bool×List Nat)
 |0,l=>l
 |n+1,l=>(false,[])::fz n l
def ft(a:List Nat)(l:List (Bool×List Nat)):List (Bool×List Nat):=(true,a)::l
def fu(a:List Nat)(l:List (Bool×List Nat)):List (Bool×List Nat):=(false,a)::l
theorem dE{Q:Env->aL0->Prop}:∀g w,Q g w->Q g w:=λ_ _ h=>h
section
variable{P:Program}{ann:FA}{c:Code}{kr:Env->aL0->Prop}{Q:Exit->Env->aL0->Prop}{g:Env}{w:aL0}{A:Prop}
theorem El(l:List (Nat×(Env->aL0->Prop)))(kn:Env->aL0->Prop)(h:A)(hn:∀g w,kn g w->Q .normal g w)(hr:∀g w,kr g w->Q .ret g w)(hl:arW Q l)(e:A=dM P ann c (exQ kn kr l) g w:=by kernel_rfl):dM P ann c Q g w:=exD h hn hr hl e
theorem Up(kn:Env->aL0->Prop)(h:A)(hn:∀g w,kn g w->Q .normal g w)(hr:∀g w,kr g w->Q .ret g w)(e:A=dM P ann c (exQ kn kr []) g w:=by kernel_rfl):dM P ann c Q g w:=exD (l:=[]) h hn hr trivial e
theorem iS(kn:Env->aL0->Prop)(h:A)(hn:∀g w,kn g w->Q .normal g w)(e:A=dM P ann c (exQ kn no []) g w:=by kernel_rfl):dM P ann c Q g w:=exD (l:=[]) h hn JO trivial e
theorem kL(h:A)(hr:∀g w,kr g w->Q .ret g w)(e:A=dM P ann c (exQ no kr []) g w:=by kernel_rfl):dM P ann c Q g w:=exD (l:=[]) h JO hr trivial e
end
abbrev Mq0 (k:K0):Env->aL0->Prop:=λg w=>k w
abbrev Mq1 (k:K1)(x0:Nat):Env->aL0->Prop:=λg w=>k (g x0) w
abbrev Qv(k:K2)(x0 x1:Nat):Env->aL0->Prop:=λg w=>k (g x0) (g x1) w
abbrev GO(k:K3)(x0 x1 x2:Nat):Env->aL0->Prop:=λg w=>k (g x0) (g x1) (g x2) w
abbrev CN(k:K4)(x0 x1 x2 x3:Nat):Env->aL0->Prop:=λg w=>k (g x0) (g x1) (g x2) (g x3) w
abbrev YN(k:K5)(x0 x1 x2 x3 x4:Nat):Env->aL0->Prop:=λg w=>k (g x0) (g x1) (g x2) (g x3) (g x4) w
abbrev Mq6 (k:K6)(x0 x1 x2 x3 x4 x5:Nat):Env->aL0->Prop:=λg w=>k (g x0) (g x1) (g x2) (g x3) (g x4) (g x5) w
abbrev Mq7 (k:K7)(x0 x1 x2 x3 x4 x5 x6:Nat):Env->aL0->Prop:=λg w=>k (g x0) (g x1) (g x2) (g x3) (g x4) (g x5) (g x6) w
abbrev Mq8 (k:K8)(x0 x1 x2 x3 x4 x5 x6 x7:Nat):Env->aL0->Prop:=λg w=>k (g x0) (g x1) (g x2) (g x3) (g x4) (g x5) (g x6) (g x7) w
abbrev Mq9 (k:K9)(x0 x1 x2 x3 x4 x5 x6 x7 x8:Nat):Env->aL0->Prop:=λg w=>k (g x0) (g x1) (g x2) (g x3) (g x4) (g x5) (g x6) (g x7) (g x8) w
abbrev aHJ(k:K10)(x0 x1 x2 x3 x4 x5 x6 x7 x8 x9:Nat):Env->aL0->Prop:=λg w=>k (g x0) (g x1) (g x2) (g x3) (g x4) (g x5) (g x6) (g x7) (g x8) (g x9) w
abbrev BF:FuncId:=3
abbrev EP:FuncId:=4
abbrev Fz:FuncId:=5
abbrev Ea:FuncId:=6
abbrev J3:FuncId:=7
abbrev dF:FuncId:=8
abbrev CC:FuncId:=9
abbrev zY:FuncId:=10
abbrev tZ:FuncId:=11
abbrev eF:FuncId:=12
abbrev gK:FuncId:=13
abbrev gV:FuncId:=14
abbrev kI:FuncId:=15
abbrev lF:FuncId:=16
abbrev pD:FuncId:=17
abbrev vV:FuncId:=18
abbrev qK:FuncId:=19
abbrev AS:FuncId:=20
abbrev fM:FuncId:=21
abbrev dK:FuncId:=22
abbrev wV:FuncId:=23
abbrev tW:FuncId:=24
abbrev rO:FuncId:=25
abbrev gE:FuncId:=26
abbrev ER:FuncId:=27
abbrev J4:FuncId:=28
abbrev CG:FuncId:=29
abbrev zX:FuncId:=30
abbrev wU:FuncId:=31
abbrev AU:FuncId:=32
abbrev gD:FuncId:=33
abbrev rE:FuncId:=34
abbrev iB:FuncId:=35
abbrev rP:FuncId:=36
abbrev lG:FuncId:=37
abbrev iV:FuncId:=38
abbrev Ce:FuncId:=39
abbrev mD:FuncId:=40
abbrev qP:FuncId:=41
abbrev dQ:FuncId:=42
abbrev nP:FuncId:=43
abbrev AY:FuncId:=44
abbrev nN:FuncId:=45
abbrev nO:FuncId:=46
abbrev mE:FuncId:=47
abbrev jP:FuncId:=48
abbrev tV:FuncId:=49
abbrev mC:FuncId:=50
abbrev fN:FuncId:=51
abbrev nV:FuncId:=52
abbrev Qw:FuncId:=53
abbrev AT:FuncId:=54
abbrev tX:FuncId:=55
abbrev sI:FuncId:=56
abbrev Cd:FuncId:=57
abbrev Hc:FuncId:=58
abbrev yB:FuncId:=59
abbrev CH:FuncId:=60
abbrev qN:FuncId:=61
abbrev qO:FuncId:=62
abbrev zZ:FuncId:=63
abbrev BG:FuncId:=64
abbrev AW:FuncId:=65
abbrev Aa:FuncId:=66
abbrev Ac:FuncId:=67
abbrev vH:FuncId:=68
abbrev wX:FuncId:=69
abbrev Eb:FuncId:=70
abbrev wW:FuncId:=71
abbrev oZ:FuncId:=72
abbrev Hb:FuncId:=73
abbrev AV:FuncId:=74
abbrev tY:FuncId:=75
abbrev fY:FuncId:=76
abbrev ES:FuncId:=77
abbrev tU:FuncId:=78
abbrev qM:FuncId:=79
abbrev CD:FuncId:=80
abbrev Th:FuncId:=81
abbrev iT:FuncId:=82
abbrev CI:FuncId:=83
abbrev CE:FuncId:=84
abbrev Cc:FuncId:=85
abbrev wB:FuncId:=86
abbrev pC:FuncId:=87
abbrev gY:FuncId:=88
abbrev Ab:FuncId:=89
abbrev CF:FuncId:=90
abbrev vI:FuncId:=91
abbrev Ha:FuncId:=92
abbrev apC:FuncId:=93
abbrev AH:FuncId:=94
abbrev AG:FuncId:=95
abbrev tS:FuncId:=96
abbrev jO:FuncId:=97
abbrev rQ:FuncId:=98
abbrev tT:FuncId:=99
abbrev gU:FuncId:=100
abbrev V9:FuncId:=101
abbrev nM:FuncId:=102
abbrev Ad:FuncId:=103
abbrev G9:FuncId:=104
abbrev Cb:FuncId:=105
abbrev Na:FuncId:=106
abbrev cB:FuncId:=107
abbrev eE:FuncId:=108
abbrev Bm:FuncId:=109
abbrev M9:FuncId:=110
abbrev iU:FuncId:=111
abbrev qL:FuncId:=112
abbrev YR:FuncId:=113
abbrev D9:FuncId:=114
abbrev HV:FuncId:=115
abbrev HW:FuncId:=116
abbrev CJ:FuncId:=117
abbrev cX:FuncId:=118
abbrev FC:FuncId:=119
abbrev BH:FuncId:=120
abbrev CK:FuncId:=121
abbrev Cz:FuncId:=122
abbrev vJ:FuncId:=123
abbrev vG:FuncId:=124
abbrev AX:FuncId:=125
abbrev Ec:FuncId:=126
abbrev Wa:FuncId:=127
abbrev wY:FuncId:=128
abbrev EU:FuncId:=129
abbrev fZ:FuncId:=130
abbrev ET:FuncId:=131
abbrev dO:FuncId:=132
abbrev sH:FuncId:=138
abbrev N0 (Q : Exit -> Env -> aL0 -> Prop) (k : K0) : Prop := ∀ g w, k w -> Q .normal g w
abbrev E0 (Q : Exit -> Env -> aL0 -> Prop) (k : K0) (x0 : Nat) : Prop := ∀ g w, k w -> Q (.exit x0) g w
abbrev N1 (Q : Exit -> Env -> aL0 -> Prop) (k : K1) (a_ : Nat) : Prop := ∀ g w, k (g a_) w -> Q .normal g w
abbrev E1 (Q : Exit -> Env -> aL0 -> Prop) (k : K1) (x0 : Nat) (a_ : Nat) : Prop := ∀ g w, k (g a_) w -> Q (.exit x0) g w
abbrev N2 (Q : Exit -> Env -> aL0 -> Prop) (k : K2) (a_ b_ : Nat) : Prop := ∀ g w, k (g a_) (g b_) w -> Q .normal g w
abbrev E2 (Q : Exit -> Env -> aL0 -> Prop) (k : K2) (x0 : Nat) (a_ b_ : Nat) : Prop := ∀ g w, k (g a_) (g b_) w -> Q (.exit x0) g w
abbrev N3 (Q : Exit -> Env -> aL0 -> Prop) (k : K3) (a_ b_ c_ : Nat) : Prop := ∀ g w, k (g a_) (g b_) (g c_) w -> Q .normal g w
abbrev E3 (Q : Exit -> Env -> aL0 -> Prop) (k : K3) (x0 : Nat) (a_ b_ c_ : Nat) : Prop := ∀ g w, k (g a_) (g b_) (g c_) w -> Q (.exit x0) g w
abbrev N4 (Q : Exit -> Env -> aL0 -> Prop) (k : K4) (a_ b_ c_ d_ : Nat) : Prop := ∀ g w, k (g a_) (g b_) (g c_) (g d_) w -> Q .normal g w
abbrev E4 (Q : Exit -> Env -> aL0 -> Prop) (k : K4) (x0 : Nat) (a_ b_ c_ d_ : Nat) : Prop := ∀ g w, k (g a_) (g b_) (g c_) (g d_) w -> Q (.exit x0) g w
abbrev N5 (Q : Exit -> Env -> aL0 -> Prop) (k : K5) (a_ b_ c_ d_ e_ : Nat) : Prop := ∀ g w, k (g a_) (g b_) (g c_) (g d_) (g e_) w -> Q .normal g w
abbrev E5 (Q : Exit -> Env -> aL0 -> Prop) (k : K5) (x0 : Nat) (a_ b_ c_ d_ e_ : Nat) : Prop := ∀ g w, k (g a_) (g b_) (g c_) (g d_) (g e_) w -> Q (.exit x0) g w
abbrev N6 (Q : Exit -> Env -> aL0 -> Prop) (k : K6) (a_ b_ c_ d_ e_ f_ : Nat) : Prop := ∀ g w, k (g a_) (g b_) (g c_) (g d_) (g e_) (g f_) w -> Q .normal g w
abbrev E6 (Q : Exit -> Env -> aL0 -> Prop) (k : K6) (x0 : Nat) (a_ b_ c_ d_ e_ f_ : Nat) : Prop := ∀ g w, k (g a_) (g b_) (g c_) (g d_) (g e_) (g f_) w -> Q (.exit x0) g w
abbrev N8 (Q : Exit -> Env -> aL0 -> Prop) (k : K8) (a_ b_ c_ d_ e_ f_ g_ h_ : Nat) : Prop := ∀ g w, k (g a_) (g b_) (g c_) (g d_) (g e_) (g f_) (g g_) (g h_) w -> Q .normal g w
abbrev E8 (Q : Exit -> Env -> aL0 -> Prop) (k : K8) (x0 : Nat) (a_ b_ c_ d_ e_ f_ g_ h_ : Nat) : Prop := ∀ g w, k (g a_) (g b_) (g c_) (g d_) (g e_) (g f_) (g g_) (g h_) w -> Q (.exit x0) g w
abbrev N9 (Q : Exit -> Env -> aL0 -> Prop) (k : K9) (a_ b_ c_ d_ e_ f_ g_ h_ i_ : Nat) : Prop := ∀ g w, k (g a_) (g b_) (g c_) (g d_) (g e_) (g f_) (g g_) (g h_) (g i_) w -> Q .normal g w
abbrev E9 (Q : Exit -> Env -> aL0 -> Prop) (k : K9) (x0 : Nat) (a_ b_ c_ d_ e_ f_ g_ h_ i_ : Nat) : Prop := ∀ g w, k (g a_) (g b_) (g c_) (g d_) (g e_) (g f_) (g g_) (g h_) (g i_) w -> Q (.exit x0) g w
abbrev aL2 (n_ : Int) : aL1 := .int .i64 n_
end Go.Proofs.YteelnmpbnaohpaaGreatDoor
namespace Go.Proofs.YteelnmpbnaohpaaGreatDoor
open Go Go.En
set_option maxRecDepth 20000
attribute [local irreducible] Go.En.dM
variable (Q : Exit -> Env -> aL0 -> Prop) (g : Env) (w : aL0)
def yF:FA:=⟨BF,λi=>match Nat.beq i 19 with|true=> .leaf ([7,11],[(10,11)]) (fz 7 (ft [] (fz 3 (ft [0] (fz 1 [])))))|false=> .leaf ([],[]) []⟩
def AN:List ResultVar:=[.tmp 8]
noncomputable def wE:Code:=bA Tryz.f3
def rW(R:K1) w:=
 R (.bool true) w
def AK(kn:K5)(k0:K0)(R:K1) mI mM WY TW DK w:=
 aA pg (eK .len #[24] 3 [mM]) w λj8 w=>
 aA pg (aE .lss 3 aN aN DK j8) w λj9 w=>
 Gd (bG j9 true) (λK=>K DK w) w λl1 w=>
 Gd (bG j9 true) (λK=>aA pg (aE .lss 3 aN aN l1 (aL2 20)) w K) w λl2 w=>
 aA pg (cH j9 l2 (.bool false)) w λl3 w=>
 cS l3
  (aA pg (aR 24 mM DK) w λl8 w=>
  aA pg (aD 54 l8 2) w λl9 w=>
  aA pg (aB 22 l9) w λm0 w=>
  aA pg (eK .len #[22] 3 [m0]) w λm1 w=>
  aA pg (aE .gtr 3 aN aN m1 (aL2 300)) w λm2 w=>
  Gd (bG m2 false) (λK=>K mM w) w λm4 w=>
  Gd (bG m2 false) (λK=>K DK w) w λm5 w=>
  Gd (bG m2 false) (λK=>aA pg (aR 24 m4 m5) w K) w λm6 w=>
  Gd (bG m2 false) (λK=>aA pg (aD 54 m6 7) w K) w λm7 w=>
  Gd (bG m2 false) (λK=>aA pg (aB 3 m7) w K) w λm8 w=>
  Gd (bG m2 false) (λK=>aA pg (aE .gtr 3 aN aN m8 (aL2 1073741824)) w K) w λm9 w=>
  aA pg (cH m2 (.bool true) m9) w λn0 w=>
  cS n0
   (R (.bool true) w)
   (aA pg (aB 49 TW) (dr w) λn2 w_=>w_=(dr w)/\
   (dr w)=(dr w)/\
   aA pg (aB 30 WY) (dr w) λn4 w_=>w_=(dr w)/\
   (dr w)=(dr w)/\
   (dr w)=(dr w)/\
   aA pg (aR 24 mM DK) (dr w) λn7 w_=>w_=(dr w)/\
   aA pg (aB 54 n7) (dr w) λn8 w_=>w_=(dr w)/\
   aG pg zY #[n2,mI,n4,n8] (dr w) λn9 akZ=>
   akZ=akZ/\
   aA pg (aQ n9 0) akZ λo0 w_=>w_=akZ/\
   aA pg (aQ n9 1) akZ λo1 w_=>w_=akZ/\
   aA pg (aF 49 TW o0) akZ λ_u11 arL=>
   (aP pg (aQ n9 1) o1 arL/\True)/\
   arL=arL/\
   aA pg (G2 .not o1) arL λo3 w=>
   Gd (bG o3 false) (λK=>aA pg (aB 49 TW) w K) w λo5 w=>
   Gd (bG o3 false) (λK=>aG pg CC #[o5] w K) w λo6 w=>
   Gd (bG o3 false) (λK=>aA pg (G2 .not o6) w K) w λo7 w=>
   aA pg (cH o3 (.bool true) o7) w λo8 w=>
   cS o8
    (R (.bool false) w)
    (aA pg (aE .add 3 aN aN DK (aL2 1)) w λl5 w=>
    kn mI mM WY TW l5 w)))
  (k0 w)
def rX(k0:K0)(R:K1) mI mM WY TW DK w:=
 bM (λ(X:aL1->K0) (t:aL1) (w:aL0)=>AK (λ_ _ _ _ DK w=>X DK w) k0 R mI mM WY TW t w) DK w
theorem Nx(k0:K0)(R:K1)(h0:E0 Q k0 0)(hr:HR AN R Q)(h:rX k0 R (g 0) (g 3) (g 10) (g 16) (g 18) w):dM pg yF (bI (aO 1 (bL 1 (aO 10 wE)))) Q g w:=by
 refine Fl (λg:Env=>g 18) (λX t w=>AK (λ_ _ _ _ DK w=>X DK w) k0 R (g 0) (g 3) (g 10) (g 16) t w) h (λX g1 w1 ha hL=> ?_)
 rw[<-fC 0 ha,<-fC 3 ha,<-fC 10 ha,<-fC 16 ha]at hL
 exact(El [(0,(Mq0 k0))] (YN (λ_ _ _ _ DK w=>X DK w) 0 3 10 16 18) hL dE hr ⟨h0,trivial⟩)
def GY(kn:K5) mI mM WY TW w:=
 kn mI mM WY TW (aL2 0) w
def AL(kn:K0)(R:K1) mI mM WY TW w:=
 GY (rX kn R) mI mM WY TW w
def rY(R:K1) mI mM WY TW w:=
 AL (rW R) R mI mM WY TW w
theorem Ny(kn:K0)(R:K1)(hn:N0 Q kn)(hr:HR AN R Q)(h:AL kn R (g 0) (g 3) (g 10) (g 16) w):dM pg yF (bL 1 (aO 10 wE)) Q g w:=
 dN 1 (iS (YN (rX kn R) 0 3 10 16 18) h (λg w h=>aJ (BK 0 (Nx _ g w kn R hn hr h))))
def GZ(kn:K4)(R:K1) mI dA aqU mM w:=
 aG pg EP #[] w λc9 w=>
 aA pg (G2 .not c9) w λd1 w=>
 cS d1
  (R (.bool false) w)
  (aA pg (eK .len #[22] 3 [mI]) w λd3 w=>
  aA pg (aE .gtr 3 aN aN d3 (aL2 200)) w λd4 w=>
  cS d4
   (R (.bool true) w)
   (aA pg (cP 5 3 dA) w λd8 w=>
   aA pg (aE .add 3 aN aN d8 (aL2 1)) w λd9 w=>
   aG pg Fz #[mI,d9] w λe0 w=>
   aA pg (aQ e0 0) w λe1 w=>
   aA pg (aQ e0 1) w λe2 w=>
   aA pg (bE 30) w λWY w=>
   aA pg (aF 30 WY e1) w λ_u w=>
   aA pg (cP 23 3 aqU) w λe5 w=>
   aG pg Ea #[e5] w λe6 w=>
   aA pg (aQ e6 0) w λe7 w=>
   aA pg (aQ e6 1) w λe8 w=>
   aA pg (cP 23 3 aqU) w λf1 w=>
   aG pg J3 #[f1] w λf2 w=>
   aA pg (aQ f2 0) w λf3 w=>
   aA pg (aQ f2 1) w λf4 w=>
   aA pg (bE 40) w λaIu w=>
   aA pg (aF 40 aIu f3) w λ_u w=>
   aA pg (aE .neq 31 (.tmp 45) (.const (aL2 0)) e2 (aL2 0)) w λf6 w=>
   Gd (bG f6 false) (λK=>K e8 w) w λf8 w=>
   Gd (bG f6 false) (λK=>aA pg (aE .neq 31 (.tmp 48) (.const (aL2 0)) f8 (aL2 0)) w K) w λf9 w=>
   aA pg (cH f6 (.bool true) f9) w λi0 w=>
   cS i0
    (R (.bool false) w)
    (aA pg (aB 40 aIu) w λi3 w=>
    aA pg (bV 49 [(0,e7),(2,i3)]) w λi4 w=>
    aA pg (aB 30 WY) w λi5 w=>
    aG pg dF #[i4,i5] w λi6 w=>
    aA pg (aQ i6 0) w λi7 w=>
    aA pg (aQ i6 1) w λi8 w=>
    aA pg (bE 49) w λTW w=>
    aA pg (aF 49 TW i7) w λ_u w=>
    aA pg (G2 .not i8) w λj0 w=>
    Gd (bG j0 false) (λK=>aA pg (aB 49 TW) w K) w λj2 w=>
    Gd (bG j0 false) (λK=>aG pg CC #[j2] w K) w λj3 w=>
    Gd (bG j0 false) (λK=>aA pg (G2 .not j3) w K) w λj4 w=>
    aA pg (cH j0 (.bool true) j4) w λj5 w=>
    cS j5
     (R (.bool false) w)
     (kn mI mM WY TW w))))
def G0 (R:K1) mI dA aqU mM w:=
 GZ (rY R) R mI dA aqU mM w
def Mi a0 a1 a2 a3 w(R:K1):=
 G0 R a0 a1 a2 a3 w
theorem PX{a0 a1 a2 a3 w R}(h:Mi a0 a1 a2 a3 w R):aG pg BF #[a0,a1,a2,a3] w R:=
 jX (ann:=yF) Tryz.f3 wE [a0,a1,a2,a3] AN 109 TryzM.mixed Tryz.func3 (dN 10 (Up (CN (rY R) 0 3 10 16) h (λg w h=>aJ (dN 1 (Ny _ g w (rW R) R (λg w h=>aJ (kL h dE)) dE h))) dE))
def acD:FA:=⟨EP,λi=> .leaf ([],[]) []⟩
def ajQ:List ResultVar:=[.tmp 0]
noncomputable def Y4:Code:=bA Tryz.f4
def Rh(R:K1) w:=
 aG pg Ea #[(aL2 1000)] w λc4 w=>
 aA pg (aQ c4 0) w λc5 w=>
 aA pg (aQ c4 1) w λc6 w=>
 aA pg (bB 22 5 [(0,(.int .u8 97)),(1,(.int .u8 98)),(2,(.int .u8 99)),(3,(.int .u8 100)),(4,(.int .u8 101))]) w λc8 w=>
 aA pg (cP 22 22 c8) w λc9 w=>
 aG pg Fz #[c9,(aL2 2)] w λd0 w=>
 aA pg (aQ d0 0) w λd1 w=>
 aA pg (aQ d0 1) w λd2 w=>
 aA pg (bE 30) w λWZ w=>
 aA pg (aF 30 WZ d1) w λ_u w=>
 aA pg (aB 30 WZ) w λd5 w=>
 aG pg tZ #[c5,(.string ⟨#[102]⟩),d5] w λd6 w=>
 aA pg (aQ d6 0) w λd7 w=>
 aA pg (aQ d6 1) w λd8 w=>
 aA pg (aE .neq 31 (.tmp 29) (.const (aL2 0)) c6 (aL2 0)) w λe0 w=>
 Gd (bG e0 false) (λK=>K d2 w) w λe2 w=>
 Gd (bG e0 false) (λK=>aA pg (aE .neq 31 (.tmp 32) (.const (aL2 0)) e2 (aL2 0)) w K) w λe3 w=>
 aA pg (cH e0 (.bool true) e3) w λe4 w=>
 Gd (bG e4 false) (λK=>K d8 w) w λe6 w=>
 Gd (bG e4 false) (λK=>aA pg (aE .neq 31 (.tmp 36) (.const (aL2 0)) e6 (aL2 0)) w K) w λe7 w=>
 aA pg (cH e4 (.bool true) e7) w λe8 w=>
 Gd (bG e8 false) (λK=>K d7 w) w λf0 w=>
 Gd (bG e8 false) (λK=>aA pg (aE .eql 43 (.tmp 40) (.const (.pointer none)) f0 (.pointer none)) w K) w λf1 w=>
 aA pg (cH e8 (.bool true) f1) w λf2 w=>
 cS f2
  (R (.bool false) w)
  (aA pg (bB 22 2 [(0,(.int .u8 99)),(1,(.int .u8 100))]) w λf4 w=>
  aA pg (cP 22 22 f4) w λf5 w=>
  aG pg eF #[d7,(aL2 1),f5] w λf6 w=>
  aA pg (bB 22 2 [(0,(.int .u8 120)),(1,(.int .u8 121))]) w λf8 w=>
  aA pg (cP 22 22 f8) w λf9 w=>
  aG pg eF #[d7,(aL2 0),f9] w λi0 w=>
  aG pg gK #[d7] w λi2 w=>
  aA pg (bB 22 2 [(0,(.int .u8 97)),(1,(.int .u8 98))]) w λi4 w=>
  aA pg (cP 22 22 i4) w λi5 w=>
  aG pg eF #[d7,(aL2 0),i5] w λi6 w=>
  aA pg (bB 22 1 [(0,(.int .u8 101))]) w λi8 w=>
  aA pg (cP 22 22 i8) w λi9 w=>
  aG pg eF #[d7,(aL2 2),i9] w λj0 w=>
  aG pg gK #[d7] w λj2 w=>
  aG pg gV #[c5,(.string ⟨#[102]⟩)] w λj5 w=>
  aA pg (aQ j5 0) w λj6 w=>
  aA pg (aQ j5 1) w λj7 w=>
  aG pg kI #[d7] w λj9 w=>
  aA pg (aE .eql 26 (.tmp 69) (.const (.int .u64 1)) j9 (.int .u64 1)) w λl0 w=>
  Gd (bG l0 true) (λK=>K f6 w) w λl2 w=>
  Gd (bG l0 true) (λK=>aA pg (aE .eql 31 (.tmp 72) (.const (aL2 0)) l2 (aL2 0)) w K) w λl3 w=>
  aA pg (cH l0 l3 (.bool false)) w λl4 w=>
  Gd (bG l4 true) (λK=>K i0 w) w λl6 w=>
  Gd (bG l4 true) (λK=>aA pg (aE .eql 31 (.tmp 76) (.const (aL2 13)) l6 (aL2 13)) w K) w λl7 w=>
  aA pg (cH l4 l7 (.bool false)) w λl8 w=>
  Gd (bG l8 true) (λK=>K i2 w) w λm0 w=>
  Gd (bG l8 true) (λK=>aA pg (aE .eql 31 (.tmp 80) (.const (aL2 30)) m0 (aL2 30)) w K) w λm1 w=>
  aA pg (cH l8 m1 (.bool false)) w λm2 w=>
  Gd (bG m2 true) (λK=>K j2 w) w λm4 w=>
  Gd (bG m2 true) (λK=>aA pg (aE .eql 31 (.tmp 84) (.const (aL2 0)) m4 (aL2 0)) w K) w λm5 w=>
  aA pg (cH m2 m5 (.bool false)) w λm6 w=>
  Gd (bG m6 true) (λK=>K j6 w) w λm8 w=>
  Gd (bG m6 true) (λK=>aA pg (cP 22 9 m8) w K) w λm9 w=>
  Gd (bG m6 true) (λK=>aA pg (aE .eql 9 (.tmp 89) (.const (.string ⟨#[97,98,99,100,101]⟩)) m9 (.string ⟨#[97,98,99,100,101]⟩)) w K) w λn0 w=>
  aA pg (cH m6 n0 (.bool false)) w λn1 w=>
  Gd (bG n1 true) (λK=>K j7 w) w λn3 w=>
  Gd (bG n1 true) (λK=>aA pg (aE .eql 31 (.tmp 93) (.const (aL2 0)) n3 (aL2 0)) w K) w λn4 w=>
  aA pg (cH n1 n4 (.bool false)) w λn5 w=>
  Gd (bG n5 true) (λK=>K d7 w) w λn7 w=>
  Gd (bG n5 true) (λK=>aG pg lF #[n7] w K) w λn8 w=>
  aA pg (cH n5 n8 (.bool false)) w λn9 w=>
  Gd (bG n9 true) (λK=>K d7 w) w λo1 w=>
  Gd (bG n9 true) (λK=>aG pg pD #[o1] w K) w λo2 w=>
  Gd (bG n9 true) (λK=>aA pg (eK .len #[45] 3 [o2]) w K) w λo3 w=>
  Gd (bG n9 true) (λK=>aA pg (aE .eql 3 (.tmp 103) (.const (aL2 3)) o3 (aL2 3)) w K) w λo4 w=>
  aA pg (cH n9 o4 (.bool false)) w λo5 w=>
  R o5 w)
def aaS w(R:K1):=
 Rh R w
theorem Zk{w R}(h:aaS w R):aG pg EP #[] w R:=
 jX (ann:=acD) Tryz.f4 Y4 [] ajQ 106 TryzM.mixed Tryz.func4 (kL h dE)
def KJ:FA:=⟨Fz,λi=>match Nat.beq i 11 with|true=> .leaf ([9,10,11,13],[(0,9),(0,10),(1,9),(1,10)]) (fz 9 (ft [7,8] (ft [8,9] (ft [] (fz 1 (ft [] []))))))|false=> .leaf ([],[]) []⟩
def OC:List ResultVar:=[.cell 4 30,.tmp 5]
noncomputable def H7:Code:=bA Tryz.f5
def NB(R:K1) b4 P7 w:=
 aA pg (aB 30 P7) w λj2 w=>
 aA pg (aF 30 b4 j2) w λ_u w=>
 lO pg 30 b4 w λr0=>R (.tuple #[r0,(aL2 0)]) w
def NC(kn:K6)(k0:K2)(R:K1) Ef dA b4 P7 e1 e2 w:=
 aA pg (aE .lss 3 aN aN e2 e1) w λe3 w=>
 cS e3
  (aA pg (aD 30 P7 0) w λe6 w=>
  aA pg (aB 26 e6) w λe7 w=>
  aG pg qK #[e7,dA,e2] w λf0 w=>
  aA pg (aQ f0 0) w λf1 w=>
  aA pg (aQ f0 1) w λf2 w=>
  aA pg (aQ f0 2) w λf3 w=>
  aA pg (aE .neq 31 (.tmp 44) (.const (aL2 0)) f3 (aL2 0)) w λf5 w=>
  cS f5
   (aA pg (bV 30 []) w λf6 w=>
   aA pg (aF 30 b4 f6) w λ_u w=>
   lO pg 30 b4 w λr0=>R (.tuple #[r0,f3]) w)
   (aA pg (aD 30 P7 2) (dr w) λf8 w_=>w_=(dr w)/\
   aA pg (aB 28 f8) (dr w) λf9 w_=>w_=(dr w)/\
   (dr w)=(dr w)/\
   (dr w)=(dr w)/\
   (dr w)=(dr w)/\
   (dr w)=(dr w)/\
   aA pg (cP 3 26 f2) (dr w) λi4 w_=>w_=(dr w)/\
   aA pg (aE .add 26 aN aN f1 i4) (dr w) λi5 w_=>w_=(dr w)/\
   aA pg (dH 22 Ef (some f1) (some i5) none) (dr w) λi6 w_=>w_=(dr w)/\
   aG pg AS #[i6] (dr w) λi7 aEy=>
   (aP pg (aB 28 f8) f9 aEy/\aP pg (aD 30 P7 2) f8 aEy/\True)/\
   aA pg (bB 28 1 [(0,i7)]) aEy λi8 azT=>
   (aP pg (aB 28 f8) f9 azT/\aP pg (aD 30 P7 2) f8 azT/\True)/\
   aA pg (eK .append #[28,28] 28 [f9,i8]) azT λi9 akX=>
   aA pg (aD 30 P7 2) akX λj0 w_=>w_=akX/\
   aA pg (aF 28 j0 i9) akX λ_u13 JI=>
   aA pg (aE .add 3 aN aN e2 (aL2 1)) JI λj1 w=>
   kn Ef dA b4 P7 e1 j1 w))
  (k0 b4 P7 w)
def Hk(k0:K2)(R:K1) Ef dA b4 P7 e1 e2 w:=
 bM (λ(X:aL1->K0) (t:aL1) (w:aL0)=>NC (λ_ _ _ _ _ e2 w=>X e2 w) k0 R Ef dA b4 P7 e1 t w) e2 w
theorem adD(k0:K2)(R:K1)(h0:E2 Q k0 0 4 8)(hr:HR OC R Q)(h:Hk k0 R (g 0) (g 1) (g 4) (g 8) (g 31) (g 32) w):dM pg KJ (bI (aO 1 (bL 1 (aO 4 H7)))) Q g w:=by
 refine Fl (λg:Env=>g 32) (λX t w=>NC (λ_ _ _ _ _ e2 w=>X e2 w) k0 R (g 0) (g 1) (g 4) (g 8) (g 31) t w) h (λX g1 w1 ha hL=> ?_)
 rw[<-fC 0 ha,<-fC 1 ha,<-fC 4 ha,<-fC 8 ha,<-fC 31 ha]at hL
 exact(El [(0,(Qv k0 4 8))] (Mq6 (λ_ _ _ _ _ e2 w=>X e2 w) 0 1 4 8 31 32) hL dE hr ⟨h0,trivial⟩)
def Xa(kn:K6) Ef dA b4 n_6 P7 w:=
 kn Ef dA b4 P7 n_6 (aL2 0) w
def ND(kn:K2)(R:K1) Ef dA b4 n_6 P7 w:=
 Xa (Hk kn R) Ef dA b4 n_6 P7 w
def NF(R:K1) Ef dA b4 n_6 P7 w:=
 ND (NB R) R Ef dA b4 n_6 P7 w
theorem adE(kn:K2)(R:K1)(hn:N2 Q kn 4 8)(hr:HR OC R Q)(h:ND kn R (g 0) (g 1) (g 4) (g 6) (g 8) w):dM pg KJ (bL 1 (aO 4 H7)) Q g w:=
 dN 1 (iS (Mq6 (Hk kn R) 0 1 4 8 31 32) h (λg w h=>aJ (BK 0 (adD _ g w kn R hn hr h))))
def Xb(kn:K5)(R:K1) Ef dA w:=
 aA pg (bE 30) w λb4 w=>
 aA pg (eK .len #[22] 3 [Ef]) w λc5 w=>
 aA pg (cP 3 26 c5) w λc6 w=>
 aG pg vV #[c6,dA] w λc8 w=>
 aA pg (aQ c8 0) w λc9 w=>
 aA pg (aQ c8 1) w λd0 w=>
 aA pg (aE .neq 31 (.tmp 21) (.const (aL2 0)) d0 (aL2 0)) w λd2 w=>
 cS d2
  (aA pg (bV 30 []) w λd3 w=>
  aA pg (aF 30 b4 d3) w λ_u w=>
  lO pg 30 b4 w λr0=>R (.tuple #[r0,d0]) w)
  (aA pg (eK .len #[22] 3 [Ef]) w λd6 w=>
  aA pg (cP 3 26 d6) w λd7 w=>
  aA pg (cP 3 27 dA) w λd9 w=>
  aA pg (bV 30 [(0,d7),(1,d9)]) w λe0 w=>
  aA pg (bE 30) w λP7 w=>
  aA pg (aF 30 P7 e0) w λ_u w=>
  kn Ef dA b4 c9 P7 w)
def Xc(R:K1) Ef dA w:=
 Xb (NF R) R Ef dA w
def anS a0 a1 w(R:K1):=
 Xc R a0 a1 w
theorem ahY{a0 a1 w R}(h:anS a0 a1 w R):aG pg Fz #[a0,a1] w R:=
 jX (ann:=KJ) Tryz.f5 H7 [a0,a1] OC 63 TryzM.mixed Tryz.func5 (dN 4 (Up (YN (NF R) 0 1 4 6 8) h (λg w h=>aJ (dN 1 (adE _ g w (NB R) R (λg w h=>aJ (kL h dE)) dE h))) dE))
def apH:FA:=⟨Ea,λi=> .leaf ([],[]) []⟩
def avJ:List ResultVar:=[.tmp 2,.tmp 3]
noncomputable def alN:Code:=bA Tryz.f6
def aaM(R:K1) VH w:=
 aA pg (aE .lss 3 aN aN VH (aL2 0)) w λb5 w=>
 Gd (bG b5 false) (λK=>K VH w) w λb7 w=>
 Gd (bG b5 false) (λK=>aA pg (aE .gtr 3 aN aN b7 (aL2 16777216)) w K) w λb8 w=>
 aA pg (cH b5 (.bool true) b8) w λb9 w=>
 cS b9
  (R (.tuple #[(.pointer none),(aL2 1)]) w)
  (aA pg (Z7 73 none) w λc1 w=>
  aA pg (Z7 73 none) w λc2 w=>
  aA pg (bV 76 [(0,VH),(1,c1),(2,c2),(4,(aL2 (-1)))]) w λc3 w=>
  aA pg (jK 76 c3) w λc4 w=>
  R (.tuple #[c4,(aL2 0)]) w)
def asY a0 w(R:K1):=
 aaM R a0 w
theorem alR{a0 w R}(h:asY a0 w R):aG pg Ea #[a0] w R:=
 jX (ann:=apH) Tryz.f6 alN [a0] avJ 15 TryzM.mixed Tryz.func6 (kL h dE)
def alH:FA:=⟨J3,λi=> .leaf ([],[]) []⟩
def aqY:List ResultVar:=[.cell 2 40,.tmp 3]
noncomputable def agW:Code:=bA Tryz.f7
def XR(R:K1) VH w:=
 aA pg (bE 40) w λb2 w=>
 aA pg (aE .lss 3 aN aN VH (aL2 0)) w λb5 w=>
 Gd (bG b5 false) (λK=>K VH w) w λb7 w=>
 Gd (bG b5 false) (λK=>aA pg (aE .gtr 3 aN aN b7 (aL2 16777216)) w K) w λb8 w=>
 aA pg (cH b5 (.bool true) b8) w λb9 w=>
 cS b9
  (aA pg (bV 40 []) w λc0 w=>
  aA pg (aF 40 b2 c0) w λ_u w=>
  lO pg 40 b2 w λr0=>R (.tuple #[r0,(aL2 1)]) w)
  (aA pg (bV 40 [(0,VH),(3,(aL2 (-1)))]) w λc2 w=>
  aA pg (aF 40 b2 c2) w λ_u w=>
  lO pg 40 b2 w λr0=>R (.tuple #[r0,(aL2 0)]) w)
def aoG a0 w(R:K1):=
 XR R a0 w
theorem aiU{a0 w R}(h:aoG a0 w R):aG pg J3 #[a0] w R:=
 jX (ann:=alH) Tryz.f7 agW [a0] aqY 13 TryzM.mixed Tryz.func7 (kL h dE)
def YV:FA:=⟨dF,λi=>match Nat.beq i 2 with|true=> .split 3 9 (.split 3 10 (.split 4 9 (.split 4 10 (.split 9 10 (.perm [0,1,2,3,4,5,6,7,8,9,10,11,12,13] [(9,10),(4,10),(4,9),(3,10),(3,9)] ([3,4,9,10,11,12],[(0,3),(1,3),(6,9),(6,10),(7,9),(7,10),(7,11),(8,9),(8,10),(8,11),(8,12)]) (fz 3 (ft [1,2] (ft [] (fz 4 (ft [0,1,2] (ft [1,2,3] (ft [2,3] (ft [3] (fz 1 [])))))))))) (.perm [0,1,2,3,4,5,6,7,8,10,9,11,12,13] [(10,9),(4,10),(4,9),(3,10),(3,9)] ([3,4,9,10,11,12],[(0,3),(1,3),(6,9),(6,10),(7,9),(7,10),(7,11),(8,9),(8,10),(8,11),(8,12)]) (fz 3 (ft [1,2] (ft [] (fz 4 (ft [0,1,2] (ft [1,2,3] (ft [2,3] (ft [3] (fz 1 []))))))))))) (.perm [0,1,2,3,10,4,5,6,7,8,9,11,12,13] [(10,4),(4,9),(3,10),(3,9)] ([3,4,5,10,11,12],[(0,3),(0,4),(1,3),(1,4),(7,10),(8,10),(8,11),(9,10),(9,11),(9,12)]) (fz 3 (ft [1,2] (ft [2,3] (ft [] (fz 4 (ft [0,1,2] (ft [1,2] (ft [2] (fz 1 []))))))))))) (.split 9 10 (.split 4 10 (.perm [0,1,2,3,9,4,5,6,7,8,10,11,12,13] [(4,10),(9,10),(9,4),(3,10),(3,9)] ([3,4,5,10,11,12],[(0,3),(0,4),(1,3),(1,4),(7,10),(8,10),(8,11),(9,10),(9,11),(9,12)]) (fz 3 (ft [1,2] (ft [2,3] (ft [] (fz 4 (ft [0,1,2] (ft [1,2] (ft [2] (fz 1 [])))))))))) (.perm [0,1,2,3,9,10,4,5,6,7,8,11,12,13] [(10,4),(9,10),(9,4),(3,10),(3,9)] ([3,4,5,6,11,12],[(0,3),(0,4),(0,5),(1,3),(1,4),(1,5),(9,11),(10,11),(10,12)]) (fz 3 (ft [1,2] (ft [2,3] (ft [3,4] (ft [] (fz 4 (ft [0,1] (ft [1] (fz 1 []))))))))))) (.perm [0,1,2,3,10,9,4,5,6,7,8,11,12,13] [(10,9),(9,4),(3,10),(3,9)] ([3,4,5,6,11,12],[(0,3),(0,4),(0,5),(1,3),(1,4),(1,5),(9,11),(10,11),(10,12)]) (fz 3 (ft [1,2] (ft [2,3] (ft [3,4] (ft [] (fz 4 (ft [0,1] (ft [1] (fz 1 [])))))))))))) (.split 4 9 (.perm [0,1,2,10,3,4,5,6,7,8,9,11,12,13] [(4,9),(10,3),(3,9)] ([3,4,5,10,11,12],[(0,3),(0,4),(1,3),(1,4),(2,3),(7,10),(8,10),(8,11),(9,10),(9,11),(9,12)]) (fz 3 (ft [0,1,2] (ft [2,3] (ft [] (fz 4 (ft [0,1,2] (ft [1,2] (ft [2] (fz 1 [])))))))))) (.perm [0,1,2,10,3,9,4,5,6,7,8,11,12,13] [(9,4),(10,3),(3,9)] ([3,4,5,6,11,12],[(0,3),(0,4),(0,5),(1,3),(1,4),(1,5),(2,3),(9,11),(10,11),(10,12)]) (fz 3 (ft [0,1,2] (ft [2,3] (ft [3,4] (ft [] (fz 4 (ft [0,1] (ft [1] (fz 1 [])))))))))))) (.split 9 10 (.split 3 10 (.split 4 10 (.perm [0,1,2,9,3,4,5,6,7,8,10,11,12,13] [(4,10),(3,10),(9,10),(9,3)] ([3,4,5,10,11,12],[(0,3),(0,4),(1,3),(1,4),(2,3),(7,10),(8,10),(8,11),(9,10),(9,11),(9,12)]) (fz 3 (ft [0,1,2] (ft [2,3] (ft [] (fz 4 (ft [0,1,2] (ft [1,2] (ft [2] (fz 1 [])))))))))) (.perm [0,1,2,9,3,10,4,5,6,7,8,11,12,13] [(10,4),(3,10),(9,10),(9,3)] ([3,4,5,6,11,12],[(0,3),(0,4),(0,5),(1,3),(1,4),(1,5),(2,3),(9,11),(10,11),(10,12)]) (fz 3 (ft [0,1,2] (ft [2,3] (ft [3,4] (ft [] (fz 4 (ft [0,1] (ft [1] (fz 1 []))))))))))) (.perm [0,1,2,9,10,3,4,5,6,7,8,11,12,13] [(10,3),(9,10),(9,3)] ([3,4,5,6,11,12],[(0,3),(0,4),(0,5),(1,3),(1,4),(1,5),(2,3),(2,4),(9,11),(10,11),(10,12)]) (fz 3 (ft [0,1,2] (ft [1,2,3] (ft [3,4] (ft [] (fz 4 (ft [0,1] (ft [1] (fz 1 []))))))))))) (.perm [0,1,2,10,9,3,4,5,6,7,8,11,12,13] [(10,9),(9,3)] ([3,4,5,6,11,12],[(0,3),(0,4),(0,5),(1,3),(1,4),(1,5),(2,3),(2,4),(9,11),(10,11),(10,12)]) (fz 3 (ft [0,1,2] (ft [1,2,3] (ft [3,4] (ft [] (fz 4 (ft [0,1] (ft [1] (fz 1 [])))))))))))|false=> .leaf ([],[]) []⟩
def aeS:List ResultVar:=[.cell 4 49,.tmp 5]
noncomputable def dR:Code:=bA Tryz.f8
def Bu(R:K1) Bv b4 w:=
 aA pg (aB 49 Bv) w λf6 w=>
 aA pg (aF 49 b4 f6) w λ_u w=>
 lO pg 49 b4 w λr0=>R (.tuple #[r0,(.bool true)]) w
def OZ(kn:K2)(R:K1) Bv b4 s_6 e_7 OO b9 aGP w:=
 aA pg (aB 40 OO) w λd7 w=>
 aA pg (aD 49 Bv 2) w λd8 w=>
 aA pg (aF 40 d8 d7) w λ_u w=>
 aA pg (aE .neq 31 (.tmp 29) (.tmp 30) e_7 aGP) w λe1 w=>
 Gd (bG e1 false) (λK=>K s_6 w) w λe3 w=>
 Gd (bG e1 false) (λK=>aA pg (aE .eql 43 (.tmp 33) (.const (.pointer none)) e3 (.pointer none)) w K) w λe4 w=>
 Gd (bG e1 false) (λK=>K e_7 w) w λe5 w=>
 Gd (bG e1 false) (λK=>aA pg (aE .neq 31 (.tmp 35) (.const (aL2 0)) e5 (aL2 0)) w K) w λe6 w=>
 Gd (bG e1 false) (λK=>aA pg (aE .neq 4 (.tmp 34) (.tmp 36) e4 e6) w K) w λe7 w=>
 aA pg (cH e1 (.bool true) e7) w λe8 w=>
 cS e8
  (aA pg (aB 49 Bv) w λe9 w=>
  aA pg (aF 49 b4 e9) w λ_u w=>
  lO pg 49 b4 w λr0=>R (.tuple #[r0,(.bool false)]) w)
  (aA pg (aE .eql 31 (.tmp 40) (.const (aL2 0)) e_7 (aL2 0)) w λf1 w=>
  cS f1
   (aA pg (aD 49 Bv 1) w λf3 w=>
   aA pg (aF 43 f3 s_6) w λ_u w=>
   aA pg (aB 47 b9) w λf4 w=>
   aA pg (aD 49 Bv 3) w λf5 w=>
   aA pg (aF 47 f5 f4) w λ_u w=>
   kn Bv b4 w)
   (kn Bv b4 w))
def vN(R:K1) Bv b4 s_6 e_7 OO b9 aGP w:=
 OZ (Bu R) R Bv b4 s_6 e_7 OO b9 aGP w
def O0 (kn:K7) p_0 m_1 w:=
 aA pg (jK 49 p_0) w λBv w=>
 aA pg (jK 30 m_1) w λWZ w=>
 aA pg (bE 49) w λb4 w=>
 aA pg (aD 49 Bv 0) w λc2 w=>
 aA pg (aB 34 c2) w λc3 w=>
 aA pg (aB 30 WZ) w λc4 w=>
 aG pg tZ #[c3,(.string ⟨#[102]⟩),c4] w λc5 w=>
 aA pg (aQ c5 0) w λc6 w=>
 aA pg (aQ c5 1) w λc7 w=>
 Ord (P9 dF 2 (xP 2 dR) 3 9 w)
  (Ord (P9 dF 2 (xP 2 dR) 3 10 w)
   (Ord (P9 dF 2 (xP 2 dR) 4 9 w)
    (Ord (P9 dF 2 (xP 2 dR) 4 10 w)
     (Ord (P9 dF 2 (xP 2 dR) 9 10 w)
      (aA pg (aD 49 Bv 2) (dr w) λc9 w_=>w_=(dr w)/\
      aA pg (aB 40 c9) (dr w) λd0 w_=>w_=(dr w)/\
      aA pg (aB 30 WZ) (dr w) λd1 w_=>w_=(dr w)/\
      aG pg dK #[d1] (dr w) λd2 mO=>
      (aP pg (aB 40 c9) d0 mO/\aP pg (aD 49 Bv 2) c9 mO/\True)/\
      aG pg fM #[d0,(.string ⟨#[102]⟩),d2] mO λd3 gR=>
      gR=gR/\
      aA pg (aQ d3 0) gR λd4 w_=>w_=gR/\
      aA pg (aQ d3 1) gR λd5 w_=>w_=gR/\
      aA pg (aQ d3 2) gR λd6 w_=>w_=gR/\
      aA pg (bE 40) gR λOO arM=>
      (aP pg (aQ d3 2) d6 arM/\aP pg (aQ d3 1) d5 arM/\aP pg (aQ d3 0) d4 arM/\True)/\
      aA pg (bE 47) arM λb9 cU=>
      (aP pg (aQ d3 2) d6 cU/\aP pg (aQ d3 1) d5 cU/\aP pg (aQ d3 0) d4 cU/\True)/\
      aA pg (aF 40 OO d4) cU λ_u11 gQ=>
      (aP pg (aQ d3 2) d6 gQ/\aP pg (aQ d3 1) d5 gQ/\True)/\
      aA pg (aF 47 b9 d5) gQ λ_u12 eJ=>
      (aP pg (aQ d3 2) d6 eJ/\True)/\
      eJ=eJ/\
      kn Bv b4 c6 c7 OO b9 d6 eJ)
      (aA pg (aD 49 Bv 2) (dr w) λc9 w_=>w_=(dr w)/\
      aA pg (aB 40 c9) (dr w) λd0 w_=>w_=(dr w)/\
      aA pg (aB 30 WZ) (dr w) λd1 w_=>w_=(dr w)/\
      aG pg dK #[d1] (dr w) λd2 mO=>
      (aP pg (aB 40 c9) d0 mO/\aP pg (aD 49 Bv 2) c9 mO/\True)/\
      aG pg fM #[d0,(.string ⟨#[102]⟩),d2] mO λd3 gR=>
      gR=gR/\
      aA pg (aQ d3 0) gR λd4 w_=>w_=gR/\
      aA pg (aQ d3 1) gR λd5 w_=>w_=gR/\
      aA pg (aQ d3 2) gR λd6 w_=>w_=gR/\
      aA pg (bE 47) gR λb9 arM=>
      (aP pg (aQ d3 2) d6 arM/\aP pg (aQ d3 1) d5 arM/\aP pg (aQ d3 0) d4 arM/\True)/\
      aA pg (bE 40) arM λOO cU=>
      (aP pg (aQ d3 2) d6 cU/\aP pg (aQ d3 1) d5 cU/\aP pg (aQ d3 0) d4 cU/\True)/\
      aA pg (aF 40 OO d4) cU λ_u11 gQ=>
      (aP pg (aQ d3 2) d6 gQ/\aP pg (aQ d3 1) d5 gQ/\True)/\
      aA pg (aF 47 b9 d5) gQ λ_u12 eJ=>
      (aP pg (aQ d3 2) d6 eJ/\True)/\
      eJ=eJ/\
      kn Bv b4 c6 c7 OO b9 d6 eJ))
     (aA pg (aD 49 Bv 2) (dr w) λc9 w_=>w_=(dr w)/\
     aA pg (aB 40 c9) (dr w) λd0 w_=>w_=(dr w)/\
     aA pg (aB 30 WZ) (dr w) λd1 w_=>w_=(dr w)/\
     aG pg dK #[d1] (dr w) λd2 mO=>
     (aP pg (aB 40 c9) d0 mO/\aP pg (aD 49 Bv 2) c9 mO/\True)/\
     aA pg (bE 47) mO λb9 gR=>
     (aP pg (aB 40 c9) d0 gR/\aP pg (aD 49 Bv 2) c9 gR/\True)/\
     aG pg fM #[d0,(.string ⟨#[102]⟩),d2] gR λd3 fR=>
     fR=fR/\
     aA pg (aQ d3 0) fR λd4 w_=>w_=fR/\
     aA pg (aQ d3 1) fR λd5 w_=>w_=fR/\
     aA pg (aQ d3 2) fR λd6 w_=>w_=fR/\
     aA pg (bE 40) fR λOO cU=>
     (aP pg (aQ d3 2) d6 cU/\aP pg (aQ d3 1) d5 cU/\aP pg (aQ d3 0) d4 cU/\True)/\
     aA pg (aF 40 OO d4) cU λ_u11 gQ=>
     (aP pg (aQ d3 2) d6 gQ/\aP pg (aQ d3 1) d5 gQ/\True)/\
     aA pg (aF 47 b9 d5) gQ λ_u12 eJ=>
     (aP pg (aQ d3 2) d6 eJ/\True)/\
     eJ=eJ/\
     kn Bv b4 c6 c7 OO b9 d6 eJ))
    (Ord (P9 dF 2 (xP 2 dR) 9 10 w)
     (Ord (P9 dF 2 (xP 2 dR) 4 10 w)
      (aA pg (aD 49 Bv 2) (dr w) λc9 w_=>w_=(dr w)/\
      aA pg (aB 40 c9) (dr w) λd0 w_=>w_=(dr w)/\
      aA pg (aB 30 WZ) (dr w) λd1 w_=>w_=(dr w)/\
      aG pg dK #[d1] (dr w) λd2 mO=>
      (aP pg (aB 40 c9) d0 mO/\aP pg (aD 49 Bv 2) c9 mO/\True)/\
      aA pg (bE 40) mO λOO gR=>
      (aP pg (aB 40 c9) d0 gR/\aP pg (aD 49 Bv 2) c9 gR/\True)/\
      aG pg fM #[d0,(.string ⟨#[102]⟩),d2] gR λd3 fR=>
      fR=fR/\
      aA pg (aQ d3 0) fR λd4 w_=>w_=fR/\
      aA pg (aQ d3 1) fR λd5 w_=>w_=fR/\
      aA pg (aQ d3 2) fR λd6 w_=>w_=fR/\
      aA pg (bE 47) fR λb9 cU=>
      (aP pg (aQ d3 2) d6 cU/\aP pg (aQ d3 1) d5 cU/\aP pg (aQ d3 0) d4 cU/\True)/\
      aA pg (aF 40 OO d4) cU λ_u11 gQ=>
      (aP pg (aQ d3 2) d6 gQ/\aP pg (aQ d3 1) d5 gQ/\True)/\
      aA pg (aF 47 b9 d5) gQ λ_u12 eJ=>
      (aP pg (aQ d3 2) d6 eJ/\True)/\
      eJ=eJ/\
      kn Bv b4 c6 c7 OO b9 d6 eJ)
      (aA pg (aD 49 Bv 2) (dr w) λc9 w_=>w_=(dr w)/\
      aA pg (aB 40 c9) (dr w) λd0 w_=>w_=(dr w)/\
      aA pg (aB 30 WZ) (dr w) λd1 w_=>w_=(dr w)/\
      aG pg dK #[d1] (dr w) λd2 mO=>
      (aP pg (aB 40 c9) d0 mO/\aP pg (aD 49 Bv 2) c9 mO/\True)/\
      aA pg (bE 40) mO λOO gR=>
      (aP pg (aB 40 c9) d0 gR/\aP pg (aD 49 Bv 2) c9 gR/\True)/\
      aA pg (bE 47) gR λb9 fR=>
      (aP pg (aB 40 c9) d0 fR/\aP pg (aD 49 Bv 2) c9 fR/\True)/\
      aG pg fM #[d0,(.string ⟨#[102]⟩),d2] fR λd3 kH=>
      kH=kH/\
      aA pg (aQ d3 0) kH λd4 w_=>w_=kH/\
      aA pg (aQ d3 1) kH λd5 w_=>w_=kH/\
      aA pg (aQ d3 2) kH λd6 w_=>w_=kH/\
      aA pg (aF 40 OO d4) kH λ_u11 gQ=>
      (aP pg (aQ d3 2) d6 gQ/\aP pg (aQ d3 1) d5 gQ/\True)/\
      aA pg (aF 47 b9 d5) gQ λ_u12 eJ=>
      (aP pg (aQ d3 2) d6 eJ/\True)/\
      eJ=eJ/\
      kn Bv b4 c6 c7 OO b9 d6 eJ))
     (aA pg (aD 49 Bv 2) (dr w) λc9 w_=>w_=(dr w)/\
     aA pg (aB 40 c9) (dr w) λd0 w_=>w_=(dr w)/\
     aA pg (aB 30 WZ) (dr w) λd1 w_=>w_=(dr w)/\
     aG pg dK #[d1] (dr w) λd2 mO=>
     (aP pg (aB 40 c9) d0 mO/\aP pg (aD 49 Bv 2) c9 mO/\True)/\
     aA pg (bE 47) mO λb9 gR=>
     (aP pg (aB 40 c9) d0 gR/\aP pg (aD 49 Bv 2) c9 gR/\True)/\
     aA pg (bE 40) gR λOO fR=>
     (aP pg (aB 40 c9) d0 fR/\aP pg (aD 49 Bv 2) c9 fR/\True)/\
     aG pg fM #[d0,(.string ⟨#[102]⟩),d2] fR λd3 kH=>
     kH=kH/\
     aA pg (aQ d3 0) kH λd4 w_=>w_=kH/\
     aA pg (aQ d3 1) kH λd5 w_=>w_=kH/\
     aA pg (aQ d3 2) kH λd6 w_=>w_=kH/\
     aA pg (aF 40 OO d4) kH λ_u11 gQ=>
     (aP pg (aQ d3 2) d6 gQ/\aP pg (aQ d3 1) d5 gQ/\True)/\
     aA pg (aF 47 b9 d5) gQ λ_u12 eJ=>
     (aP pg (aQ d3 2) d6 eJ/\True)/\
     eJ=eJ/\
     kn Bv b4 c6 c7 OO b9 d6 eJ)))
   (Ord (P9 dF 2 (xP 2 dR) 4 9 w)
    (aA pg (aD 49 Bv 2) (dr w) λc9 w_=>w_=(dr w)/\
    aA pg (aB 40 c9) (dr w) λd0 w_=>w_=(dr w)/\
    aA pg (aB 30 WZ) (dr w) λd1 w_=>w_=(dr w)/\
    aA pg (bE 47) (dr w) λb9 mO=>
    (aP pg (aB 30 WZ) d1 mO/\aP pg (aB 40 c9) d0 mO/\aP pg (aD 49 Bv 2) c9 mO/\True)/\
    aG pg dK #[d1] mO λd2 gR=>
    (aP pg (aB 40 c9) d0 gR/\aP pg (aD 49 Bv 2) c9 gR/\True)/\
    aG pg fM #[d0,(.string ⟨#[102]⟩),d2] gR λd3 fR=>
    fR=fR/\
    aA pg (aQ d3 0) fR λd4 w_=>w_=fR/\
    aA pg (aQ d3 1) fR λd5 w_=>w_=fR/\
    aA pg (aQ d3 2) fR λd6 w_=>w_=fR/\
    aA pg (bE 40) fR λOO cU=>
    (aP pg (aQ d3 2) d6 cU/\aP pg (aQ d3 1) d5 cU/\aP pg (aQ d3 0) d4 cU/\True)/\
    aA pg (aF 40 OO d4) cU λ_u11 gQ=>
    (aP pg (aQ d3 2) d6 gQ/\aP pg (aQ d3 1) d5 gQ/\True)/\
    aA pg (aF 47 b9 d5) gQ λ_u12 eJ=>
    (aP pg (aQ d3 2) d6 eJ/\True)/\
    eJ=eJ/\
    kn Bv b4 c6 c7 OO b9 d6 eJ)
    (aA pg (aD 49 Bv 2) (dr w) λc9 w_=>w_=(dr w)/\
    aA pg (aB 40 c9) (dr w) λd0 w_=>w_=(dr w)/\
    aA pg (aB 30 WZ) (dr w) λd1 w_=>w_=(dr w)/\
    aA pg (bE 47) (dr w) λb9 mO=>
    (aP pg (aB 30 WZ) d1 mO/\aP pg (aB 40 c9) d0 mO/\aP pg (aD 49 Bv 2) c9 mO/\True)/\
    aG pg dK #[d1] mO λd2 gR=>
    (aP pg (aB 40 c9) d0 gR/\aP pg (aD 49 Bv 2) c9 gR/\True)/\
    aA pg (bE 40) gR λOO fR=>
    (aP pg (aB 40 c9) d0 fR/\aP pg (aD 49 Bv 2) c9 fR/\True)/\
    aG pg fM #[d0,(.string ⟨#[102]⟩),d2] fR λd3 kH=>
    kH=kH/\
    aA pg (aQ d3 0) kH λd4 w_=>w_=kH/\
    aA pg (aQ d3 1) kH λd5 w_=>w_=kH/\
    aA pg (aQ d3 2) kH λd6 w_=>w_=kH/\
    aA pg (aF 40 OO d4) kH λ_u11 gQ=>
    (aP pg (aQ d3 2) d6 gQ/\aP pg (aQ d3 1) d5 gQ/\True)/\
    aA pg (aF 47 b9 d5) gQ λ_u12 eJ=>
    (aP pg (aQ d3 2) d6 eJ/\True)/\
    eJ=eJ/\
    kn Bv b4 c6 c7 OO b9 d6 eJ)))
  (Ord (P9 dF 2 (xP 2 dR) 9 10 w)
   (Ord (P9 dF 2 (xP 2 dR) 3 10 w)
    (Ord (P9 dF 2 (xP 2 dR) 4 10 w)
     (aA pg (aD 49 Bv 2) (dr w) λc9 w_=>w_=(dr w)/\
     aA pg (aB 40 c9) (dr w) λd0 w_=>w_=(dr w)/\
     aA pg (aB 30 WZ) (dr w) λd1 w_=>w_=(dr w)/\
     aA pg (bE 40) (dr w) λOO mO=>
     (aP pg (aB 30 WZ) d1 mO/\aP pg (aB 40 c9) d0 mO/\aP pg (aD 49 Bv 2) c9 mO/\True)/\
     aG pg dK #[d1] mO λd2 gR=>
     (aP pg (aB 40 c9) d0 gR/\aP pg (aD 49 Bv 2) c9 gR/\True)/\
     aG pg fM #[d0,(.string ⟨#[102]⟩),d2] gR λd3 fR=>
     fR=fR/\
     aA pg (aQ d3 0) fR λd4 w_=>w_=fR/\
     aA pg (aQ d3 1) fR λd5 w_=>w_=fR/\
     aA pg (aQ d3 2) fR λd6 w_=>w_=fR/\
     aA pg (bE 47) fR λb9 cU=>
     (aP pg (aQ d3 2) d6 cU/\aP pg (aQ d3 1) d5 cU/\aP pg (aQ d3 0) d4 cU/\True)/\
     aA pg (aF 40 OO d4) cU λ_u11 gQ=>
     (aP pg (aQ d3 2) d6 gQ/\aP pg (aQ d3 1) d5 gQ/\True)/\
     aA pg (aF 47 b9 d5) gQ λ_u12 eJ=>
     (aP pg (aQ d3 2) d6 eJ/\True)/\
     eJ=eJ/\
     kn Bv b4 c6 c7 OO b9 d6 eJ)
     (aA pg (aD 49 Bv 2) (dr w) λc9 w_=>w_=(dr w)/\
     aA pg (aB 40 c9) (dr w) λd0 w_=>w_=(dr w)/\
     aA pg (aB 30 WZ) (dr w) λd1 w_=>w_=(dr w)/\
     aA pg (bE 40) (dr w) λOO mO=>
     (aP pg (aB 30 WZ) d1 mO/\aP pg (aB 40 c9) d0 mO/\aP pg (aD 49 Bv 2) c9 mO/\True)/\
     aG pg dK #[d1] mO λd2 gR=>
     (aP pg (aB 40 c9) d0 gR/\aP pg (aD 49 Bv 2) c9 gR/\True)/\
     aA pg (bE 47) gR λb9 fR=>
     (aP pg (aB 40 c9) d0 fR/\aP pg (aD 49 Bv 2) c9 fR/\True)/\
     aG pg fM #[d0,(.string ⟨#[102]⟩),d2] fR λd3 kH=>
     kH=kH/\
     aA pg (aQ d3 0) kH λd4 w_=>w_=kH/\
     aA pg (aQ d3 1) kH λd5 w_=>w_=kH/\
     aA pg (aQ d3 2) kH λd6 w_=>w_=kH/\
     aA pg (aF 40 OO d4) kH λ_u11 gQ=>
     (aP pg (aQ d3 2) d6 gQ/\aP pg (aQ d3 1) d5 gQ/\True)/\
     aA pg (aF 47 b9 d5) gQ λ_u12 eJ=>
     (aP pg (aQ d3 2) d6 eJ/\True)/\
     eJ=eJ/\
     kn Bv b4 c6 c7 OO b9 d6 eJ))
    (aA pg (aD 49 Bv 2) (dr w) λc9 w_=>w_=(dr w)/\
    aA pg (aB 40 c9) (dr w) λd0 w_=>w_=(dr w)/\
    aA pg (aB 30 WZ) (dr w) λd1 w_=>w_=(dr w)/\
    aA pg (bE 40) (dr w) λOO mO=>
    (aP pg (aB 30 WZ) d1 mO/\aP pg (aB 40 c9) d0 mO/\aP pg (aD 49 Bv 2) c9 mO/\True)/\
    aA pg (bE 47) mO λb9 gR=>
    (aP pg (aB 30 WZ) d1 gR/\aP pg (aB 40 c9) d0 gR/\aP pg (aD 49 Bv 2) c9 gR/\True)/\
    aG pg dK #[d1] gR λd2 fR=>
    (aP pg (aB 40 c9) d0 fR/\aP pg (aD 49 Bv 2) c9 fR/\True)/\
    aG pg fM #[d0,(.string ⟨#[102]⟩),d2] fR λd3 kH=>
    kH=kH/\
    aA pg (aQ d3 0) kH λd4 w_=>w_=kH/\
    aA pg (aQ d3 1) kH λd5 w_=>w_=kH/\
    aA pg (aQ d3 2) kH λd6 w_=>w_=kH/\
    aA pg (aF 40 OO d4) kH λ_u11 gQ=>
    (aP pg (aQ d3 2) d6 gQ/\aP pg (aQ d3 1) d5 gQ/\True)/\
    aA pg (aF 47 b9 d5) gQ λ_u12 eJ=>
    (aP pg (aQ d3 2) d6 eJ/\True)/\
    eJ=eJ/\
    kn Bv b4 c6 c7 OO b9 d6 eJ))
   (aA pg (aD 49 Bv 2) (dr w) λc9 w_=>w_=(dr w)/\
   aA pg (aB 40 c9) (dr w) λd0 w_=>w_=(dr w)/\
   aA pg (aB 30 WZ) (dr w) λd1 w_=>w_=(dr w)/\
   aA pg (bE 47) (dr w) λb9 mO=>
   (aP pg (aB 30 WZ) d1 mO/\aP pg (aB 40 c9) d0 mO/\aP pg (aD 49 Bv 2) c9 mO/\True)/\
   aA pg (bE 40) mO λOO gR=>
   (aP pg (aB 30 WZ) d1 gR/\aP pg (aB 40 c9) d0 gR/\aP pg (aD 49 Bv 2) c9 gR/\True)/\
   aG pg dK #[d1] gR λd2 fR=>
   (aP pg (aB 40 c9) d0 fR/\aP pg (aD 49 Bv 2) c9 fR/\True)/\
   aG pg fM #[d0,(.string ⟨#[102]⟩),d2] fR λd3 kH=>
   kH=kH/\
   aA pg (aQ d3 0) kH λd4 w_=>w_=kH/\
   aA pg (aQ d3 1) kH λd5 w_=>w_=kH/\
   aA pg (aQ d3 2) kH λd6 w_=>w_=kH/\
   aA pg (aF 40 OO d4) kH λ_u11 gQ=>
   (aP pg (aQ d3 2) d6 gQ/\aP pg (aQ d3 1) d5 gQ/\True)/\
   aA pg (aF 47 b9 d5) gQ λ_u12 eJ=>
   (aP pg (aQ d3 2) d6 eJ/\True)/\
   eJ=eJ/\
   kn Bv b4 c6 c7 OO b9 d6 eJ))
def O1 (R:K1) p_0 m_1 w:=
 O0 (vN R) p_0 m_1 w
def WJ a0 a1 w(R:K1):=
 O1 R a0 a1 w
theorem WK{a0 a1 w R}(h:WJ a0 a1 w R):aG pg dF #[a0,a1] w R:=
 jX (ann:=YV) Tryz.f8 dR [a0,a1] aeS 47 TryzM.mixed Tryz.func8 (dN 3 (iS (Mq7 (vN R) 2 4 6 7 8 9 10) h (λg w h=>aJ (dN 3 (Up (Qv (Bu R) 2 4) h (λg w h=>aJ (kL h dE)) dE)))))
def yG:FA:=⟨CC,λi=>match Nat.beq i 3 with|true=> .leaf ([8],[(8,9),(8,10),(8,11),(8,12)]) (fz 8 (ft [] (fu [0] (fu [1] (fu [2] (fu [3] (fz 2 [])))))))|false=>match Nat.beq i 8 with|true=> .leaf ([6],[]) (fz 6 (ft [] (fz 5 [])))|false=>match Nat.beq i 9 with|true=> .leaf ([],[]) (fz 24 [])|false=>match Nat.beq i 14 with|true=> .leaf ([10,19,28],[(10,11),(10,12),(10,13),(19,20),(19,21),(19,22),(28,29),(28,30),(28,31)]) (fz 10 (ft [] (fu [0] (fu [1] (fu [2] (fz 5 (ft [] (fu [0] (fu [1] (fu [2] (fz 5 (ft [] (fu [0] (fu [1] (fu [2] (fz 2 []))))))))))))))))|false=>match Nat.beq i 19 with|true=> .leaf ([],[]) (fz 11 [])|false=> .leaf ([],[]) []⟩
def Bc:List ResultVar:=[.tmp 2]
noncomputable def vK:Code:=bA Tryz.f9
def KU(R:K1) w:=
 R (.bool true) w
def KV(kn:K3)(k2:K0)(R:K1) JP h_8 i_9 w:=
 aA pg (eK .len #[45] 3 [h_8]) w λp9 w=>
 aA pg (aE .lss 3 aN aN i_9 p9) w λq0 w=>
 cS q0
  ((dr w)=(dr w)/\
  (dr w)=(dr w)/\
  aA pg (aR 45 h_8 i_9) (dr w) λq5 w_=>w_=(dr w)/\
  aA pg (aB 4 q5) (dr w) λq6 w_=>w_=(dr w)/\
  aA pg (aD 49 JP 3) (dr w) λq7 w_=>w_=(dr w)/\
  aA pg (aD 47 q7 3) (dr w) λq8 w_=>w_=(dr w)/\
  aA pg (aB 45 q8) (dr w) λq9 w_=>w_=(dr w)/\
  (dr w)=(dr w)/\
  aA pg (aR 45 q9 i_9) (dr w) λs1 w_=>w_=(dr w)/\
  aA pg (aB 4 s1) (dr w) λs2 w_=>w_=(dr w)/\
  aA pg (aE .neq 4 (.tmp 126) (.tmp 132) q6 s2) (dr w) λs3 w_=>w_=(dr w)/\
  cS s3
   (R (.bool false) (dr w))
   (aA pg (aE .add 3 aN aN i_9 (aL2 1)) (dr w) λq2 w=>
   kn JP h_8 q2 w))
  (k2 w)
def Fc(k2:K0)(R:K1) JP h_8 i_9 w:=
 bM (λ(X:aL1->K0) (t:aL1) (w:aL0)=>KV (λ_ _ i_9 w=>X i_9 w) k2 R JP h_8 t w) i_9 w
theorem Zl(k2:K0)(R:K1)(h2:E0 Q k2 2)(hr:HR Bc R Q)(h:Fc k2 R (g 1) (g 8) (g 9) w):dM pg yG (bI (aO 1 (bL 1 (aO 3 (aO 1 (aO 4 vK)))))) Q g w:=by
 refine Fl (λg:Env=>g 9) (λX t w=>KV (λ_ _ i_9 w=>X i_9 w) k2 R (g 1) (g 8) t w) h (λX g1 w1 ha hL=> ?_)
 rw[<-fC 1 ha,<-fC 8 ha]at hL
 exact(El [(2,(Mq0 k2))] (GO (λ_ _ i_9 w=>X i_9 w) 1 8 9) hL dE hr ⟨h2,trivial⟩)
def Us(kn:K3) JP h_8 w:=
 kn JP h_8 (aL2 0) w
def KW(kn:K0)(R:K1) JP h_8 w:=
 Us (Fc kn R) JP h_8 w
def KX(R:K1) JP h_8 w:=
 KW (KU R) R JP h_8 w
theorem Zm(kn:K0)(R:K1)(hn:N0 Q kn)(hr:HR Bc R Q)(h:KW kn R (g 1) (g 8) w):dM pg yG (bL 1 (aO 3 (aO 1 (aO 4 vK)))) Q g w:=
 dN 1 (iS (GO (Fc kn R) 1 8 9) h (λg w h=>aJ (BK 2 (Zl _ g w kn R hn hr h))))
def Ut(kn:K2)(R:K1) JP w:=
 aA pg (aD 49 JP 1) w λl7 w=>
 aA pg (aB 43 l7) w λl8 w=>
 aA pg (aE .eql 43 (.tmp 78) (.const (.pointer none)) l8 (.pointer none)) w λl9 w=>
 cS l9
  (R (.bool true) w)
  (aA pg (aD 49 JP 1) w λm0 w=>
  aA pg (aB 43 m0) w λm1 w=>
  aG pg pD #[m1] w λm2 w=>
  (dr w)=(dr w)/\
  aA pg (eK .len #[45] 3 [m2]) (dr w) λm4 w_=>w_=(dr w)/\
  aA pg (aD 49 JP 3) (dr w) λm5 w_=>w_=(dr w)/\
  aA pg (aD 47 m5 3) (dr w) λm6 w_=>w_=(dr w)/\
  aA pg (aB 45 m6) (dr w) λm7 w_=>w_=(dr w)/\
  aA pg (eK .len #[45] 3 [m7]) (dr w) λm8 w_=>w_=(dr w)/\
  aA pg (aE .neq 3 (.tmp 84) (.tmp 88) m4 m8) (dr w) λm9 w_=>w_=(dr w)/\
  (dr w)=(dr w)/\
  Gd (bG m9 false) (λK=>aA pg (aD 49 JP 1) (dr w) K) (dr w) λn1 w_=>w_=(dr w)/\
  Gd (bG m9 false) (λK=>aA pg (aB 43 n1) (dr w) K) (dr w) λn2 w_=>w_=(dr w)/\
  Gd (bG m9 false) (λK=>aG pg kI #[n2] (dr w) K) (dr w) λn3 lM=>
  Gd (bG m9 false) (λK=>aA pg (aD 49 JP 3) lM K) lM λn4 w_=>w_=lM/\
  (Gs (bG m9 false) (aP pg (aD 49 JP 3) n4 (dr w))/\True)/\
  Gd (bG m9 false) (λK=>aA pg (aD 47 n4 2) lM K) lM λn5 w_=>w_=lM/\
  (Gs (bG m9 false) (aP pg (aD 47 n4 2) n5 (dr w))/\True)/\
  Gd (bG m9 false) (λK=>aA pg (aB 26 n5) lM K) lM λn6 w_=>w_=lM/\
  (Gs (bG m9 false) (aP pg (aB 26 n5) n6 (dr w))/\True)/\
  Gd (bG m9 false) (λK=>aA pg (aE .neq 26 (.tmp 93) (.tmp 96) n3 n6) lM K) lM λn7 w_=>w_=lM/\
  aA pg (cH m9 (.bool true) n7) lM λn8 w_=>w_=lM/\
  lM=lM/\
  Gd (bG n8 false) (λK=>aA pg (aD 49 JP 1) lM K) lM λo0 w_=>w_=lM/\
  Gd (bG n8 false) (λK=>aA pg (aB 43 o0) lM K) lM λo1 w_=>w_=lM/\
  Gd (bG n8 false) (λK=>aG pg lF #[o1] lM K) lM λo2 lN=>
  Gd (bG n8 false) (λK=>aA pg (aD 49 JP 3) lN K) lN λo3 w_=>w_=lN/\
  (Gs (bG n8 false) (aP pg (aD 49 JP 3) o3 lM)/\True)/\
  Gd (bG n8 false) (λK=>aA pg (aD 47 o3 5) lN K) lN λo4 w_=>w_=lN/\
  (Gs (bG n8 false) (aP pg (aD 47 o3 5) o4 lM)/\True)/\
  Gd (bG n8 false) (λK=>aA pg (aB 4 o4) lN K) lN λo5 w_=>w_=lN/\
  (Gs (bG n8 false) (aP pg (aB 4 o4) o5 lM)/\True)/\
  Gd (bG n8 false) (λK=>aA pg (aE .neq 4 (.tmp 102) (.tmp 105) o2 o5) lN K) lN λo6 w_=>w_=lN/\
  aA pg (cH n8 (.bool true) o6) lN λo7 w_=>w_=lN/\
  lN=lN/\
  Gd (bG o7 false) (λK=>aA pg (aD 49 JP 1) lN K) lN λo9 w_=>w_=lN/\
  Gd (bG o7 false) (λK=>aA pg (aB 43 o9) lN K) lN λp0 w_=>w_=lN/\
  Gd (bG o7 false) (λK=>aG pg gE #[p0] lN K) lN λp1 AQ=>
  Gd (bG o7 false) (λK=>aA pg (aD 49 JP 3) AQ K) AQ λp2 w_=>w_=AQ/\
  (Gs (bG o7 false) (aP pg (aD 49 JP 3) p2 lN)/\True)/\
  Gd (bG o7 false) (λK=>aA pg (aD 47 p2 6) AQ K) AQ λp3 w_=>w_=AQ/\
  (Gs (bG o7 false) (aP pg (aD 47 p2 6) p3 lN)/\True)/\
  Gd (bG o7 false) (λK=>aA pg (aB 31 p3) AQ K) AQ λp4 w_=>w_=AQ/\
  (Gs (bG o7 false) (aP pg (aB 31 p3) p4 lN)/\True)/\
  Gd (bG o7 false) (λK=>aA pg (aE .neq 31 (.tmp 111) (.tmp 114) p1 p4) AQ K) AQ λp5 w_=>w_=AQ/\
  aA pg (cH o7 (.bool true) p5) AQ λp6 w_=>w_=AQ/\
  cS p6
   (R (.bool false) AQ)
   (kn JP m2 AQ))
def Fe(R:K1) JP w:=
 Ut (KX R) R JP w
def Is(kn:K4)(k0:K1)(R:K1) JP P8 l_4 xL w:=
 aA pg (eK .len #[80] 3 [P8]) w λe3 w=>
 aA pg (aE .lss 3 aN aN xL e3) w λe4 w=>
 Gd (bG e4 true) (λK=>aA pg (aD 49 JP 2) w K) w λe6 w=>
 Gd (bG e4 true) (λK=>aA pg (aD 40 e6 4) w K) w λe7 w=>
 Gd (bG e4 true) (λK=>aA pg (aB 4 e7) w K) w λe8 w=>
 Gd (bG e4 true) (λK=>aA pg (G2 .not e8) w K) w λe9 w=>
 aA pg (cH e4 e9 (.bool false)) w λf0 w=>
 cS f0
  (aA pg (aD 49 JP 0) (dr w) λf4 w_=>w_=(dr w)/\
  aA pg (aB 34 f4) (dr w) λf5 w_=>w_=(dr w)/\
  (dr w)=(dr w)/\
  (dr w)=(dr w)/\
  aA pg (aR 80 P8 xL) (dr w) λf8 w_=>w_=(dr w)/\
  aA pg (aB 9 f8) (dr w) λf9 w_=>w_=(dr w)/\
  aG pg gV #[f5,f9] (dr w) λi0 gS=>
  gS=gS/\
  aA pg (aQ i0 0) gS λi1 w_=>w_=gS/\
  aA pg (aQ i0 1) gS λi2 w_=>w_=gS/\
  gS=gS/\
  gS=gS/\
  (dr gS)=(dr gS)/\
  (dr gS)=(dr gS)/\
  aA pg (aR 80 P8 xL) (dr gS) λi5 w_=>w_=(dr gS)/\
  aA pg (aB 9 i5) (dr gS) λi6 w_=>w_=(dr gS)/\
  (dr gS)=(dr gS)/\
  (dr gS)=(dr gS)/\
  aA pg (aR 37 l_4 xL) (dr gS) λi9 w_=>w_=(dr gS)/\
  aA pg (aD 85 i9 0) (dr gS) λj0 w_=>w_=(dr gS)/\
  aA pg (aB 9 j0) (dr gS) λj1 w_=>w_=(dr gS)/\
  aA pg (aE .neq 9 (.tmp 56) (.tmp 61) i6 j1) (dr gS) λj2 w_=>w_=(dr gS)/\
  (dr gS)=(dr gS)/\
  Gd (bG j2 false) (λK=>K i2 (dr gS)) (dr gS) λj4 w_=>w_=(dr gS)/\
  Gd (bG j2 false) (λK=>aA pg (aE .neq 31 (.tmp 64) (.const (aL2 0)) j4 (aL2 0)) (dr gS) K) (dr gS) λj5 w_=>w_=(dr gS)/\
  aA pg (cH j2 (.bool true) j5) (dr gS) λj6 w_=>w_=(dr gS)/\
  (dr gS)=(dr gS)/\
  Gd (bG j6 false) (λK=>K i1 (dr gS)) (dr gS) λj8 w_=>w_=(dr gS)/\
  Gd (bG j6 false) (λK=>aA pg (cP 22 9 j8) (dr gS) K) (dr gS) λj9 w_=>w_=(dr gS)/\
  Gd (bG j6 false) (λK=>K l_4 (dr gS)) (dr gS) λl0 w_=>w_=(dr gS)/\
  Gd (bG j6 false) (λK=>K xL (dr gS)) (dr gS) λl1 w_=>w_=(dr gS)/\
  Gd (bG j6 false) (λK=>aA pg (aR 37 l0 l1) (dr gS) K) (dr gS) λl2 w_=>w_=(dr gS)/\
  Gd (bG j6 false) (λK=>aA pg (aD 85 l2 1) (dr gS) K) (dr gS) λl3 w_=>w_=(dr gS)/\
  Gd (bG j6 false) (λK=>aA pg (aB 9 l3) (dr gS) K) (dr gS) λl4 w_=>w_=(dr gS)/\
  Gd (bG j6 false) (λK=>aA pg (aE .neq 9 (.tmp 69) (.tmp 74) j9 l4) (dr gS) K) (dr gS) λl5 w_=>w_=(dr gS)/\
  aA pg (cH j6 (.bool true) l5) (dr gS) λl6 w_=>w_=(dr gS)/\
  cS l6
   (R (.bool false) (dr gS))
   (aA pg (aE .add 3 aN aN xL (aL2 1)) (dr gS) λf2 w=>
   kn JP P8 l_4 f2 w))
  (k0 JP w)
def C0 (k0:K1)(R:K1) JP P8 l_4 xL w:=
 bM (λ(X:aL1->K0) (t:aL1) (w:aL0)=>Is (λ_ _ _ xL w=>X xL w) k0 R JP P8 l_4 t w) xL w
theorem WH(k0:K1)(R:K1)(h0:E1 Q k0 0 1)(hr:HR Bc R Q)(h:C0 k0 R (g 1) (g 3) (g 4) (g 5) w):dM pg yG (bI (aO 1 (bL 1 (aO 4 vK)))) Q g w:=by
 refine Fl (λg:Env=>g 5) (λX t w=>Is (λ_ _ _ xL w=>X xL w) k0 R (g 1) (g 3) (g 4) t w) h (λX g1 w1 ha hL=> ?_)
 rw[<-fC 1 ha,<-fC 3 ha,<-fC 4 ha]at hL
 exact(El [(0,(Mq1 k0 1))] (CN (λ_ _ _ xL w=>X xL w) 1 3 4 5) hL dE hr ⟨h0,trivial⟩)
def Ri(kn:K4) JP P8 l_4 w:=
 kn JP P8 l_4 (aL2 0) w
def It(kn:K1)(R:K1) JP P8 l_4 w:=
 Ri (C0 kn R) JP P8 l_4 w
def Iu(R:K1) JP P8 l_4 w:=
 It (Fe R) R JP P8 l_4 w
theorem WI(kn:K1)(R:K1)(hn:N1 Q kn 1)(hr:HR Bc R Q)(h:It kn R (g 1) (g 3) (g 4) w):dM pg yG (bL 1 (aO 4 vK)) Q g w:=
 dN 1 (iS (CN (C0 kn R) 1 3 4 5) h (λg w h=>aJ (BK 0 (WH _ g w kn R hn hr h))))
def Rj(kn:K3)(R:K1) p_0 w:=
 aA pg (jK 49 p_0) w λJP w=>
 aA pg (aD 49 JP 0) w λc0 w=>
 aA pg (aB 34 c0) w λc1 w=>
 aG pg wV #[c1] w λc2 w=>
 aA pg (aD 49 JP 2) w λc3 w=>
 aA pg (aB 40 c3) w λc4 w=>
 aG pg tW #[c4] w λc5 w=>
 (dr w)=(dr w)/\
 aA pg (eK .len #[80] 3 [c2]) (dr w) λc7 w_=>w_=(dr w)/\
 (dr w)=(dr w)/\
 aA pg (eK .len #[37] 3 [c5]) (dr w) λc9 w_=>w_=(dr w)/\
 aA pg (aE .neq 3 (.tmp 17) (.tmp 19) c7 c9) (dr w) λd0 w_=>w_=(dr w)/\
 (dr w)=(dr w)/\
 Gd (bG d0 false) (λK=>aA pg (aD 49 JP 0) (dr w) K) (dr w) λd2 w_=>w_=(dr w)/\
 Gd (bG d0 false) (λK=>aA pg (aB 34 d2) (dr w) K) (dr w) λd3 w_=>w_=(dr w)/\
 Gd (bG d0 false) (λK=>aG pg rO #[d3] (dr w) K) (dr w) λd4 gC=>
 Gd (bG d0 false) (λK=>aA pg (aD 49 JP 2) gC K) gC λd5 w_=>w_=gC/\
 (Gs (bG d0 false) (aP pg (aD 49 JP 2) d5 (dr w))/\True)/\
 Gd (bG d0 false) (λK=>aA pg (aD 40 d5 2) gC K) gC λd6 w_=>w_=gC/\
 (Gs (bG d0 false) (aP pg (aD 40 d5 2) d6 (dr w))/\True)/\
 Gd (bG d0 false) (λK=>aA pg (aB 38 d6) gC K) gC λd7 w_=>w_=gC/\
 (Gs (bG d0 false) (aP pg (aB 38 d6) d7 (dr w))/\True)/\
 Gd (bG d0 false) (λK=>aA pg (eK .len #[38] 3 [d7]) gC K) gC λd8 w_=>w_=gC/\
 (Gs (bG d0 false) (aP pg (eK .len #[38] 3 [d7]) d8 (dr w))/\True)/\
 Gd (bG d0 false) (λK=>aA pg (aE .neq 3 (.tmp 24) (.tmp 28) d4 d8) gC K) gC λd9 w_=>w_=gC/\
 aA pg (cH d0 (.bool true) d9) gC λe0 w_=>w_=gC/\
 cS e0
  (R (.bool false) gC)
  (kn JP c2 c5 gC)
def Rk(R:K1) p_0 w:=
 Rj (Iu R) R p_0 w
def ahQ a0 w(R:K1):=
 Rk R a0 w
theorem acZ{a0 w R}(h:ahQ a0 w R):aG pg CC #[a0] w R:=
 jX (ann:=yG) Tryz.f9 vK [a0] Bc 134 TryzM.mixed Tryz.func9 (dN 4 (Up (GO (Iu R) 1 3 4) h (λg w h=>aJ (dN 1 (WI _ g w (Fe R) R (λg w h=>aJ (dN 3 (Up (Qv (KX R) 1 8) h (λg w h=>aJ (dN 1 (Zm _ g w (KU R) R (λg w h=>aJ (kL h dE)) dE h))) dE))) dE h))) dE))
def QH:FA:=⟨zY,λi=>match Nat.beq i 30 with|true=> .leaf ([4,9],[(0,4),(1,4),(4,5),(4,6),(4,7),(4,8)]) (fz 4 (ft [2,3] (fu [0] (fu [1] (fu [2] (fu [3] (ft [] (fz 1 []))))))))|false=>match Nat.beq i 31 with|true=> .split 4 15 (.split 11 15 (.perm [0,1,2,3,4,5,6,7,8,9,10,11,12,13,14,15,16,17] [(11,15),(4,15)] ([4,11,15,16],[(0,4),(1,4),(4,5),(4,6),(4,7),(4,8),(4,9),(13,15),(14,15),(14,16)]) (fz 4 (ft [2,3] (fu [0] (fu [1] (fu [2] (fu [3] (fu [4] (fz 1 (ft [] (fz 3 (ft [0,1] (ft [1] (fz 1 [])))))))))))))) (.perm [0,1,2,3,4,5,6,7,8,9,10,15,11,12,13,14,16,17] [(15,11),(4,15)] ([4,11,12,16],[(0,4),(0,11),(1,4),(1,11),(4,5),(4,6),(4,7),(4,8),(4,9),(5,11),(6,11),(7,11),(8,11),(9,11),(10,11),(15,16)]) (fz 4 (ft [2,3] (fu [0] (fu [1] (fu [2] (fu [3] (fu [4] (fz 1 (ft [0,1,2,3,4,5,9,10] (ft [] (fz 3 (ft [0] (fz 1 []))))))))))))))) (.perm [0,1,2,3,5,6,7,8,9,15,4,10,11,12,13,14,16,17] [(15,4)] ([9,10,12,16],[(0,9),(0,10),(1,9),(1,10),(2,9),(3,9),(4,9),(4,10),(5,9),(5,10),(6,9),(6,10),(7,9),(7,10),(8,9),(8,10),(15,16)]) (fz 9 (ft [0,1,2,3,4,5,6,7,8] (ft [1,2,3,4,5,8,9] (fz 1 (ft [] (fz 3 (ft [0] (fz 1 [])))))))))|false=> .leaf ([],[]) []⟩
def U3:List ResultVar:=[.cell 8 49,.tmp 9]
noncomputable def Bo:Code:=bA Tryz.f10
def Ff(R:K1) pQ Hi b8 w:=
 aA pg (aB 49 pQ) w λv7 w=>
 aA pg (aB 30 Hi) w λv8 w=>
 aG pg dF #[v7,v8] w λv9 w=>
 aA pg (aQ v9 0) w λx0 w=>
 aA pg (aQ v9 1) w λx1 w=>
 aA pg (aF 49 b8 x0) w λ_u w=>
 lO pg 49 b8 w λr0=>R (.tuple #[r0,x1]) w
def KY(R:K1) uN pQ Hi tH b8 w:=
 aA pg (aD 49 pQ 1) w λd9 w=>
 aA pg (aB 43 d9) w λe0 w=>
 aA pg (aE .eql 43 (.tmp 30) (.const (.pointer none)) e0 (.pointer none)) w λe1 w=>
 cS e1
  (aA pg (aB 49 pQ) w λe2 w=>
  aA pg (aF 49 b8 e2) w λ_u w=>
  lO pg 49 b8 w λr0=>R (.tuple #[r0,(.bool true)]) w)
  (aA pg (aD 30 Hi 1) w λe4 w=>
  aA pg (aB 27 e4) w λe5 w=>
  aA pg (cP 27 3 e5) w λe6 w=>
  aA pg (aB 54 tH) w λe7 w=>
  aG pg ER #[uN,e6,e7] w λe8 w=>
  aA pg (aD 49 pQ 1) w λe9 w=>
  aA pg (aB 43 e9) w λf0 w=>
  aA pg (aD 54 tH 1) w λf1 w=>
  aA pg (aB 3 f1) w λf2 w=>
  aG pg eF #[f0,f2,e8] w λf4 w=>
  aA pg (aD 49 pQ 2) w λf6 w=>
  aA pg (aB 40 f6) w λf7 w=>
  aA pg (aD 49 pQ 3) w λf8 w=>
  aA pg (aB 47 f8) w λf9 w=>
  aA pg (aD 54 tH 1) w λi0 w=>
  aA pg (aB 3 i0) w λi1 w=>
  aA pg (cP 22 9 e8) w λi3 w=>
  aG pg J4 #[f7,f9,i1,i3] w λi4 w=>
  aA pg (aQ i4 0) w λi5 w=>
  aA pg (aQ i4 1) w λi6 w=>
  aA pg (aQ i4 2) w λi7 w=>
  aA pg (bE 40) w λaIt w=>
  aA pg (bE 47) w λc3 w=>
  aA pg (aF 40 aIt i5) w λ_u w=>
  aA pg (aF 47 c3 i6) w λ_u w=>
  aA pg (aB 40 aIt) w λi8 w=>
  aA pg (aD 49 pQ 2) w λi9 w=>
  aA pg (aF 40 i9 i8) w λ_u w=>
  aA pg (aB 47 c3) w λj0 w=>
  aA pg (aD 49 pQ 3) w λj1 w=>
  aA pg (aF 47 j1 j0) w λ_u w=>
  aA pg (aB 49 pQ) w λj2 w=>
  aA pg (aE .eql 31 (.tmp 63) (.tmp 64) f4 i7) w λj5 w=>
  aA pg (aF 49 b8 j2) w λ_u w=>
  lO pg 49 b8 w λr0=>R (.tuple #[r0,j5]) w)
def KZ(R:K1) pQ b8 w:=
 aA pg (aD 49 pQ 1) w λj8 w=>
 aA pg (aB 43 j8) w λj9 w=>
 aA pg (aE .eql 43 (.tmp 69) (.const (.pointer none)) j9 (.pointer none)) w λl0 w=>
 cS l0
  (aA pg (aB 49 pQ) w λl1 w=>
  aA pg (aF 49 b8 l1) w λ_u w=>
  lO pg 49 b8 w λr0=>R (.tuple #[r0,(.bool true)]) w)
  (aA pg (aD 49 pQ 1) w λl2 w=>
  aA pg (aB 43 l2) w λl3 w=>
  aG pg gK #[l3] w λl4 w=>
  aA pg (aD 49 pQ 2) w λl6 w=>
  aA pg (aB 40 l6) w λl7 w=>
  aA pg (aD 49 pQ 3) w λl8 w=>
  aA pg (aB 47 l8) w λl9 w=>
  aG pg CG #[l7,l9] w λm0 w=>
  aA pg (aQ m0 0) w λm1 w=>
  aA pg (aQ m0 1) w λm2 w=>
  aA pg (aQ m0 2) w λm3 w=>
  aA pg (bE 40) w λafC w=>
  aA pg (bE 47) w λc7 w=>
  aA pg (aF 40 afC m1) w λ_u w=>
  aA pg (aF 47 c7 m2) w λ_u w=>
  aA pg (aB 40 afC) w λm4 w=>
  aA pg (aD 49 pQ 2) w λm5 w=>
  aA pg (aF 40 m5 m4) w λ_u w=>
  aA pg (aB 47 c7) w λm6 w=>
  aA pg (aD 49 pQ 3) w λm7 w=>
  aA pg (aF 47 m7 m6) w λ_u w=>
  aA pg (aB 49 pQ) w λm8 w=>
  aA pg (aE .eql 31 (.tmp 89) (.tmp 90) l4 m3) w λn1 w=>
  aA pg (aF 49 b8 m8) w λ_u w=>
  lO pg 49 b8 w λr0=>R (.tuple #[r0,n1]) w)
def La(R:K1) pQ tH b8 w:=
 aA pg (aD 49 pQ 0) w λn4 w=>
 aA pg (aB 34 n4) w λn5 w=>
 aA pg (aD 54 tH 5) w λn6 w=>
 aA pg (aB 3 n6) w λn7 w=>
 aA pg (aE .and 3 aN aN n7 (aL2 15)) w λn8 w=>
 aG pg zX #[n5,n8] w λn9 w=>
 aA pg (aD 54 tH 5) w λo0 w=>
 aA pg (aB 3 o0) w λo1 w=>
 aA pg (aE .and 3 aN aN o1 (aL2 15)) w λo2 w=>
 aA pg (aD 49 pQ 2) w λo3 w=>
 aA pg (aD 40 o3 3) w λo4 w=>
 aA pg (aF 3 o4 o2) w λ_u w=>
 aA pg (aB 49 pQ) w λo5 w=>
 aA pg (aF 49 b8 o5) w λ_u w=>
 lO pg 49 b8 w λr0=>R (.tuple #[r0,(.bool true)]) w
def Lb(R:K1) pQ Hi tH b8 w:=
 aA pg (aD 49 pQ 0) w λo8 w=>
 aA pg (aB 34 o8) w λo9 w=>
 aA pg (aD 54 tH 4) w λp0 w=>
 aA pg (aB 45 p0) w λp1 w=>
 aG pg wU #[o9,p1] w λp2 w=>
 aA pg (aD 49 pQ 2) w λp3 w=>
 aA pg (aB 40 p3) w λp4 w=>
 aA pg (aD 54 tH 4) w λp5 w=>
 aA pg (aB 45 p5) w λp6 w=>
 aG pg AU #[p4,p6] w λp7 w=>
 aA pg (aD 49 pQ 2) w λp8 w=>
 aA pg (aF 40 p8 p7) w λ_u w=>
 aA pg (aB 49 pQ) w λp9 w=>
 aA pg (aB 30 Hi) w λq0 w=>
 aG pg dF #[p9,q0] w λq1 w=>
 aA pg (aQ q1 0) w λq2 w=>
 aA pg (aQ q1 1) w λq3 w=>
 aA pg (aF 49 b8 q2) w λ_u w=>
 lO pg 49 b8 w λr0=>R (.tuple #[r0,q3]) w
def Fg(R:K1) pQ b8 aI5 vU aI8 w:=
 aA pg (aB 40 vU) w λv1 w=>
 aA pg (aD 49 pQ 2) w λv2 w=>
 aA pg (aF 40 v2 v1) w λ_u w=>
 aA pg (aB 49 pQ) w λv3 w=>
 aA pg (aE .eql 31 (.tmp 154) (.tmp 155) aI5 aI8) w λv6 w=>
 aA pg (aF 49 b8 v3) w λ_u w=>
 lO pg 49 b8 w λr0=>R (.tuple #[r0,v6]) w
def Uv(kn:K5) pQ tH b8 w:=
 aA pg (aD 49 pQ 0) (dr w) λq6 w_=>w_=(dr w)/\
 aA pg (aB 34 q6) (dr w) λq7 w_=>w_=(dr w)/\
 aA pg (aD 54 tH 6) (dr w) λq8 w_=>w_=(dr w)/\
 aA pg (aB 5 q8) (dr w) λq9 w_=>w_=(dr w)/\
 aG pg rE #[q9] (dr w) λs0 Tc=>
 (aP pg (aB 34 q6) q7 Tc/\aP pg (aD 49 pQ 0) q6 Tc/\True)/\
 aA pg (aD 54 tH 7) Tc λs1 w_=>w_=Tc/\
 (aP pg (aD 54 tH 7) s1 (dr w)/\True)/\
 aA pg (aB 3 s1) Tc λs2 w_=>w_=Tc/\
 (aP pg (aB 3 s1) s2 (dr w)/\True)/\
 aA pg (aD 54 tH 2) Tc λs3 w_=>w_=Tc/\
 (aP pg (aD 54 tH 2) s3 (dr w)/\True)/\
 aA pg (aB 22 s3) Tc λs4 w_=>w_=Tc/\
 (aP pg (aB 22 s3) s4 (dr w)/\True)/\
 aG pg gD #[q7,s0,s2,s4] Tc λs5 fX=>
 fX=fX/\
 Ord (P9 zY 31 (xP 31 Bo) 4 15 fX)
  (Ord (P9 zY 31 (xP 31 Bo) 11 15 fX)
   (aA pg (aD 49 pQ 2) (dr fX) λs7 w_=>w_=(dr fX)/\
   aA pg (aB 40 s7) (dr fX) λs8 w_=>w_=(dr fX)/\
   aA pg (aD 54 tH 6) (dr fX) λs9 w_=>w_=(dr fX)/\
   aA pg (aB 5 s9) (dr fX) λu0 w_=>w_=(dr fX)/\
   aG pg rE #[u0] (dr fX) λu1 pK=>
   (aP pg (aB 40 s7) s8 pK/\aP pg (aD 49 pQ 2) s7 pK/\True)/\
   aA pg (aD 54 tH 7) pK λu2 w_=>w_=pK/\
   (aP pg (aD 54 tH 7) u2 (dr fX)/\True)/\
   aA pg (aB 3 u2) pK λu3 w_=>w_=pK/\
   (aP pg (aB 3 u2) u3 (dr fX)/\True)/\
   aA pg (aD 54 tH 2) pK λu4 w_=>w_=pK/\
   (aP pg (aD 54 tH 2) u4 (dr fX)/\True)/\
   aA pg (aB 22 u4) pK λu5 w_=>w_=pK/\
   (aP pg (aB 22 u4) u5 (dr fX)/\True)/\
   aA pg (cP 22 9 u5) pK λu6 w_=>w_=pK/\
   (aP pg (cP 22 9 u5) u6 (dr fX)/\True)/\
   aA pg (bV 96 [(1,u1),(3,u3),(4,u6)]) pK λu7 w_=>w_=pK/\
   aG pg iB #[s8,u7] pK λu8 zS=>
   zS=zS/\
   aA pg (aQ u8 0) zS λu9 w_=>w_=zS/\
   aA pg (aQ u8 1) zS λv0 w_=>w_=zS/\
   aA pg (bE 40) zS λvU azU=>
   (aP pg (aQ u8 1) v0 azU/\aP pg (aQ u8 0) u9 azU/\True)/\
   aA pg (aF 40 vU u9) azU λ_u16 DH=>
   (aP pg (aQ u8 1) v0 DH/\True)/\
   DH=DH/\
   kn pQ b8 s5 vU v0 DH)
   (aA pg (aD 49 pQ 2) (dr fX) λs7 w_=>w_=(dr fX)/\
   aA pg (aB 40 s7) (dr fX) λs8 w_=>w_=(dr fX)/\
   aA pg (aD 54 tH 6) (dr fX) λs9 w_=>w_=(dr fX)/\
   aA pg (aB 5 s9) (dr fX) λu0 w_=>w_=(dr fX)/\
   aG pg rE #[u0] (dr fX) λu1 pK=>
   (aP pg (aB 40 s7) s8 pK/\aP pg (aD 49 pQ 2) s7 pK/\True)/\
   aA pg (aD 54 tH 7) pK λu2 w_=>w_=pK/\
   (aP pg (aD 54 tH 7) u2 (dr fX)/\True)/\
   aA pg (aB 3 u2) pK λu3 w_=>w_=pK/\
   (aP pg (aB 3 u2) u3 (dr fX)/\True)/\
   aA pg (aD 54 tH 2) pK λu4 w_=>w_=pK/\
   (aP pg (aD 54 tH 2) u4 (dr fX)/\True)/\
   aA pg (aB 22 u4) pK λu5 w_=>w_=pK/\
   (aP pg (aB 22 u4) u5 (dr fX)/\True)/\
   aA pg (cP 22 9 u5) pK λu6 w_=>w_=pK/\
   (aP pg (cP 22 9 u5) u6 (dr fX)/\True)/\
   aA pg (bV 96 [(1,u1),(3,u3),(4,u6)]) pK λu7 w_=>w_=pK/\
   aA pg (bE 40) pK λvU zS=>
   (aP pg (bV 96 [(1,u1),(3,u3),(4,u6)]) u7 zS/\aP pg (cP 22 9 u5) u6 zS/\aP pg (aB 22 u4) u5 zS/\aP pg (aD 54 tH 2) u4 zS/\aP pg (aB 3 u2) u3 zS/\aP pg (aD 54 tH 7) u2 zS/\aP pg (aB 40 s7) s8 zS/\aP pg (aD 49 pQ 2) s7 zS/\True)/\
   aG pg iB #[s8,u7] zS λu8 Ca=>
   Ca=Ca/\
   aA pg (aQ u8 0) Ca λu9 w_=>w_=Ca/\
   aA pg (aQ u8 1) Ca λv0 w_=>w_=Ca/\
   aA pg (aF 40 vU u9) Ca λ_u16 DH=>
   (aP pg (aQ u8 1) v0 DH/\True)/\
   DH=DH/\
   kn pQ b8 s5 vU v0 DH))
  (aA pg (aD 49 pQ 2) (dr fX) λs7 w_=>w_=(dr fX)/\
  aA pg (aB 40 s7) (dr fX) λs8 w_=>w_=(dr fX)/\
  aA pg (aD 54 tH 6) (dr fX) λs9 w_=>w_=(dr fX)/\
  aA pg (aB 5 s9) (dr fX) λu0 w_=>w_=(dr fX)/\
  aA pg (aD 54 tH 7) (dr fX) λu2 w_=>w_=(dr fX)/\
  aA pg (aB 3 u2) (dr fX) λu3 w_=>w_=(dr fX)/\
  aA pg (aD 54 tH 2) (dr fX) λu4 w_=>w_=(dr fX)/\
  aA pg (aB 22 u4) (dr fX) λu5 w_=>w_=(dr fX)/\
  aA pg (cP 22 9 u5) (dr fX) λu6 w_=>w_=(dr fX)/\
  aA pg (bE 40) (dr fX) λvU Ve=>
  (aP pg (cP 22 9 u5) u6 Ve/\aP pg (aB 22 u4) u5 Ve/\aP pg (aD 54 tH 2) u4 Ve/\aP pg (aB 3 u2) u3 Ve/\aP pg (aD 54 tH 7) u2 Ve/\aP pg (aB 5 s9) u0 Ve/\aP pg (aD 54 tH 6) s9 Ve/\aP pg (aB 40 s7) s8 Ve/\aP pg (aD 49 pQ 2) s7 Ve/\True)/\
  aG pg rE #[u0] Ve λu1 LN=>
  (aP pg (cP 22 9 u5) u6 LN/\aP pg (aB 22 u4) u5 LN/\aP pg (aD 54 tH 2) u4 LN/\aP pg (aB 3 u2) u3 LN/\aP pg (aD 54 tH 7) u2 LN/\aP pg (aB 40 s7) s8 LN/\aP pg (aD 49 pQ 2) s7 LN/\True)/\
  aA pg (bV 96 [(1,u1),(3,u3),(4,u6)]) LN λu7 w_=>w_=LN/\
  aG pg iB #[s8,u7] LN λu8 Ca=>
  Ca=Ca/\
  aA pg (aQ u8 0) Ca λu9 w_=>w_=Ca/\
  aA pg (aQ u8 1) Ca λv0 w_=>w_=Ca/\
  aA pg (aF 40 vU u9) Ca λ_u16 DH=>
  (aP pg (aQ u8 1) v0 DH/\True)/\
  DH=DH/\
  kn pQ b8 s5 vU v0 DH)
def Lc(R:K1) pQ tH b8 w:=
 Uv (Fg R) pQ tH b8 w
def Uw(kn:K3) pQ Hi b8 w:=
 kn pQ Hi b8 w
def Iv(kn:K3)(R:K1) pQ Hi tH b8 q4 w:=
 cS q4 (Lc R pQ tH b8 w) (Uw kn pQ Hi b8 w)
def Rp(kn:K5) pQ Hi tH b8 d4 w:=
 aA pg (aE .eql 3 (.tmp 24) (.const (aL2 6)) d4 (aL2 6)) w λq5 w=>
 kn pQ Hi tH b8 q5 w
def Rq(kn:K3)(R:K1) pQ Hi tH b8 d4 w:=
 Rp (Iv kn R) pQ Hi tH b8 d4 w
def Iw(kn:K3)(R:K1) pQ Hi tH b8 d4 o6 w:=
 cS o6 (Lb R pQ Hi tH b8 w) (Rq kn R pQ Hi tH b8 d4 w)
def Rr(kn:K6) pQ Hi tH b8 d4 w:=
 aA pg (aE .eql 3 (.tmp 24) (.const (aL2 5)) d4 (aL2 5)) w λo7 w=>
 kn pQ Hi tH b8 d4 o7 w
def Rs(kn:K3)(R:K1) pQ Hi tH b8 d4 w:=
 Rr (Iw kn R) pQ Hi tH b8 d4 w
def Ix(kn:K3)(R:K1) pQ Hi tH b8 d4 n2 w:=
 cS n2 (La R pQ tH b8 w) (Rs kn R pQ Hi tH b8 d4 w)
def Rt(kn:K6) pQ Hi tH b8 d4 w:=
 aA pg (aE .eql 3 (.tmp 24) (.const (aL2 4)) d4 (aL2 4)) w λn3 w=>
 kn pQ Hi tH b8 d4 n3 w
def Ru(kn:K3)(R:K1) pQ Hi tH b8 d4 w:=
 Rt (Ix kn R) pQ Hi tH b8 d4 w
def Iy(kn:K3)(R:K1) pQ Hi tH b8 d4 j6 w:=
 cS j6 (KZ R pQ b8 w) (Ru kn R pQ Hi tH b8 d4 w)
def Rv(kn:K6) pQ Hi tH b8 d4 w:=
 aA pg (aE .eql 3 (.tmp 24) (.const (aL2 3)) d4 (aL2 3)) w λj7 w=>
 kn pQ Hi tH b8 d4 j7 w
def Rw(kn:K3)(R:K1) pQ Hi tH b8 d4 w:=
 Rv (Iy kn R) pQ Hi tH b8 d4 w
def sV(kn:K3)(R:K1) uN pQ Hi tH b8 d4 d5 w:=
 cS d5 (KY R uN pQ Hi tH b8 w) (Rw kn R pQ Hi tH b8 d4 w)
def Rx(kn:K7) uN pQ Hi tH b8 d4 w:=
 aA pg (aE .eql 3 (.tmp 24) (.const (aL2 0)) d4 (aL2 0)) w λd6 w=>
 cS d6
  (kn uN pQ Hi tH b8 d4 d6 w)
  (aA pg (aE .eql 3 (.tmp 24) (.const (aL2 1)) d4 (aL2 1)) w λd7 w=>
  cS d7
   (kn uN pQ Hi tH b8 d4 d7 w)
   (aA pg (aE .eql 3 (.tmp 24) (.const (aL2 2)) d4 (aL2 2)) w λd8 w=>
   kn uN pQ Hi tH b8 d4 d8 w))
def Iz(kn:K3)(R:K1) uN pQ Hi tH b8 d4 w:=
 Rx (sV kn R) uN pQ Hi tH b8 d4 w
def Ry(kn:K6) uN pQ Hi tH b8 w:=
 aA pg (aD 54 tH 0) w λd2 w=>
 aA pg (aB 3 d2) w λd3 w=>
 aA pg (aE .and 3 aN aN d3 (aL2 7)) w λd4 w=>
 kn uN pQ Hi tH b8 d4 w
def IA(kn:K3)(R:K1) uN pQ Hi tH b8 w:=
 Ry (Iz kn R) uN pQ Hi tH b8 w
def IB(R:K1) uN pQ Hi tH b8 w:=
 IA (Ff R) R uN pQ Hi tH b8 w
theorem WL(kn:K3)(R:K1)(hn:N3 Q kn 4 6 8)(hr:HR U3 R Q)(h:IA kn R (g 1) (g 4) (g 6) (g 7) (g 8) w):dM pg QH (bL 1 (aO 1 Bo)) Q g w:=
 dN 1 (iS (Mq6 (Iz kn R) 1 4 6 7 8 24) h (λg w h=>aJ (BK 0 (dN 1 (iS (Mq7 (sV kn R) 1 4 6 7 8 24 25) h (λg w h=>aJ (cdD (.tmp 25) (λh=>(kL h hr)) (λh=>(dN 1 (iS (Mq6 (Iy kn R) 4 6 7 8 24 66) h (λg w h=>aJ (cdD (.tmp 66) (λh=>(kL h hr)) (λh=>(dN 1 (iS (Mq6 (Ix kn R) 4 6 7 8 24 92) h (λg w h=>aJ (cdD (.tmp 92) (λh=>(kL h hr)) (λh=>(dN 1 (iS (Mq6 (Iw kn R) 4 6 7 8 24 106) h (λg w h=>aJ (cdD (.tmp 106) (λh=>(kL h hr)) (λh=>(dN 1 (iS (YN (Iv kn R) 4 6 7 8 124) h (λg w h=>aJ (cdD (.tmp 124) (λh=>(dN 2 (iS (YN (Fg R) 4 8 19 20 21) h (λg w h=>aJ (kL h hr))))) (λh=>(iS _ h hn)) h))))) h))))) h))))) h))))) h)))))))
def Rz(kn:K5) p_0 uN M6 a_3 w:=
 aA pg (jK 49 p_0) w λpQ w=>
 aA pg (jK 30 M6) w λHi w=>
 aA pg (jK 54 a_3) w λtH w=>
 aA pg (bE 49) w λb8 w=>
 kn uN pQ Hi tH b8 w
def RA(R:K1) p_0 uN M6 a_3 w:=
 Rz (IB R) p_0 uN M6 a_3 w
def ahR a0 a1 a2 a3 w(R:K1):=
 RA R a0 a1 a2 a3 w
theorem adA{a0 a1 a2 a3 w R}(h:ahR a0 a1 a2 a3 w R):aG pg zY #[a0,a1,a2,a3] w R:=
 jX (ann:=QH) Tryz.f10 Bo [a0,a1,a2,a3] U3 162 TryzM.mixed Tryz.func10 (dN 1 (iS (YN (IB R) 1 4 6 7 8) h (λg w h=>aJ (dN 1 (WL _ g w (Ff R) R (λg w h=>aJ (kL h dE)) dE h)))))
def H6:FA:=⟨tZ,λi=>match Nat.beq i 28 with|true=> .leaf ([12],[]) (fz 12 (ft [] []))|false=> .leaf ([],[]) []⟩
def U5:List ResultVar:=[.tmp 6,.tmp 7]
noncomputable def Gu:Code:=bA Tryz.f11
def Fx(R:K1) fI BY w:=
 aG pg dQ #[fI] w λv4 w=>
 aA pg (aE .neq 31 (.tmp 155) (.const (aL2 0)) v4 (aL2 0)) w λv6 w=>
 cS v6
  (R (.tuple #[(.pointer none),v4]) w)
  (R (.tuple #[BY,(aL2 0)]) w)
def LJ(kn:K7) fI LO BY afC q4 q5 q6 w:=
 aA pg (aE .add 3 aN aN q6 (aL2 1)) w λv2 w=>
 kn fI LO BY afC q4 q5 v2 w
def Va(kn:K7)(k1:K2) fI LO BY afC q4 q5 q6 w:=
 aA pg (aE .lss 3 aN aN q6 q5) w λq7 w=>
 cS q7
  (aA pg (aR 104 q4 q6) w λq8 w=>
  aA pg (aB 109 q8) w λq9 w=>
  aA pg (bE 109) w λaDX w=>
  aA pg (aF 109 aDX q9) w λ_u w=>
  aA pg (aD 109 aDX 0) w λs0 w=>
  aA pg (aB 5 s0) w λs1 w=>
  aA pg (aE .eql 5 (.tmp 131) (.const (.int .u8 2)) s1 (.int .u8 2)) w λs2 w=>
  Gd (bG s2 true) (λK=>aA pg (aD 109 aDX 1) w K) w λs4 w=>
  Gd (bG s2 true) (λK=>aA pg (aB 26 s4) w K) w λs5 w=>
  Gd (bG s2 true) (λK=>K LO w) w λs6 w=>
  Gd (bG s2 true) (λK=>aA pg (cP 3 26 s6) w K) w λs7 w=>
  Gd (bG s2 true) (λK=>aA pg (aE .lss 26 aN aN s5 s7) w K) w λs8 w=>
  aA pg (cH s2 s8 (.bool false)) w λs9 w=>
  cS s9
   ((dr w)=(dr w)/\
   aA pg (cQ BY) (dr w) λu1 w_=>w_=(dr w)/\
   aA pg (aD 99 u1 4) (dr w) λu2 w_=>w_=(dr w)/\
   aA pg (aB 45 u2) (dr w) λu3 w_=>w_=(dr w)/\
   aA pg (aD 109 aDX 1) (dr w) λu4 w_=>w_=(dr w)/\
   aA pg (aB 26 u4) (dr w) λu5 w_=>w_=(dr w)/\
   (dr w)=(dr w)/\
   aA pg (aD 109 aDX 1) (dr w) λu7 w_=>w_=(dr w)/\
   aA pg (aB 26 u7) (dr w) λu8 w_=>w_=(dr w)/\
   aA pg (aR 45 afC u8) (dr w) λu9 w_=>w_=(dr w)/\
   aA pg (aB 4 u9) (dr w) λv0 w_=>w_=(dr w)/\
   aA pg (aR 45 u3 u5) (dr w) λv1 w_=>w_=(dr w)/\
   aA pg (aF 4 v1 v0) (dr w) λ_u12 aHt=>
   kn fI LO BY afC q4 q5 q6 aHt)
   (kn fI LO BY afC q4 q5 q6 w))
  (k1 fI BY w)
def LK(kn:K7)(k1:K2) fI LO BY afC q4 q5 q6 w:=
 Va (LJ kn) k1 fI LO BY afC q4 q5 q6 w
def Fy(k1:K2) fI LO BY afC q4 q5 q6 w:=
 bM (λ(X:aL1->K0) (t:aL1) (w:aL0)=>LK (λ_ _ _ _ _ _ q6 w=>X q6 w) k1 fI LO BY afC q4 q5 t w) q6 w
theorem aaC(k1:K2)(h1:E2 Q k1 1 0 10)(h:Fy k1 (g 0) (g 8) (g 10) (g 16) (g 124) (g 125) (g 126) w):dM pg H6 (bI (aO 5 (cT (aO 1 (bL 1 (aO 12 Gu)))))) Q g w:=by
 refine Fl (λg:Env=>g 126) (λX t w=>LK (λ_ _ _ _ _ _ q6 w=>X q6 w) k1 (g 0) (g 8) (g 10) (g 16) (g 124) (g 125) t w) h (λX g1 w1 ha hL=> ?_)
 rw[<-fC 0 ha,<-fC 8 ha,<-fC 10 ha,<-fC 16 ha,<-fC 124 ha,<-fC 125 ha]at hL
 exact(dN 3 (El [(1,(Qv k1 0 10))] (kr:=no) (Mq7 (LJ (λ_ _ _ _ _ _ q6 w=>X q6 w)) 0 8 10 16 124 125 126) hL (λg w h=>aJ (iS (Mq7 (λ_ _ _ _ _ _ q6 w=>X q6 w) 0 8 10 16 124 125 126) h dE)) JO ⟨h1,trivial⟩))
def Vb(kn:K7)(R:K1) fI LO BY acY w:=
 aG pg qP #[BY] w λp0 w=>
 aA pg (aQ p0 0) w λp1 w=>
 aA pg (aQ p0 1) w λp2 w=>
 aA pg (aE .neq 31 (.tmp 113) (.const (aL2 0)) p2 (aL2 0)) w λp4 w=>
 cS p4
  (R (.tuple #[(.pointer none),p2]) w)
  (aA pg (yX 45 LO LO) w λp8 w=>
  aA pg (cQ BY) w λp9 w=>
  aA pg (aD 99 p9 4) w λq0 w=>
  aA pg (aF 45 q0 p8) w λ_u w=>
  aG pg iV #[BY,p1] w λq3 w=>
  aA pg (eK .len #[104] 3 [acY]) w λq5 w=>
  kn fI LO BY q3 acY q5 (aL2 0) w)
def Vc(kn:K2)(R:K1) fI LO BY acY w:=
 Vb (Fy kn) R fI LO BY acY w
def Vd(kn:K2) fI BY w:=
 kn fI BY w
def Jt(kn:K2)(R:K1) fI LO BY acY o7 w:=
 cS o7 (Vc kn R fI LO BY acY w) (Vd kn fI BY w)
def SU(kn:K5) fI LO BY acY w:=
 aA pg (cQ BY) w λo4 w=>
 aA pg (aD 99 o4 6) w λo5 w=>
 aA pg (aB 4 o5) w λo6 w=>
 aA pg (G2 .not o6) w λo7 w=>
 kn fI LO BY acY o7 w
def Ju(kn:K2)(R:K1) fI LO BY acY w:=
 SU (Jt kn R) fI LO BY acY w
def zN(R:K1) fI LO BY acY w:=
 Ju (Fx R) R fI LO BY acY w
theorem YC(kn:K2)(R:K1)(hn:N2 Q kn 0 10)(hr:HR U5 R Q)(h:Ju kn R (g 0) (g 8) (g 10) (g 13) w):dM pg H6 (bL 1 (aO 12 Gu)) Q g w:=
 dN 1 (iS (YN (Jt kn R) 0 8 10 13 107) h (λg w h=>aJ (cdD (.tmp 107) (λh=>(dN 5 (Up (Mq7 (Fy kn) 0 8 10 16 124 125 126) h (λg w h=>aJ (BK 1 (aaC _ g w kn hn h))) hr))) (λh=>(iS _ h hn)) h)))
def SW(kn:K4)(R:K1) fI cV M6 w:=
 aA pg (jK 30 M6) w λIN w=>
 aA pg (aE .eql 34 (.tmp 20) (.const (.pointer none)) fI (.pointer none)) w λd1 w=>
 Gd (bG d1 false) (λK=>K cV w) w λd3 w=>
 Gd (bG d1 false) (λK=>aA pg (eK .len #[9] 3 [d3]) w K) w λd4 w=>
 Gd (bG d1 false) (λK=>aA pg (aE .lss 3 aN aN d4 (aL2 1)) w K) w λd5 w=>
 aA pg (cH d1 (.bool true) d5) w λd6 w=>
 Gd (bG d6 false) (λK=>K cV w) w λd8 w=>
 Gd (bG d6 false) (λK=>aA pg (eK .len #[9] 3 [d8]) w K) w λd9 w=>
 Gd (bG d6 false) (λK=>aA pg (aE .gtr 3 aN aN d9 (aL2 27)) w K) w λe0 w=>
 aA pg (cH d6 (.bool true) e0) w λe1 w=>
 cS e1
  (R (.tuple #[(.pointer none),(aL2 1)]) w)
  (aA pg (aD 30 IN 0) w λe3 w=>
  aA pg (aB 26 e3) w λe4 w=>
  aA pg (aD 30 IN 1) w λe5 w=>
  aA pg (aB 27 e5) w λe6 w=>
  aA pg (cP 27 3 e6) w λe7 w=>
  aG pg vV #[e4,e7] w λe8 w=>
  aA pg (aQ e8 0) w λe9 w=>
  aA pg (aQ e8 1) w λf0 w=>
  aA pg (aE .neq 31 (.tmp 42) (.const (aL2 0)) f0 (aL2 0)) w λf3 w=>
  cS f3
   (R (.tuple #[(.pointer none),f0]) w)
   (aA pg (aD 30 IN 2) w λf7 w=>
   aA pg (aB 28 f7) w λf8 w=>
   aA pg (eK .len #[28] 3 [f8]) w λf9 w=>
   aA pg (aE .neq 3 (.tmp 46) (.tmp 49) e9 f9) w λi0 w=>
   cS i0
    (R (.tuple #[(.pointer none),(aL2 11)]) w)
    (aA pg (aD 30 IN 2) w λi1 w=>
    aA pg (aB 28 i1) w λi2 w=>
    aG pg rP #[i2] w λi3 w=>
    aA pg (aD 30 IN 2) w λi4 w=>
    aA pg (aF 28 i4 i3) w λ_u w=>
    aA pg (aB 30 IN) w λi7 w=>
    aA pg (bV 99 [(0,fI),(1,cV),(2,i7)]) w λi8 w=>
    aA pg (jK 99 i8) w λi9 w=>
    aG pg lG #[i9,cV] w λj3 w=>
    aA pg (aQ j3 0) w λj4 w=>
    aA pg (aQ j3 1) w λj5 w=>
    aA pg (aQ j3 2) w λj6 w=>
    aA pg (aE .neq 31 (.tmp 67) (.const (aL2 0)) j6 (aL2 0)) w λj8 w=>
    cS j8
     (R (.tuple #[(.pointer none),j6]) w)
     (aG pg iV #[i9,j4] w λl3 w=>
     aA pg (cQ i9) w λl4 w=>
     aA pg (aD 99 l4 4) w λl5 w=>
     aA pg (aF 45 l5 l3) w λ_u w=>
     Gd (bG j5 true) (λK=>K j4 w) w λl9 w=>
     Gd (bG j5 true) (λK=>aA pg (eK .len #[22] 3 [l9]) w K) w λm0 w=>
     Gd (bG j5 true) (λK=>aA pg (cP 3 26 m0) w K) w λm1 w=>
     Gd (bG j5 true) (λK=>aA pg (aD 30 IN 0) w K) w λm2 w=>
     Gd (bG j5 true) (λK=>aA pg (aB 26 m2) w K) w λm3 w=>
     Gd (bG j5 true) (λK=>aA pg (aE .eql 26 (.tmp 81) (.tmp 83) m1 m3) w K) w λm4 w=>
     aA pg (cH j5 m4 (.bool false)) w λm5 w=>
     Gd (bG m5 true) (λK=>K i9 w) w λm7 w=>
     Gd (bG m5 true) (λK=>aA pg (cQ m7) w K) w λm8 w=>
     Gd (bG m5 true) (λK=>aA pg (aD 99 m8 4) w K) w λm9 w=>
     Gd (bG m5 true) (λK=>aA pg (aB 45 m9) w K) w λn0 w=>
     Gd (bG m5 true) (λK=>aG pg Ce #[n0] w K) w λn1 w=>
     aA pg (cH m5 n1 (.bool false)) w λn2 w=>
     aA pg (cQ i9) w λn3 w=>
     aA pg (aD 99 n3 6) w λn4 w=>
     aA pg (aF 4 n4 n2) w λ_u w=>
     aG pg mD #[i9] w λn7 w=>
     aA pg (aQ n7 0) w λn8 w=>
     aA pg (aQ n7 1) w λn9 w=>
     aA pg (aE .neq 31 (.tmp 100) (.const (aL2 0)) n9 (aL2 0)) w λo1 w=>
     cS o1
      (R (.tuple #[(.pointer none),n9]) w)
      (kn fI e9 i9 n8 w)))))
def SX(R:K1) fI cV M6 w:=
 SW (zN R) R fI cV M6 w
def akT a0 a1 a2 w(R:K1):=
 SX R a0 a1 a2 w
theorem afB{a0 a1 a2 w R}(h:akT a0 a1 a2 w R):aG pg tZ #[a0,a1,a2] w R:=
 jX (ann:=H6) Tryz.f11 Gu [a0,a1,a2] U5 159 TryzM.mixed Tryz.func11 (dN 12 (Up (CN (zN R) 0 8 10 13) h (λg w h=>aJ (dN 1 (YC _ g w (Fx R) R (λg w h=>aJ (kL h dE)) dE h))) dE))
def TD:FA:=⟨eF,λi=>match Nat.beq i 3 with|true=> .leaf ([],[]) (fz 12 [])|false=>match Nat.beq i 5 with|true=> .leaf ([],[]) (fz 14 [])|false=>match Nat.beq i 9 with|true=> .split 12 17 (.perm [0,1,2,3,4,5,6,7,8,9,10,11,12,13,14,15,16,17,18,19,20] [(12,17)] ([12,17,18],[(14,17),(15,17),(15,18),(16,17),(16,18)]) (fz 12 (ft [] (fz 4 (ft [0,1,2] (ft [1,2] (fz 2 []))))))) (.perm [0,1,2,3,4,5,6,7,8,9,10,11,17,12,13,14,15,16,18,19,20] [(17,12)] ([12,13,18],[(0,12),(1,12),(2,12),(3,12),(4,12),(5,12),(6,12),(7,12),(8,12),(9,12),(10,12),(11,12),(16,18),(17,18)]) (fz 12 (ft [0,1,2,3,4,5,6,7,8,9,10,11] (ft [] (fz 4 (ft [0,1] (fz 2 [])))))))|false=>match Nat.beq i 10 with|true=> .leaf ([13,14,17],[(0,13),(0,14)]) (fz 13 (ft [12] (ft [13] (fz 2 (ft [] [])))))|false=>match Nat.beq i 11 with|true=> .leaf ([11],[]) (fz 11 (ft [] []))|false=> .leaf ([],[]) []⟩
def VQ:List ResultVar:=[.tmp 6]
noncomputable def FE:Code:=bA Tryz.f12
def pI(R:K1) Bf wG b_5 apK w:=
 aA pg (aB 43 Bf) (dr w) λj5 w_=>w_=(dr w)/\
 aA pg (Pn (.func 45) [] [Bf,apK,b_5]) (dr w) λj6 w_=>w_=(dr w)/\
 aA pg (aB 43 Bf) (dr w) λj7 w_=>w_=(dr w)/\
 aA pg (cQ j7) (dr w) λj8 w_=>w_=(dr w)/\
 aA pg (aD 99 j8 0) (dr w) λj9 w_=>w_=(dr w)/\
 aA pg (aB 34 j9) (dr w) λl0 w_=>w_=(dr w)/\
 aA pg (Pn (.func 42) [l0] []) (dr w) λl1 w_=>w_=(dr w)/\
 aA pg (Pn (.func 46) [] [Bf,wG]) (dr w) λl2 w_=>w_=(dr w)/\
 aA pg (aB 43 Bf) (dr w) λl3 w_=>w_=(dr w)/\
 aA pg (cQ l3) (dr w) λl4 w_=>w_=(dr w)/\
 aA pg (aD 99 l4 0) (dr w) λl5 w_=>w_=(dr w)/\
 aA pg (aB 34 l5) (dr w) λl6 w_=>w_=(dr w)/\
 aA pg (Pn (.func 42) [l6] []) (dr w) λl7 w_=>w_=(dr w)/\
 aA pg (bB 151 4 [(0,j6),(1,l1),(2,l2),(3,l7)]) (dr w) λl8 aEx=>
 (aP pg (aB 43 Bf) j5 aEx/\True)/\
 aG pg AY #[l8] aEx λl9 aaE=>
 (aP pg (aB 43 Bf) j5 aaE/\True)/\
 aA pg (cQ j5) aaE λm0 w_=>w_=aaE/\
 aA pg (aD 99 m0 7) aaE λm1 w_=>w_=aaE/\
 aA pg (aF 31 m1 l9) aaE λ_u17 pJ=>
 aA pg (aB 43 Bf) (dr pJ) λm2 w_=>w_=(dr pJ)/\
 aA pg (cQ m2) (dr pJ) λm3 w_=>w_=(dr pJ)/\
 aA pg (aD 99 m3 4) (dr pJ) λm4 w_=>w_=(dr pJ)/\
 aA pg (aB 45 m4) (dr pJ) λm5 w_=>w_=(dr pJ)/\
 aA pg (aB 3 wG) (dr pJ) λm6 w_=>w_=(dr pJ)/\
 aA pg (aB 43 Bf) (dr pJ) λm7 w_=>w_=(dr pJ)/\
 aA pg (cQ m7) (dr pJ) λm8 w_=>w_=(dr pJ)/\
 aA pg (aD 99 m8 7) (dr pJ) λm9 w_=>w_=(dr pJ)/\
 aA pg (aB 31 m9) (dr pJ) λn0 w_=>w_=(dr pJ)/\
 aA pg (aE .eql 31 (.tmp 90) (.const (aL2 0)) n0 (aL2 0)) (dr pJ) λn1 w_=>w_=(dr pJ)/\
 aA pg (aR 45 m5 m6) (dr pJ) λn2 w_=>w_=(dr pJ)/\
 aA pg (aF 4 n2 n1) (dr pJ) λ_u11 akX=>
 aA pg (aB 43 Bf) akX λn3 w=>
 aA pg (cQ n3) w λn4 w=>
 aA pg (aD 99 n4 7) w λn5 w=>
 aA pg (aB 31 n5) w λn6 w=>
 R n6 w
def Jx(kn:K4)(R:K1) fB i_1 tG w:=
 aA pg (jK 43 fB) w λBf w=>
 aA pg (jK 3 i_1) w λwG w=>
 aA pg (jK 22 tG) w λb_5 w=>
 aA pg (aB 43 Bf) w λc1 w=>
 aG pg gE #[c1] w λc2 w=>
 aA pg (aE .neq 31 (.tmp 12) (.const (aL2 0)) c2 (aL2 0)) w λc3 w=>
 cS c3
  (aA pg (aB 43 Bf) w λc4 w=>
  aG pg gE #[c4] w λc5 w=>
  R c5 w)
  (aA pg (aB 3 wG) (dr w) λc7 w_=>w_=(dr w)/\
  aA pg (aE .lss 3 aN aN c7 (aL2 0)) (dr w) λc8 w_=>w_=(dr w)/\
  (dr w)=(dr w)/\
  Gd (bG c8 false) (λK=>aA pg (aB 3 wG) (dr w) K) (dr w) λd0 w_=>w_=(dr w)/\
  Gd (bG c8 false) (λK=>aA pg (aB 43 Bf) (dr w) K) (dr w) λd1 w_=>w_=(dr w)/\
  Gd (bG c8 false) (λK=>aA pg (cQ d1) (dr w) K) (dr w) λd2 w_=>w_=(dr w)/\
  Gd (bG c8 false) (λK=>aA pg (aD 99 d2 4) (dr w) K) (dr w) λd3 w_=>w_=(dr w)/\
  Gd (bG c8 false) (λK=>aA pg (aB 45 d3) (dr w) K) (dr w) λd4 w_=>w_=(dr w)/\
  Gd (bG c8 false) (λK=>aA pg (eK .len #[45] 3 [d4]) (dr w) K) (dr w) λd5 w_=>w_=(dr w)/\
  Gd (bG c8 false) (λK=>aA pg (aE .geq 3 aN aN d0 d5) (dr w) K) (dr w) λd6 w_=>w_=(dr w)/\
  aA pg (cH c8 (.bool true) d6) (dr w) λd7 w_=>w_=(dr w)/\
  (dr w)=(dr w)/\
  cS d7
   (R (aL2 17) (dr w))
   (aA pg (aB 43 Bf) (dr (dr w)) λd9 w_=>w_=(dr (dr w))/\
   aA pg (cQ d9) (dr (dr w)) λe0 w_=>w_=(dr (dr w))/\
   aA pg (aD 99 e0 6) (dr (dr w)) λe1 w_=>w_=(dr (dr w))/\
   aA pg (aB 4 e1) (dr (dr w)) λe2 w_=>w_=(dr (dr w))/\
   (dr (dr w))=(dr (dr w))/\
   Gd (bG e2 false) (λK=>aA pg (aB 43 Bf) (dr (dr w)) K) (dr (dr w)) λe4 w_=>w_=(dr (dr w))/\
   Gd (bG e2 false) (λK=>aA pg (cQ e4) (dr (dr w)) K) (dr (dr w)) λe5 w_=>w_=(dr (dr w))/\
   Gd (bG e2 false) (λK=>aA pg (aD 99 e5 4) (dr (dr w)) K) (dr (dr w)) λe6 w_=>w_=(dr (dr w))/\
   Gd (bG e2 false) (λK=>aA pg (aB 45 e6) (dr (dr w)) K) (dr (dr w)) λe7 w_=>w_=(dr (dr w))/\
   Gd (bG e2 false) (λK=>aA pg (aB 3 wG) (dr (dr w)) K) (dr (dr w)) λe8 w_=>w_=(dr (dr w))/\
   Gd (bG e2 false) (λK=>aA pg (aR 45 e7 e8) (dr (dr w)) K) (dr (dr w)) λe9 w_=>w_=(dr (dr w))/\
   Gd (bG e2 false) (λK=>aA pg (aB 4 e9) (dr (dr w)) K) (dr (dr w)) λf0 w_=>w_=(dr (dr w))/\
   aA pg (cH e2 (.bool true) f0) (dr (dr w)) λf1 w_=>w_=(dr (dr w))/\
   (dr (dr w))=(dr (dr w))/\
   cS f1
    (R (aL2 0) (dr (dr w)))
    (aA pg (aB 43 Bf) (dr (dr w)) λf3 w=>
    aA pg (aB 3 wG) w λf4 w=>
    aA pg (aB 22 b_5) w λf5 w=>
    aG pg nP #[f3,f4,f5] w λf6 w=>
    aA pg (G2 .not f6) w λf7 w=>
    cS f7
     (R (aL2 13) w)
     (Ord (P9 eF 9 (xP 9 FE) 12 17 w)
      (aA pg (aB 43 Bf) (dr w) λf9 w_=>w_=(dr w)/\
      aA pg (cQ f9) (dr w) λi0 w_=>w_=(dr w)/\
      aA pg (aD 99 i0 2) (dr w) λi1 w_=>w_=(dr w)/\
      aA pg (aD 30 i1 0) (dr w) λi2 w_=>w_=(dr w)/\
      aA pg (aB 26 i2) (dr w) λi3 w_=>w_=(dr w)/\
      aA pg (aB 43 Bf) (dr w) λi4 w_=>w_=(dr w)/\
      aA pg (cQ i4) (dr w) λi5 w_=>w_=(dr w)/\
      aA pg (aD 99 i5 2) (dr w) λi6 w_=>w_=(dr w)/\
      aA pg (aD 30 i6 1) (dr w) λi7 w_=>w_=(dr w)/\
      aA pg (aB 27 i7) (dr w) λi8 w_=>w_=(dr w)/\
      aA pg (cP 27 3 i8) (dr w) λi9 w_=>w_=(dr w)/\
      aA pg (aB 3 wG) (dr w) λj0 w_=>w_=(dr w)/\
      aG pg qK #[i3,i9,j0] (dr w) λj1 zT=>
      zT=zT/\
      aA pg (aQ j1 0) zT λj2 w_=>w_=zT/\
      aA pg (aQ j1 1) zT λj3 w_=>w_=zT/\
      aA pg (aQ j1 2) zT λj4 w_=>w_=zT/\
      aA pg (bE 26) zT λapK aBa=>
      (aP pg (aQ j1 2) j4 aBa/\aP pg (aQ j1 1) j3 aBa/\aP pg (aQ j1 0) j2 aBa/\True)/\
      aA pg (aF 26 apK j2) aBa λ_u18 JL=>
      (aP pg (aQ j1 2) j4 JL/\aP pg (aQ j1 1) j3 JL/\True)/\
      JL=JL/\
      JL=JL/\
      kn Bf wG b_5 apK JL)
      (aA pg (aB 43 Bf) (dr w) λf9 w_=>w_=(dr w)/\
      aA pg (cQ f9) (dr w) λi0 w_=>w_=(dr w)/\
      aA pg (aD 99 i0 2) (dr w) λi1 w_=>w_=(dr w)/\
      aA pg (aD 30 i1 0) (dr w) λi2 w_=>w_=(dr w)/\
      aA pg (aB 26 i2) (dr w) λi3 w_=>w_=(dr w)/\
      aA pg (aB 43 Bf) (dr w) λi4 w_=>w_=(dr w)/\
      aA pg (cQ i4) (dr w) λi5 w_=>w_=(dr w)/\
      aA pg (aD 99 i5 2) (dr w) λi6 w_=>w_=(dr w)/\
      aA pg (aD 30 i6 1) (dr w) λi7 w_=>w_=(dr w)/\
      aA pg (aB 27 i7) (dr w) λi8 w_=>w_=(dr w)/\
      aA pg (cP 27 3 i8) (dr w) λi9 w_=>w_=(dr w)/\
      aA pg (aB 3 wG) (dr w) λj0 w_=>w_=(dr w)/\
      aA pg (bE 26) (dr w) λapK zT=>
      (aP pg (aB 3 wG) j0 zT/\aP pg (cP 27 3 i8) i9 zT/\aP pg (aB 27 i7) i8 zT/\aP pg (aD 30 i6 1) i7 zT/\aP pg (aD 99 i5 2) i6 zT/\aP pg (cQ i4) i5 zT/\aP pg (aB 43 Bf) i4 zT/\aP pg (aB 26 i2) i3 zT/\aP pg (aD 30 i1 0) i2 zT/\aP pg (aD 99 i0 2) i1 zT/\aP pg (cQ f9) i0 zT/\aP pg (aB 43 Bf) f9 zT/\True)/\
      aG pg qK #[i3,i9,j0] zT λj1 YL=>
      YL=YL/\
      aA pg (aQ j1 0) YL λj2 w_=>w_=YL/\
      aA pg (aQ j1 1) YL λj3 w_=>w_=YL/\
      aA pg (aQ j1 2) YL λj4 w_=>w_=YL/\
      aA pg (aF 26 apK j2) YL λ_u18 JL=>
      (aP pg (aQ j1 2) j4 JL/\aP pg (aQ j1 1) j3 JL/\True)/\
      JL=JL/\
      JL=JL/\
      kn Bf wG b_5 apK JL)))))
def Jy(R:K1) fB i_1 tG w:=
 Jx (pI R) R fB i_1 tG w
def Ps a0 a1 a2 w(R:K1):=
 Jy R a0 a1 a2 w
theorem SZ{a0 a1 a2 w R}(h:Ps a0 a1 a2 w R):aG pg eF #[a0,a1,a2] w R:=
 jX (ann:=TD) Tryz.f12 FE [a0,a1,a2] VQ 97 TryzM.mixed Tryz.func12 (dN 3 (Up (CN (pI R) 3 4 5 7) h (λg w h=>aJ (kL h dE)) dE))
def Nd:FA:=⟨gK,λi=>match Nat.beq i 7 with|true=> .leaf ([9],[]) (fz 9 (ft [] (fz 5 [])))|false=>match Nat.beq i 11 with|true=> .leaf ([3,6],[(0,3)]) (fz 3 (ft [2] (fz 2 (ft [] []))))|false=>match Nat.beq i 14 with|true=> .leaf ([7,8,11],[(0,7),(0,8)]) (fz 7 (ft [6] (ft [7] (fz 2 (ft [] [])))))|false=>match Nat.beq i 15 with|true=> .leaf ([8],[]) (fz 8 (ft [] []))|false=> .leaf ([],[]) []⟩
def Qc:List ResultVar:=[.tmp 2]
noncomputable def L2:Code:=bA Tryz.f13
def DV(R:K1) fB w:=
 aA pg (jK 43 fB) w λSL w=>
 aA pg (aB 43 SL) w λb6 w=>
 aG pg gE #[b6] w λb7 w=>
 aA pg (aE .neq 31 (.tmp 7) (.const (aL2 0)) b7 (aL2 0)) w λb8 w=>
 cS b8
  (aA pg (aB 43 SL) w λb9 w=>
  aG pg gE #[b9] w λc0 w=>
  R c0 w)
  (aA pg (aB 43 SL) w λc2 w=>
  aA pg (cQ c2) w λc3 w=>
  aA pg (aD 99 c3 6) w λc4 w=>
  aA pg (aB 4 c4) w λc5 w=>
  cS c5
   (R (aL2 0) w)
   (aA pg (aB 43 SL) w λc7 w=>
   aA pg (cQ c7) w λc8 w=>
   aA pg (aD 99 c8 4) w λc9 w=>
   aA pg (aB 45 c9) w λd0 w=>
   aG pg Ce #[d0] w λd1 w=>
   aA pg (G2 .not d1) w λd2 w=>
   cS d2
    (R (aL2 30) w)
    (aA pg (aB 43 SL) (dr w) λd4 w_=>w_=(dr w)/\
    aA pg (cQ d4) (dr w) λd5 w_=>w_=(dr w)/\
    aA pg (aD 99 d5 0) (dr w) λd6 w_=>w_=(dr w)/\
    aA pg (aB 34 d6) (dr w) λd7 w_=>w_=(dr w)/\
    aA pg (aB 43 SL) (dr w) λd8 w_=>w_=(dr w)/\
    aA pg (cQ d8) (dr w) λd9 w_=>w_=(dr w)/\
    aA pg (aD 99 d9 1) (dr w) λe0 w_=>w_=(dr w)/\
    aA pg (aB 9 e0) (dr w) λe1 w_=>w_=(dr w)/\
    aA pg (aE .add 9 aN aN e1 (.string ⟨#[46,112,97,114,116]⟩)) (dr w) λe2 w_=>w_=(dr w)/\
    aG pg gV #[d7,e2] (dr w) λe3 Tf=>
    Tf=Tf/\
    aA pg (aQ e3 0) Tf λe4 w_=>w_=Tf/\
    aA pg (aQ e3 1) Tf λe5 w_=>w_=Tf/\
    Tf=Tf/\
    Tf=Tf/\
    aA pg (aE .neq 31 (.tmp 36) (.const (aL2 0)) e5 (aL2 0)) Tf λe7 w=>
    cS e7
     (aA pg (aB 43 SL) w λe8 w=>
     aA pg (cQ e8) w λf0 w=>
     aA pg (aD 99 f0 7) w λf1 w=>
     aA pg (aF 31 f1 e5) w λ_u w=>
     R e5 w)
     (aA pg (aB 43 SL) (dr w) λf3 w_=>w_=(dr w)/\
     aA pg (aB 43 SL) (dr w) λf4 w_=>w_=(dr w)/\
     (dr w)=(dr w)/\
     aG pg iV #[f4,e4] (dr w) λf6 aoY=>
     (aP pg (aB 43 SL) f3 aoY/\True)/\
     aA pg (cQ f3) aoY λf7 w_=>w_=aoY/\
     aA pg (aD 99 f7 4) aoY λf8 w_=>w_=aoY/\
     aA pg (aF 45 f8 f6) aoY λ_u6 aIf=>
     aA pg (aB 43 SL) aIf λf9 w=>
     aA pg (cQ f9) w λi0 w=>
     aA pg (aD 99 i0 4) w λi1 w=>
     aA pg (aB 45 i1) w λi2 w=>
     aG pg Ce #[i2] w λi3 w=>
     aA pg (G2 .not i3) w λi4 w=>
     cS i4
      (R (aL2 13) w)
      (aA pg (aB 43 SL) (dr w) λi5 w_=>w_=(dr w)/\
      aA pg (Pn (.func 48) [] [SL]) (dr w) λi6 w_=>w_=(dr w)/\
      aA pg (aB 43 SL) (dr w) λi7 w_=>w_=(dr w)/\
      aA pg (cQ i7) (dr w) λi8 w_=>w_=(dr w)/\
      aA pg (aD 99 i8 0) (dr w) λi9 w_=>w_=(dr w)/\
      aA pg (aB 34 i9) (dr w) λj0 w_=>w_=(dr w)/\
      aA pg (Pn (.func 42) [j0] []) (dr w) λj1 w_=>w_=(dr w)/\
      aA pg (bB 151 2 [(0,i6),(1,j1)]) (dr w) λj2 aGw=>
      (aP pg (aB 43 SL) i5 aGw/\True)/\
      aG pg AY #[j2] aGw λj3 aoZ=>
      (aP pg (aB 43 SL) i5 aoZ/\True)/\
      aA pg (cQ i5) aoZ λj4 w_=>w_=aoZ/\
      aA pg (aD 99 j4 7) aoZ λj5 w_=>w_=aoZ/\
      aA pg (aF 31 j5 j3) aoZ λ_u11 zR=>
      aA pg (aB 43 SL) (dr zR) λj6 w_=>w_=(dr zR)/\
      aA pg (aB 43 SL) (dr zR) λj7 w_=>w_=(dr zR)/\
      aA pg (cQ j7) (dr zR) λj8 w_=>w_=(dr zR)/\
      aA pg (aD 99 j8 7) (dr zR) λj9 w_=>w_=(dr zR)/\
      aA pg (aB 31 j9) (dr zR) λl0 w_=>w_=(dr zR)/\
      aA pg (aE .eql 31 (.tmp 70) (.const (aL2 0)) l0 (aL2 0)) (dr zR) λl1 w_=>w_=(dr zR)/\
      aA pg (cQ j6) (dr zR) λl2 w_=>w_=(dr zR)/\
      aA pg (aD 99 l2 6) (dr zR) λl3 w_=>w_=(dr zR)/\
      aA pg (aF 4 l3 l1) (dr zR) λ_u8 aIg=>
      aA pg (aB 43 SL) aIg λl4 w=>
      aA pg (cQ l4) w λl5 w=>
      aA pg (aD 99 l5 7) w λl6 w=>
      aA pg (aB 31 l6) w λl7 w=>
      R l7 w)))))
def Jv a0 w(R:K1):=
 DV R a0 w
theorem MW{a0 w R}(h:Jv a0 w R):aG pg gK #[a0] w R:=
 jX (ann:=Nd) Tryz.f13 L2 [a0] Qc 78 TryzM.mixed Tryz.func13 (kL h dE)
def Vi:FA:=⟨gV,λi=> .leaf ([],[]) []⟩
def Yn:List ResultVar:=[.tmp 4,.tmp 5]
noncomputable def TH:Code:=bA Tryz.f14
def Kb(R:K1) fI cV w:=
 aG pg mC #[fI] w λc0 w=>
 aA pg (aE .neq 31 (.tmp 11) (.const (aL2 0)) c0 (aL2 0)) w λc2 w=>
 cS c2
  (R (.tuple #[(.slice none 0 0),c0]) w)
  (aA pg (cQ fI) w λc6 w=>
  aA pg (aD 76 c6 2) w λc7 w=>
  aA pg (aB 73 c7) w λc8 w=>
  aA pg (Dp 73 c8 cV true) w λd0 w=>
  aA pg (aQ d0 0) w λd1 w=>
  aA pg (aQ d0 1) w λd2 w=>
  aA pg (G2 .not d2) w λd4 w=>
  cS d4
   (R (.tuple #[(.slice none 0 0),(aL2 21)]) w)
   (aG pg fN #[d1] w λd6 w=>
   R (.tuple #[d6,(aL2 0)]) w))
def Q2 a0 a1 w(R:K1):=
 Kb R a0 a1 w
theorem TO{a0 a1 w R}(h:Q2 a0 a1 w R):aG pg gV #[a0,a1] w R:=
 jX (ann:=Vi) Tryz.f14 TH [a0,a1] Yn 27 TryzM.mixed Tryz.func14 (kL h dE)
def Pz:FA:=⟨kI,λi=> .leaf ([],[]) []⟩
def SH:List ResultVar:=[.tmp 2]
noncomputable def No:Code:=bA Tryz.f15
def Gb(R:K1) fB w:=
 aA pg (aE .eql 43 (.tmp 3) (.const (.pointer none)) fB (.pointer none)) w λb4 w=>
 cS b4
  (R (.int .u64 0) w)
  (aA pg (cQ fB) w λb6 w=>
  aA pg (aD 99 b6 3) w λb7 w=>
  aA pg (aB 26 b7) w λb8 w=>
  R b8 w)
def KB a0 w(R:K1):=
 Gb R a0 w
theorem OK{a0 w R}(h:KB a0 w R):aG pg kI #[a0] w R:=
 jX (ann:=Pz) Tryz.f15 No [a0] SH 9 TryzM.mixed Tryz.func15 (kL h dE)
def QJ:FA:=⟨lF,λi=> .leaf ([],[]) []⟩
def T8:List ResultVar:=[.tmp 2]
noncomputable def PI:Code:=bA Tryz.f16
def G6 (R:K1) fB w:=
 aA pg (aE .neq 43 (.tmp 3) (.const (.pointer none)) fB (.pointer none)) w λb4 w=>
 Gd (bG b4 true) (λK=>K fB w) w λb6 w=>
 Gd (bG b4 true) (λK=>aA pg (cQ b6) w K) w λb7 w=>
 Gd (bG b4 true) (λK=>aA pg (aD 99 b7 6) w K) w λb8 w=>
 Gd (bG b4 true) (λK=>aA pg (aB 4 b8) w K) w λb9 w=>
 aA pg (cH b4 b9 (.bool false)) w λc0 w=>
 R c0 w
def MX a0 w(R:K1):=
 G6 R a0 w
theorem Qq{a0 w R}(h:MX a0 w R):aG pg lF #[a0] w R:=
 jX (ann:=QJ) Tryz.f16 PI [a0] T8 11 TryzM.mixed Tryz.func16 (kL h dE)
def QK:FA:=⟨pD,λi=> .leaf ([],[]) []⟩
def T9:List ResultVar:=[.tmp 2]
noncomputable def PJ:Code:=bA Tryz.f17
def G7 (R:K1) fB w:=
 aA pg (aE .eql 43 (.tmp 3) (.const (.pointer none)) fB (.pointer none)) w λb4 w=>
 cS b4
  (R (.slice none 0 0) w)
  (aA pg (cQ fB) w λb6 w=>
  aA pg (aD 99 b6 4) w λb7 w=>
  aA pg (aB 45 b7) w λb8 w=>
  aG pg nV #[b8] w λb9 w=>
  R b9 w)
def MY a0 w(R:K1):=
 G7 R a0 w
theorem Qr{a0 w R}(h:MY a0 w R):aG pg pD #[a0] w R:=
 jX (ann:=QK) Tryz.f17 PJ [a0] T9 10 TryzM.mixed Tryz.func17 (kL h dE)
def acB:FA:=⟨vV,λi=> .leaf ([],[]) []⟩
def ajP:List ResultVar:=[.tmp 4,.tmp 5]
noncomputable def Y3:Code:=bA Tryz.f18
def sJ(R:K1) n_6 w:=
 aA pg (aE .gtr 26 aN aN n_6 (.int .u64 1024)) w λd5 w=>
 cS d5
  (R (.tuple #[(aL2 0),(aL2 12)]) w)
  (aA pg (cP 26 3 n_6) w λd7 w=>
  R (.tuple #[d7,(aL2 0)]) w)
def QN(kn:K1)(R:K1) mN dA w:=
 aA pg (aE .lss 3 aN aN dA (aL2 1)) w λb8 w=>
 Gd (bG b8 false) (λK=>K dA w) w λc0 w=>
 Gd (bG b8 false) (λK=>aA pg (aE .gtr 3 aN aN c0 (aL2 65536)) w K) w λc1 w=>
 aA pg (cH b8 (.bool true) c1) w λc2 w=>
 cS c2
  (R (.tuple #[(aL2 0),(aL2 1)]) w)
  (aA pg (cP 3 26 dA) w λc5 w=>
  aA pg (aE .quo 26 aN aN mN c5) w λc6 w=>
  aA pg (cP 3 26 dA) w λc9 w=>
  aA pg (aE .rem 26 aN aN mN c9) w λd0 w=>
  aA pg (aE .gtr 26 aN aN d0 (.int .u64 0)) w λd1 w=>
  cS d1
   (aA pg (aE .add 26 aN aN c6 (.int .u64 1)) w λd3 w=>
   kn d3 w)
   (kn c6 w))
def QO(R:K1) mN dA w:=
 QN (sJ R) R mN dA w
def aaK a0 a1 w(R:K1):=
 QO R a0 a1 w
theorem Y0 {a0 a1 w R}(h:aaK a0 a1 w R):aG pg vV #[a0,a1] w R:=
 jX (ann:=acB) Tryz.f18 Y3 [a0,a1] ajP 28 TryzM.mixed Tryz.func18 (dN 4 (Up (Mq1 (sJ R) 6) h (λg w h=>aJ (kL h dE)) dE))
def agJ:FA:=⟨qK,λi=> .leaf ([],[]) []⟩
def amJ:List ResultVar:=[.tmp 6,.tmp 7,.tmp 8]
noncomputable def acN:Code:=bA Tryz.f19
def Ul(R:K1) mN dA Ur w:=
 aG pg vV #[mN,dA] w λc5 w=>
 aA pg (aQ c5 0) w λc6 w=>
 aA pg (aQ c5 1) w λc7 w=>
 aA pg (aE .neq 31 (.tmp 19) (.const (aL2 0)) c7 (aL2 0)) w λd0 w=>
 cS d0
  (R (.tuple #[(.int .u64 0),(aL2 0),c7]) w)
  (aA pg (aE .lss 3 aN aN Ur (aL2 0)) w λd4 w=>
  Gd (bG d4 false) (λK=>K Ur w) w λd6 w=>
  Gd (bG d4 false) (λK=>K c6 w) w λd7 w=>
  Gd (bG d4 false) (λK=>aA pg (aE .geq 3 aN aN d6 d7) w K) w λd8 w=>
  aA pg (cH d4 (.bool true) d8) w λd9 w=>
  cS d9
   (R (.tuple #[(.int .u64 0),(aL2 0),(aL2 17)]) w)
   (aA pg (cP 3 26 dA) w λe1 w=>
   aA pg (cP 3 26 Ur) w λe3 w=>
   aA pg (aE .mul 26 aN aN e1 e3) w λe4 w=>
   aA pg (aE .sub 26 aN aN mN e4) w λe8 w=>
   aA pg (cP 3 26 dA) w λf0 w=>
   aA pg (eK .min #[26,26] 26 [e8,f0]) w λf1 w=>
   aA pg (cP 26 3 f1) w λf2 w=>
   R (.tuple #[e4,f2,(aL2 0)]) w))
def agU a0 a1 a2 w(R:K1):=
 Ul R a0 a1 a2 w
theorem acM{a0 a1 a2 w R}(h:agU a0 a1 a2 w R):aG pg qK #[a0,a1,a2] w R:=
 jX (ann:=agJ) Tryz.f19 acN [a0,a1,a2] amJ 43 TryzM.mixed Tryz.func19 (kL h dE)
def acG:FA:=⟨AS,λi=> .leaf ([],[]) []⟩
def ajV:List ResultVar:=[.cell 2 70]
noncomputable def Y7:Code:=bA Tryz.f20
def RP(R:K1) Ef w:=
 aA pg (bE 70) w λb2 w=>
 aA pg (bB 22 1 [(0,(.int .u8 0))]) w λb3 w=>
 aA pg (eK .append #[22,22] 22 [b3,Ef]) w λb5 w=>
 aG pg Qw #[b5] w λb6 w=>
 aA pg (aF 70 b2 b6) w λ_u w=>
 lO pg 70 b2 w λr0=>R r0 w
def abA a0 w(R:K1):=
 RP R a0 w
theorem Zv{a0 w R}(h:abA a0 w R):aG pg AS #[a0] w R:=
 jX (ann:=acG) Tryz.f20 Y7 [a0] ajV 7 TryzM.mixed Tryz.func20 (kL h dE)
def mF:FA:=⟨fM,λi=>match Nat.beq i 44 with|true=> .leaf ([11],[]) (fz 11 (ft [] []))|false=>match Nat.beq i 48 with|true=> .leaf ([2,3],[(1,2)]) (fz 2 (ft [0] (ft [] (fz 1 []))))|false=> .leaf ([],[]) []⟩
def U4:List ResultVar:=[.cell 6 40,.cell 7 47,.tmp 8]
noncomputable def kK:Code:=bA Tryz.f21
def Fv(R:K1) qE b6 b7 fQ w:=
 aA pg (aB 40 qE) w λt216 w=>
 aG pg qN #[t216] w λt217 w=>
 aA pg (aQ t217 0) w λt218 w=>
 aA pg (aQ t217 1) w λt219 w=>
 aA pg (aF 40 qE t218) w λ_u w=>
 aA pg (aE .neq 31 (.tmp 220) (.const (aL2 0)) t219 (aL2 0)) w λt221 w=>
 cS t221
  (aA pg (aB 40 qE) w λt222 w=>
  aA pg (bV 47 []) w λt223 w=>
  aA pg (aF 40 b6 t222) w λ_u w=>
  aA pg (aF 47 b7 t223) w λ_u w=>
  lO pg 40 b6 w λr0=>lO pg 47 b7 w λr1=>R (.tuple #[r0,r1,t219]) w)
  (aA pg (aB 40 qE) (dr w) λt225 w_=>w_=(dr w)/\
  aA pg (aB 47 fQ) (dr w) λt226 w_=>w_=(dr w)/\
  aA pg (aF 40 b6 t225) (dr w) λ_u2 aGz=>
  (aP pg (aB 47 fQ) t226 aGz/\True)/\
  aA pg (aF 47 b7 t226) aGz λ_u3 awV=>
  awV=awV/\
  lO pg 40 b6 awV λr0=>lO pg 47 b7 awV λr1=>R (.tuple #[r0,r1,(aL2 0)]) awV)
def Lx(kn:K8) qE b6 b7 De fQ iK vU tK w:=
 aA pg (aE .add 3 aN aN tK (aL2 1)) w λy8 w=>
 kn qE b6 b7 De fQ iK vU y8 w
def Ly(kn:K8) qE b6 b7 De fQ iK vU tK d2 w:=
 aA pg (aD 47 fQ 3) (dr w) λt204 w_=>w_=(dr w)/\
 aA pg (aB 45 t204) (dr w) λt205 w_=>w_=(dr w)/\
 (dr w)=(dr w)/\
 (dr w)=(dr w)/\
 (dr w)=(dr w)/\
 Gd (bG d2 true) (λK=>K vU (dr w)) (dr w) λt209 w_=>w_=(dr w)/\
 Gd (bG d2 true) (λK=>K tK (dr w)) (dr w) λt210 w_=>w_=(dr w)/\
 Gd (bG d2 true) (λK=>aA pg (aR 45 t209 t210) (dr w) K) (dr w) λt211 w_=>w_=(dr w)/\
 Gd (bG d2 true) (λK=>aA pg (aB 4 t211) (dr w) K) (dr w) λt212 w_=>w_=(dr w)/\
 aA pg (cH d2 t212 (.bool false)) (dr w) λt213 w_=>w_=(dr w)/\
 aA pg (aR 45 t205 tK) (dr w) λt214 w_=>w_=(dr w)/\
 aA pg (aF 4 t214 t213) (dr w) λ_u11 aHw=>
 kn qE b6 b7 De fQ iK vU tK aHw
def Lz(kn:K10)(k4:K9) qE b6 b7 De fQ iK vU tK d2 acX w:=
 aA pg (eK .len #[120] 3 [iK]) w λz1 w=>
 aA pg (aE .lss 3 aN aN acX z1) w λz2 w=>
 cS z2
  (Gd (bG d2 false) (λK=>K iK w) w λz7 w=>
  Gd (bG d2 false) (λK=>K acX w) w λz8 w=>
  Gd (bG d2 false) (λK=>aA pg (aR 120 z7 z8) w K) w λz9 w=>
  Gd (bG d2 false) (λK=>aA pg (aD 123 z9 0) w K) w λt190 w=>
  Gd (bG d2 false) (λK=>aA pg (aB 5 t190) w K) w λt191 w=>
  Gd (bG d2 false) (λK=>aA pg (aE .eql 5 (.tmp 191) (.const (.int .u8 2)) t191 (.int .u8 2)) w K) w λt192 w=>
  Gd (bG d2 false) (λK=>K t192 w) w λt193 w=>
  Gd (bG t193 true) (λK=>K iK w) w λt194 w=>
  Gd (bG t193 true) (λK=>K acX w) w λt195 w=>
  Gd (bG t193 true) (λK=>aA pg (aR 120 t194 t195) w K) w λt196 w=>
  Gd (bG t193 true) (λK=>aA pg (aD 123 t196 1) w K) w λt197 w=>
  Gd (bG t193 true) (λK=>aA pg (aB 26 t197) w K) w λt198 w=>
  Gd (bG t193 true) (λK=>K tK w) w λt199 w=>
  Gd (bG t193 true) (λK=>aA pg (cP 3 26 t199) w K) w λt200 w=>
  Gd (bG t193 true) (λK=>aA pg (aE .eql 26 (.tmp 198) (.tmp 200) t198 t200) w K) w λt201 w=>
  Gd (bG d2 false) (λK=>aA pg (cH t193 t201 (.bool false)) w K) w λt202 w=>
  aA pg (cH d2 (.bool true) t202) w λt203 w=>
  aA pg (aE .add 3 aN aN acX (aL2 1)) w λz4 w=>
  kn qE b6 b7 De fQ iK vU tK t203 z4 w)
  (k4 qE b6 b7 De fQ iK vU tK d2 w)
def vZ(k4:K9) qE b6 b7 De fQ iK vU tK d2 acX w:=
 bM (λ(X:(aL1×aL1)->K0) (t:aL1×aL1) (w:aL0)=>Lz (λ_ _ _ _ _ _ _ _ d2 acX w=>X (d2,acX) w) k4 qE b6 b7 De fQ iK vU tK t.1 t.2 w) (d2,acX) w
theorem ZW(k4:K9)(h4:E9 Q k4 4 3 6 7 9 11 16 20 21 22)(h:vZ k4 (g 3) (g 6) (g 7) (g 9) (g 11) (g 16) (g 20) (g 21) (g 22) (g 23) w):dM pg mF (bI (aO 1 (bL 1 (aO 1 (bI (bL 1 (aO 1 (bI (bI (aO 4 (cT (aO 1 (bL 1 (aO 4 (aO 1 (aO 15 kK)))))))))))))))) Q g w:=by
 refine Fl (λg:Env=>(g 22,g 23)) (λX t w=>Lz (λ_ _ _ _ _ _ _ _ d2 acX w=>X (d2,acX) w) k4 (g 3) (g 6) (g 7) (g 9) (g 11) (g 16) (g 20) (g 21) t.1 t.2 w) h (λX g1 w1 ha hL=> ?_)
 rw[<-fC 3 ha,<-fC 6 ha,<-fC 7 ha,<-fC 9 ha,<-fC 11 ha,<-fC 16 ha,<-fC 20 ha,<-fC 21 ha]at hL
 exact(El [(4,(Mq9 k4 3 6 7 9 11 16 20 21 22))] (kr:=no) (aHJ (λ_ _ _ _ _ _ _ _ d2 acX w=>X (d2,acX) w) 3 6 7 9 11 16 20 21 22 23) hL dE JO ⟨h4,trivial⟩)
def UZ(kn:K10) qE b6 b7 De fQ iK vU tK d2 w:=
 kn qE b6 b7 De fQ iK vU tK d2 (aL2 0) w
def LA(kn:K9) qE b6 b7 De fQ iK vU tK d2 w:=
 UZ (vZ kn) qE b6 b7 De fQ iK vU tK d2 w
def LB(kn:K8) qE b6 b7 De fQ iK vU tK d2 w:=
 LA (Ly kn) qE b6 b7 De fQ iK vU tK d2 w
theorem ZX(kn:K9)(hn:N9 Q kn 3 6 7 9 11 16 20 21 22)(h:LA kn (g 3) (g 6) (g 7) (g 9) (g 11) (g 16) (g 20) (g 21) (g 22) w):dM pg mF (bL 1 (aO 1 (bI (bL 1 (aO 1 (bI (bI (aO 4 (cT (aO 1 (bL 1 (aO 4 (aO 1 (aO 15 kK)))))))))))))) Q g w:=
 dN 1 (iS (aHJ (vZ kn) 3 6 7 9 11 16 20 21 22 23) h (λg w h=>aJ (BK 4 (ZW _ g w kn hn h))))
def Sp(kn:K9) qE b6 b7 De fQ iK vU tK w:=
 kn qE b6 b7 De fQ iK vU tK (.bool false) w
def I7 (kn:K8) qE b6 b7 De fQ iK vU tK w:=
 Sp (LB kn) qE b6 b7 De fQ iK vU tK w
def I8 (kn:K8) qE b6 b7 De fQ iK vU tK w:=
 I7 (Lx kn) qE b6 b7 De fQ iK vU tK w
theorem XZ(kn:K8)(hn:N8 Q kn 3 6 7 9 11 16 20 21)(h:I7 kn (g 3) (g 6) (g 7) (g 9) (g 11) (g 16) (g 20) (g 21) w):dM pg mF (bL 1 (aO 1 (bI (bI (aO 4 (cT (aO 1 (bL 1 (aO 4 (aO 1 (aO 15 kK))))))))))) Q g w:=
 BK 3 (dN 1 (iS (Mq9 (LB kn) 3 6 7 9 11 16 20 21 22) h (λg w h=>aJ (dN 1 (ZX _ g w (Ly kn) (λg w h=>aJ (iS _ h hn)) h)))))
def I9 (kn:K8)(k2:K4) qE b6 b7 De fQ iK vU tK w:=
 aA pg (aE .lss 3 aN aN tK De) w λy6 w=>
 cS y6
  (kn qE b6 b7 De fQ iK vU tK w)
  (k2 qE b6 b7 fQ w)
def Dm(kn:K8)(k2:K4) qE b6 b7 De fQ iK vU tK w:=
 I9 (I8 kn) k2 qE b6 b7 De fQ iK vU tK w
def pH(k2:K4) qE b6 b7 De fQ iK vU tK w:=
 bM (λ(X:aL1->K0) (t:aL1) (w:aL0)=>Dm (λ_ _ _ _ _ _ _ tK w=>X tK w) k2 qE b6 b7 De fQ iK vU t w) tK w
theorem X0 (k2:K4)(h2:E4 Q k2 2 3 6 7 11)(h:pH k2 (g 3) (g 6) (g 7) (g 9) (g 11) (g 16) (g 20) (g 21) w):dM pg mF (bI (aO 4 (cT (aO 1 (bL 1 (aO 4 (aO 1 (aO 15 kK)))))))) Q g w:=by
 refine Fl (λg:Env=>g 21) (λX t w=>Dm (λ_ _ _ _ _ _ _ tK w=>X tK w) k2 (g 3) (g 6) (g 7) (g 9) (g 11) (g 16) (g 20) t w) h (λX g1 w1 ha hL=> ?_)
 rw[<-fC 3 ha,<-fC 6 ha,<-fC 7 ha,<-fC 9 ha,<-fC 11 ha,<-fC 16 ha,<-fC 20 ha]at hL
 exact(dN 1 (El [(2,(CN k2 3 6 7 11))] (kr:=no) (Mq8 (I8 (λ_ _ _ _ _ _ _ tK w=>X tK w)) 3 6 7 9 11 16 20 21) hL (λg w h=>aJ (dN 1 (XZ _ g w (Lx (λ_ _ _ _ _ _ _ tK w=>X tK w)) (λg w h=>aJ (iS (Mq8 (λ_ _ _ _ _ _ _ tK w=>X tK w) 3 6 7 9 11 16 20 21) h dE)) h))) JO ⟨h2,trivial⟩))
def Sq(kn:K8)(R:K1) qE IN b6 b7 De fQ iK w:=
 aA pg (aB 40 qE) w λx0 w=>
 aA pg (aB 47 fQ) w λx1 w=>
 aG pg CH #[x0,x1] w λx2 w=>
 aA pg (aQ x2 0) w λx3 w=>
 aA pg (aQ x2 1) w λx4 w=>
 aA pg (aQ x2 2) w λx5 w=>
 aA pg (aF 40 qE x3) w λ_u w=>
 aA pg (aE .neq 31 (.tmp 166) (.const (aL2 0)) x5 (aL2 0)) w λx7 w=>
 cS x7
  (aA pg (aB 40 qE) w λx8 w=>
  aA pg (bV 47 []) w λx9 w=>
  aA pg (aF 40 b6 x8) w λ_u w=>
  aA pg (aF 47 b7 x9) w λ_u w=>
  lO pg 40 b6 w λr0=>lO pg 47 b7 w λr1=>R (.tuple #[r0,r1,x5]) w)
  (aA pg (aB 44 IN) w λy1 w=>
  aG pg sI #[y1,x4] w λy3 w=>
  kn qE b6 b7 De fQ iK y3 (aL2 0) w)
def Sr(kn:K4)(R:K1) qE IN b6 b7 De fQ iK w:=
 Sq (pH kn) R qE IN b6 b7 De fQ iK w
def Ss(kn:K4) qE b6 b7 fQ w:=
 kn qE b6 b7 fQ w
def Ja(kn:K4)(R:K1) qE IN b6 b7 De fQ iK v8 w:=
 cS v8 (Sr kn R qE IN b6 b7 De fQ iK w) (Ss kn qE b6 b7 fQ w)
def St(kn:K8) qE IN b6 b7 De fQ iK w:=
 aA pg (aD 47 fQ 5) w λv6 w=>
 aA pg (aB 4 v6) w λv7 w=>
 aA pg (G2 .not v7) w λv8 w=>
 kn qE IN b6 b7 De fQ iK v8 w
def Jb(kn:K4)(R:K1) qE IN b6 b7 De fQ iK w:=
 St (Ja kn R) qE IN b6 b7 De fQ iK w
def Dn(R:K1) qE IN b6 b7 De fQ iK w:=
 Jb (Fv R) R qE IN b6 b7 De fQ iK w
theorem X3 (kn:K4)(R:K1)(hn:N4 Q kn 3 6 7 11)(hr:HR U4 R Q)(h:Jb kn R (g 3) (g 5) (g 6) (g 7) (g 9) (g 11) (g 16) w):dM pg mF (bL 1 (aO 4 (aO 1 (aO 15 kK)))) Q g w:=
 dN 1 (iS (Mq8 (Ja kn R) 3 5 6 7 9 11 16 158) h (λg w h=>aJ (cdD (.tmp 158) (λh=>(dN 4 (Up (Mq8 (pH kn) 3 6 7 9 11 16 20 21) h (λg w h=>aJ (BK 2 (X0 _ g w kn hn h))) hr))) (λh=>(iS _ h hn)) h)))
def Su(kn:K7)(R:K1) qE IN b6 b7 De fQ iK gJ w:=
 aA pg (aE .eql 26 (.tmp 134) (.const (.int .u64 18446744073709551615)) gJ (.int .u64 18446744073709551615)) w λs5 w=>
 cS s5
  (aA pg (aB 40 qE) w λs6 w=>
  aA pg (bV 47 []) w λs7 w=>
  aA pg (aF 40 b6 s6) w λ_u w=>
  aA pg (aF 47 b7 s7) w λ_u w=>
  lO pg 40 b6 w λr0=>lO pg 47 b7 w λr1=>R (.tuple #[r0,r1,(aL2 23)]) w)
  (aA pg (aE .add 26 aN aN gJ (.int .u64 1)) w λs9 w=>
  aA pg (aD 47 fQ 2) w λu0 w=>
  aA pg (aF 26 u0 s9) w λ_u w=>
  aA pg (aB 40 qE) w λu2 w=>
  aA pg (aB 47 fQ) w λu3 w=>
  aA pg (aD 47 fQ 2) w λu4 w=>
  aA pg (aB 26 u4) w λu5 w=>
  aA pg (bV 123 [(0,(.int .u8 1)),(1,u5)]) w λu6 w=>
  aG pg yB #[u2,u3,u6] w λu7 w=>
  aA pg (aQ u7 0) w λu8 w=>
  aA pg (aQ u7 1) w λu9 w=>
  aA pg (aQ u7 2) w λv0 w=>
  aA pg (aF 40 qE u8) w λ_u w=>
  aA pg (aF 47 fQ u9) w λ_u w=>
  aA pg (aE .neq 31 (.tmp 151) (.const (aL2 0)) v0 (aL2 0)) w λv2 w=>
  cS v2
   (aA pg (aB 40 qE) w λv3 w=>
   aA pg (bV 47 []) w λv4 w=>
   aA pg (aF 40 b6 v3) w λ_u w=>
   aA pg (aF 47 b7 v4) w λ_u w=>
   lO pg 40 b6 w λr0=>lO pg 47 b7 w λr1=>R (.tuple #[r0,r1,v0]) w)
   (kn qE IN b6 b7 De fQ iK w))
def Jc(R:K1) qE IN b6 b7 De fQ iK gJ w:=
 Su (Dn R) R qE IN b6 b7 De fQ iK gJ w
def Jd(kn:K9) qE IN b6 b7 De fQ iK gJ Mf w:=
 aA pg (aE .add 3 aN aN Mf (aL2 1)) w λp3 w=>
 kn qE IN b6 b7 De fQ iK gJ p3 w
def Sv(kn:K9)(k0:K8) qE IN b6 b7 De fQ iK gJ Mf w:=
 aA pg (eK .len #[120] 3 [iK]) w λp0 w=>
 aA pg (aE .lss 3 aN aN Mf p0) w λp1 w=>
 cS p1
  (aA pg (aR 120 iK Mf) w λp6 w=>
  aA pg (aD 123 p6 0) w λp7 w=>
  aA pg (aB 5 p7) w λp8 w=>
  aA pg (aE .eql 5 (.tmp 118) (.const (.int .u8 1)) p8 (.int .u8 1)) w λp9 w=>
  Gd (bG p9 true) (λK=>K iK w) w λq1 w=>
  Gd (bG p9 true) (λK=>K Mf w) w λq2 w=>
  Gd (bG p9 true) (λK=>aA pg (aR 120 q1 q2) w K) w λq3 w=>
  Gd (bG p9 true) (λK=>aA pg (aD 123 q3 1) w K) w λq4 w=>
  Gd (bG p9 true) (λK=>aA pg (aB 26 q4) w K) w λq5 w=>
  Gd (bG p9 true) (λK=>K gJ w) w λq6 w=>
  Gd (bG p9 true) (λK=>aA pg (aE .gtr 26 aN aN q5 q6) w K) w λq7 w=>
  aA pg (cH p9 q7 (.bool false)) w λq8 w=>
  cS q8
   (aA pg (aR 120 iK Mf) w λs1 w=>
   aA pg (aD 123 s1 1) w λs2 w=>
   aA pg (aB 26 s2) w λs3 w=>
   kn qE IN b6 b7 De fQ iK s3 Mf w)
   (kn qE IN b6 b7 De fQ iK gJ Mf w))
  (k0 qE IN b6 b7 De fQ iK gJ w)
def Je(kn:K9)(k0:K8) qE IN b6 b7 De fQ iK gJ Mf w:=
 Sv (Jd kn) k0 qE IN b6 b7 De fQ iK gJ Mf w
def sZ(k0:K8) qE IN b6 b7 De fQ iK gJ Mf w:=
 bM (λ(X:(aL1×aL1)->K0) (t:aL1×aL1) (w:aL0)=>Je (λ_ _ _ _ _ _ _ gJ Mf w=>X (gJ,Mf) w) k0 qE IN b6 b7 De fQ iK t.1 t.2 w) (gJ,Mf) w
theorem X4 (k0:K8)(h0:E8 Q k0 0 3 5 6 7 9 11 16 18)(h:sZ k0 (g 3) (g 5) (g 6) (g 7) (g 9) (g 11) (g 16) (g 18) (g 19) w):dM pg mF (bI (aO 1 (bL 1 (aO 15 kK)))) Q g w:=by
 refine Fl (λg:Env=>(g 18,g 19)) (λX t w=>Je (λ_ _ _ _ _ _ _ gJ Mf w=>X (gJ,Mf) w) k0 (g 3) (g 5) (g 6) (g 7) (g 9) (g 11) (g 16) t.1 t.2 w) h (λX g1 w1 ha hL=> ?_)
 rw[<-fC 3 ha,<-fC 5 ha,<-fC 6 ha,<-fC 7 ha,<-fC 9 ha,<-fC 11 ha,<-fC 16 ha]at hL
 exact(dN 2 (El [(0,(Mq8 k0 3 5 6 7 9 11 16 18))] (kr:=no) (Mq9 (Jd (λ_ _ _ _ _ _ _ gJ Mf w=>X (gJ,Mf) w)) 3 5 6 7 9 11 16 18 19) hL (λg w h=>aJ (iS (Mq9 (λ_ _ _ _ _ _ _ gJ Mf w=>X (gJ,Mf) w) 3 5 6 7 9 11 16 18 19) h dE)) JO ⟨h0,trivial⟩))
def Sw(kn:K9) qE IN b6 b7 De fQ iK gJ w:=
 kn qE IN b6 b7 De fQ iK gJ (aL2 0) w
def Jf(kn:K8) qE IN b6 b7 De fQ iK gJ w:=
 Sw (sZ kn) qE IN b6 b7 De fQ iK gJ w
def Jg(R:K1) qE IN b6 b7 De fQ iK gJ w:=
 Jf (Jc R) qE IN b6 b7 De fQ iK gJ w
theorem X5 (kn:K8)(hn:N8 Q kn 3 5 6 7 9 11 16 18)(h:Jf kn (g 3) (g 5) (g 6) (g 7) (g 9) (g 11) (g 16) (g 18) w):dM pg mF (bL 1 (aO 15 kK)) Q g w:=
 dN 1 (iS (Mq9 (sZ kn) 3 5 6 7 9 11 16 18 19) h (λg w h=>aJ (BK 0 (X4 _ g w kn hn h))))
def Sx(kn:K8)(R:K1) fI cV M6 w:=
 aA pg (jK 40 fI) w λqE w=>
 aA pg (jK 44 M6) w λIN w=>
 aA pg (bE 40) w λb6 w=>
 aA pg (bE 47) w λb7 w=>
 aA pg (aE .eql 9 (.tmp 24) (.const (.string ⟨#[]⟩)) cV (.string ⟨#[]⟩)) w λd5 w=>
 Gd (bG d5 false) (λK=>K cV w) w λd7 w=>
 Gd (bG d5 false) (λK=>aA pg (eK .len #[9] 3 [d7]) w K) w λd8 w=>
 Gd (bG d5 false) (λK=>aA pg (aE .gtr 3 aN aN d8 (aL2 27)) w K) w λd9 w=>
 aA pg (cH d5 (.bool true) d9) w λe0 w=>
 cS e0
  (aA pg (aB 40 qE) w λe1 w=>
  aA pg (bV 47 []) w λe2 w=>
  aA pg (aF 40 b6 e1) w λ_u w=>
  aA pg (aF 47 b7 e2) w λ_u w=>
  lO pg 40 b6 w λr0=>lO pg 47 b7 w λr1=>R (.tuple #[r0,r1,(aL2 1)]) w)
  (aA pg (aD 44 IN 0) w λe4 w=>
  aA pg (aB 26 e4) w λe5 w=>
  aA pg (aD 44 IN 1) w λe6 w=>
  aA pg (aB 27 e6) w λe7 w=>
  aA pg (cP 27 3 e7) w λe8 w=>
  aG pg AT #[e5,e8] w λe9 w=>
  aA pg (aQ e9 0) w λf0 w=>
  aA pg (aQ e9 1) w λf1 w=>
  aA pg (aE .neq 31 (.tmp 42) (.const (aL2 0)) f1 (aL2 0)) w λf3 w=>
  cS f3
   (aA pg (aB 40 qE) w λf4 w=>
   aA pg (bV 47 []) w λf5 w=>
   aA pg (aF 40 b6 f4) w λ_u w=>
   aA pg (aF 47 b7 f5) w λ_u w=>
   lO pg 40 b6 w λr0=>lO pg 47 b7 w λr1=>R (.tuple #[r0,r1,f1]) w)
   (aA pg (aD 44 IN 2) w λf8 w=>
   aA pg (aB 28 f8) w λf9 w=>
   aA pg (eK .len #[28] 3 [f9]) w λi0 w=>
   aA pg (aE .neq 3 (.tmp 47) (.tmp 50) f0 i0) w λi1 w=>
   cS i1
    (aA pg (aB 40 qE) w λi2 w=>
    aA pg (bV 47 []) w λi3 w=>
    aA pg (aF 40 b6 i2) w λ_u w=>
    aA pg (aF 47 b7 i3) w λ_u w=>
    lO pg 40 b6 w λr0=>lO pg 47 b7 w λr1=>R (.tuple #[r0,r1,(aL2 11)]) w)
    (aA pg (aB 44 IN) w λi5 w=>
    aA pg (bV 47 [(0,cV),(1,i5)]) w λi6 w=>
    aA pg (bE 47) w λfQ w=>
    aA pg (aF 47 fQ i6) w λ_u w=>
    aA pg (aB 40 qE) w λi8 w=>
    aG pg tX #[i8,cV] w λj0 w=>
    aA pg (aQ j0 0) w λj1 w=>
    aA pg (aQ j0 1) w λj2 w=>
    aA pg (aQ j0 2) w λj3 w=>
    aA pg (aE .neq 31 (.tmp 64) (.const (aL2 0)) j3 (aL2 0)) w λj5 w=>
    cS j5
     (aA pg (aB 40 qE) w λj6 w=>
     aA pg (bV 47 []) w λj7 w=>
     aA pg (aF 40 b6 j6) w λ_u w=>
     aA pg (aF 47 b7 j7) w λ_u w=>
     lO pg 40 b6 w λr0=>lO pg 47 b7 w λr1=>R (.tuple #[r0,r1,j3]) w)
     (aA pg (aB 44 IN) w λj9 w=>
     aG pg sI #[j9,j1] w λl1 w=>
     aA pg (aD 47 fQ 3) w λl2 w=>
     aA pg (aF 45 l2 l1) w λ_u w=>
     Gd (bG j2 true) (λK=>K j1 w) w λl5 w=>
     Gd (bG j2 true) (λK=>aA pg (eK .len #[9] 3 [l5]) w K) w λl6 w=>
     Gd (bG j2 true) (λK=>aA pg (cP 3 26 l6) w K) w λl7 w=>
     Gd (bG j2 true) (λK=>aA pg (aD 44 IN 0) w K) w λl8 w=>
     Gd (bG j2 true) (λK=>aA pg (aB 26 l8) w K) w λl9 w=>
     Gd (bG j2 true) (λK=>aA pg (aE .eql 26 (.tmp 77) (.tmp 79) l7 l9) w K) w λm0 w=>
     aA pg (cH j2 m0 (.bool false)) w λm1 w=>
     Gd (bG m1 true) (λK=>aA pg (aD 47 fQ 3) w K) w λm3 w=>
     Gd (bG m1 true) (λK=>aA pg (aB 45 m3) w K) w λm4 w=>
     Gd (bG m1 true) (λK=>aG pg Cd #[m4] w K) w λm5 w=>
     aA pg (cH m1 m5 (.bool false)) w λm6 w=>
     aA pg (aD 47 fQ 5) w λm7 w=>
     aA pg (aF 4 m7 m6) w λ_u w=>
     aA pg (aB 40 qE) w λm9 w=>
     aA pg (aE .add 9 aN aN cV (.string ⟨#[46,108,111,103]⟩)) w λn1 w=>
     aG pg tX #[m9,n1] w λn2 w=>
     aA pg (aQ n2 0) w λn3 w=>
     aA pg (aQ n2 1) w λn4 w=>
     aA pg (aQ n2 2) w λn5 w=>
     aA pg (aE .neq 31 (.tmp 96) (.const (aL2 0)) n5 (aL2 0)) w λn7 w=>
     cS n7
      (aA pg (aB 40 qE) w λn8 w=>
      aA pg (bV 47 []) w λn9 w=>
      aA pg (aF 40 b6 n8) w λ_u w=>
      aA pg (aF 47 b7 n9) w λ_u w=>
      lO pg 40 b6 w λr0=>lO pg 47 b7 w λr1=>R (.tuple #[r0,r1,n5]) w)
      (aG pg Hc #[n3] w λo3 w=>
      aA pg (aQ o3 0) w λo4 w=>
      aA pg (aQ o3 1) w λo5 w=>
      aA pg (aD 47 fQ 4) w λo7 w=>
      aA pg (aF 3 o7 o5) w λ_u w=>
      kn qE IN b6 b7 f0 fQ o4 (.int .u64 0) w)))))
def Sy(R:K1) fI cV M6 w:=
 Sx (Jg R) R fI cV M6 w
def ajD a0 a1 a2 w(R:K1):=
 Sy R a0 a1 a2 w
theorem aeN{a0 a1 a2 w R}(h:ajD a0 a1 a2 w R):aG pg fM #[a0,a1,a2] w R:=
 jX (ann:=mF) Tryz.f21 kK [a0,a1,a2] U4 227 TryzM.mixed Tryz.func21 (dN 15 (Up (Mq8 (Jg R) 3 5 6 7 9 11 16 18) h (λg w h=>aJ (dN 1 (X5 _ g w (Jc R) (λg w h=>aJ (dN 4 (Up (Mq7 (Dn R) 3 5 6 7 9 11 16) h (λg w h=>aJ (dN 1 (X3 _ g w (Fv R) R (λg w h=>aJ (kL h dE)) dE h))) dE))) h))) dE))
def Wj:FA:=⟨dK,λi=> .leaf ([],[]) []⟩
def Z3:List ResultVar:=[.cell 2 44]
noncomputable def Vr:Code:=bA Tryz.f22
def Mj(R:K1) m_0 w:=
 aA pg (jK 30 m_0) w λm_1 w=>
 aA pg (bE 44) w λb2 w=>
 aA pg (aD 30 m_1 0) w λb3 w=>
 aA pg (aB 26 b3) w λb4 w=>
 aA pg (aD 30 m_1 1) w λb5 w=>
 aA pg (aB 27 b5) w λb6 w=>
 aA pg (aD 30 m_1 2) w λb7 w=>
 aA pg (aB 28 b7) w λb8 w=>
 aA pg (bV 44 [(0,b4),(1,b6),(2,b8)]) w λb9 w=>
 aA pg (aF 44 b2 b9) w λ_u w=>
 lO pg 44 b2 w λr0=>R r0 w
def Uu a0 w(R:K1):=
 Mj R a0 w
theorem Vw{a0 w R}(h:Uu a0 w R):aG pg dK #[a0] w R:=
 jX (ann:=Wj) Tryz.f22 Vr [a0] Z3 10 TryzM.mixed Tryz.func22 (kL h dE)
def Ty:FA:=⟨wV,λi=> .leaf ([],[]) []⟩
def VK:List ResultVar:=[.tmp 2]
noncomputable def QQ:Code:=bA Tryz.f23
def Ij(R:K1) fI w:=
 aA pg (aE .eql 34 (.tmp 3) (.const (.pointer none)) fI (.pointer none)) w λb4 w=>
 cS b4
  (R (.slice none 0 0) w)
  (aA pg (cQ fI) w λb6 w=>
  aA pg (aD 76 b6 2) w λb7 w=>
  aA pg (aB 73 b7) w λb8 w=>
  aG pg zZ #[b8] w λb9 w=>
  aG pg qO #[b9] w λc0 w=>
  R c0 w)
def OS a0 w(R:K1):=
 Ij R a0 w
theorem Q1 {a0 w R}(h:OS a0 w R):aG pg wV #[a0] w R:=
 jX (ann:=Ty) Tryz.f23 QQ [a0] VK 11 TryzM.mixed Tryz.func23 (kL h dE)
def H0:FA:=⟨tW,λi=> .leaf ([],[]) []⟩
def amP:List ResultVar:=[.tmp 2]
noncomputable def Gp:Code:=bA Tryz.f24
def Ll(R:K1) l_3 w:=
 R l_3 w
def Lm(kn:K3)(k0:K1) QZ l_3 wG w:=
 aA pg (aD 40 QZ 2) w λb8 w=>
 aA pg (aB 38 b8) w λb9 w=>
 aA pg (eK .len #[38] 3 [b9]) w λc0 w=>
 aA pg (aE .lss 3 aN aN wG c0) w λc1 w=>
 cS c1
  (aA pg (aD 40 QZ 2) w λc5 w=>
  aA pg (aB 38 c5) w λc6 w=>
  aA pg (aR 38 c6 wG) w λc8 w=>
  aA pg (aB 96 c8) w λc9 w=>
  aG pg BG #[l_3,c9] w λd0 w=>
  aA pg (aE .add 3 aN aN wG (aL2 1)) w λc3 w=>
  kn QZ d0 c3 w)
  (k0 l_3 w)
def Fp(k0:K1) QZ l_3 wG w:=
 bM (λ(X:(aL1×aL1)->K0) (t:aL1×aL1) (w:aL0)=>Lm (λ_ l_3 wG w=>X (l_3,wG) w) k0 QZ t.1 t.2 w) (l_3,wG) w
theorem ZN(k0:K1)(h0:E1 Q k0 0 3)(h:Fp k0 (g 1) (g 3) (g 4) w):dM pg H0 (bI (aO 1 (bL 1 (aO 2 Gp)))) Q g w:=by
 refine Fl (λg:Env=>(g 3,g 4)) (λX t w=>Lm (λ_ l_3 wG w=>X (l_3,wG) w) k0 (g 1) t.1 t.2 w) h (λX g1 w1 ha hL=> ?_)
 rw[<-fC 1 ha]at hL
 exact(El [(0,(Mq1 k0 3))] (kr:=no) (GO (λ_ l_3 wG w=>X (l_3,wG) w) 1 3 4) hL dE JO ⟨h0,trivial⟩)
def UM(kn:K3) QZ l_3 w:=
 kn QZ l_3 (aL2 0) w
def Ln(kn:K1) QZ l_3 w:=
 UM (Fp kn) QZ l_3 w
def Lo(R:K1) QZ l_3 w:=
 Ln (Ll R) QZ l_3 w
theorem ZO(kn:K1)(hn:N1 Q kn 3)(h:Ln kn (g 1) (g 3) w):dM pg H0 (bL 1 (aO 2 Gp)) Q g w:=
 dN 1 (iS (GO (Fp kn) 1 3 4) h (λg w h=>aJ (BK 0 (ZN _ g w kn hn h))))
def UN(kn:K2) fI w:=
 aA pg (jK 40 fI) w λQZ w=>
 aA pg (aD 40 QZ 1) w λb5 w=>
 aA pg (aB 37 b5) w λb6 w=>
 kn QZ b6 w
def UO(R:K1) fI w:=
 UN (Lo R) fI w
def aiW a0 w(R:K1):=
 UO R a0 w
theorem aeG{a0 w R}(h:aiW a0 w R):aG pg tW #[a0] w R:=
 jX (ann:=H0) Tryz.f24 Gp [a0] amP 22 TryzM.mixed Tryz.func24 (dN 2 (iS (Qv (Lo R) 1 3) h (λg w h=>aJ (dN 1 (ZO _ g w (Ll R) (λg w h=>aJ (kL h dE)) h)))))
def Pw:FA:=⟨rO,λi=> .leaf ([],[]) []⟩
def SE:List ResultVar:=[.tmp 2]
noncomputable def Nl:Code:=bA Tryz.f25
def FK(R:K1) fI w:=
 aA pg (aE .eql 34 (.tmp 3) (.const (.pointer none)) fI (.pointer none)) w λb4 w=>
 cS b4
  (R (aL2 0) w)
  (aA pg (cQ fI) w λb6 w=>
  aA pg (aD 76 b6 3) w λb7 w=>
  aA pg (aB 74 b7) w λb8 w=>
  aA pg (eK .len #[74] 3 [b8]) w λb9 w=>
  R b9 w)
def Ka a0 w(R:K1):=
 FK R a0 w
theorem Nt{a0 w R}(h:Ka a0 w R):aG pg rO #[a0] w R:=
 jX (ann:=Pw) Tryz.f25 Nl [a0] SE 10 TryzM.mixed Tryz.func25 (kL h dE)
def TC:FA:=⟨gE,λi=> .leaf ([],[]) []⟩
def VP:List ResultVar:=[.tmp 2]
noncomputable def QV:Code:=bA Tryz.f26
def Jw(R:K1) fB w:=
 aA pg (aE .eql 43 (.tmp 3) (.const (.pointer none)) fB (.pointer none)) w λb4 w=>
 cS b4
  (R (aL2 1) w)
  (aA pg (cQ fB) w λb6 w=>
  aA pg (aD 99 b6 7) w λb7 w=>
  aA pg (aB 31 b7) w λb8 w=>
  R b8 w)
def Pr a0 w(R:K1):=
 Jw R a0 w
theorem SY{a0 w R}(h:Pr a0 w R):aG pg gE #[a0] w R:=
 jX (ann:=TC) Tryz.f26 QV [a0] VP 9 TryzM.mixed Tryz.func26 (kL h dE)
def acF:FA:=⟨ER,λi=> .leaf ([],[]) []⟩
def ajS:List ResultVar:=[.tmp 6]
noncomputable def Y6:Code:=bA Tryz.f27
def C3 (R:K1) mI apK b8 w:=
 aA pg (dH 22 mI (some apK) (some b8) none) w λf9 w=>
 R f9 w
def Rn(kn:K3)(R:K1) mI dA a_2 w:=
 aA pg (jK 54 a_2) w λa_5 w=>
 aA pg (aD 54 a_5 1) w λb9 w=>
 aA pg (aB 3 b9) w λc0 w=>
 aA pg (aE .mul 3 aN aN c0 dA) w λc2 w=>
 aA pg (aD 54 a_5 3) w λc3 w=>
 aA pg (aB 4 c3) w λc4 w=>
 aA pg (G2 .not c4) w λc5 w=>
 Gd (bG c5 false) (λK=>aA pg (aD 54 a_5 1) w K) w λc7 w=>
 Gd (bG c5 false) (λK=>aA pg (aB 3 c7) w K) w λc8 w=>
 Gd (bG c5 false) (λK=>aA pg (aE .lss 3 aN aN c8 (aL2 0)) w K) w λc9 w=>
 aA pg (cH c5 (.bool true) c9) w λd0 w=>
 Gd (bG d0 false) (λK=>K dA w) w λd2 w=>
 Gd (bG d0 false) (λK=>aA pg (aE .lss 3 aN aN d2 (aL2 1)) w K) w λd3 w=>
 aA pg (cH d0 (.bool true) d3) w λd4 w=>
 Gd (bG d4 false) (λK=>K c2 w) w λd6 w=>
 Gd (bG d4 false) (λK=>aA pg (aE .lss 3 aN aN d6 (aL2 0)) w K) w λd7 w=>
 aA pg (cH d4 (.bool true) d7) w λd8 w=>
 Gd (bG d8 false) (λK=>K c2 w) w λe0 w=>
 Gd (bG d8 false) (λK=>K mI w) w λe1 w=>
 Gd (bG d8 false) (λK=>aA pg (eK .len #[22] 3 [e1]) w K) w λe2 w=>
 Gd (bG d8 false) (λK=>aA pg (aE .geq 3 aN aN e0 e2) w K) w λe3 w=>
 aA pg (cH d8 (.bool true) e3) w λe4 w=>
 cS e4
  (aA pg (aD 54 a_5 2) w λe5 w=>
  aA pg (aB 22 e5) w λe6 w=>
  R e6 w)
  (aA pg (aE .add 3 aN aN c2 dA) w λe9 w=>
  aA pg (eK .len #[22] 3 [mI]) w λf2 w=>
  aA pg (aE .gtr 3 aN aN e9 f2) w λf3 w=>
  cS f3
   (aA pg (eK .len #[22] 3 [mI]) w λf5 w=>
   kn mI c2 f5 w)
   (kn mI c2 e9 w))
def Ro(R:K1) mI dA a_2 w:=
 Rn (C3 R) R mI dA a_2 w
def aaU a0 a1 a2 w(R:K1):=
 Ro R a0 a1 a2 w
theorem Zo{a0 a1 a2 w R}(h:aaU a0 a1 a2 w R):aG pg ER #[a0,a1,a2] w R:=
 jX (ann:=acF) Tryz.f27 Y6 [a0,a1,a2] ajS 50 TryzM.mixed Tryz.func27 (dN 5 (Up (GO (C3 R) 0 7 8) h (λg w h=>aJ (kL h dE)) dE))
def alJ:FA:=⟨J4,λi=>match Nat.beq i 2 with|true=> .leaf ([4,5],[(1,4),(2,4),(2,5),(3,4),(3,5)]) (fz 4 (ft [0,1,2] (ft [1,2] (fz 1 []))))|false=>match Nat.beq i 4 with|true=> .leaf ([2,3],[(1,2)]) (fz 2 (ft [0] (ft [] (fz 1 []))))|false=>match Nat.beq i 6 with|true=> .leaf ([2,3],[(1,2)]) (fz 2 (ft [0] (ft [] (fz 1 []))))|false=>match Nat.beq i 9 with|true=> .leaf ([2,3],[(1,2)]) (fz 2 (ft [0] (ft [] (fz 1 []))))|false=>match Nat.beq i 24 with|true=> .leaf ([3,4],[(1,3)]) (fz 3 (ft [1] (ft [] (fz 1 []))))|false=> .leaf ([],[]) []⟩
def arA:List ResultVar:=[.cell 8 40,.cell 9 47,.tmp 10]
noncomputable def agX:Code:=bA Tryz.f28
def HA(R:K1) Vt Kt b8 b9 PW w:=
 aA pg (aB 40 Vt) (dr w) λp9 w_=>w_=(dr w)/\
 aA pg (aB 47 Kt) (dr w) λq0 w_=>w_=(dr w)/\
 (dr w)=(dr w)/\
 aA pg (aF 40 b8 p9) (dr w) λ_u3 aGy=>
 (aP pg (aB 47 Kt) q0 aGy/\True)/\
 aA pg (aF 47 b9 q0) aGy λ_u4 awU=>
 awU=awU/\
 lO pg 40 b8 awU λr0=>lO pg 47 b9 awU λr1=>R (.tuple #[r0,r1,PW]) awU
def X6 (kn:K5) Ur Vt Kt b8 b9 PW w:=
 aA pg (aD 47 Kt 6) w λo7 w=>
 aA pg (aF 31 o7 PW) w λ_u w=>
 aA pg (aE .eql 31 (.tmp 108) (.const (aL2 0)) PW (aL2 0)) w λo9 w=>
 cS o9
  (aA pg (aD 47 Kt 3) w λp1 w=>
  aA pg (aB 45 p1) w λp2 w=>
  aA pg (eK .append #[45,45] 45 [(.slice none 0 0),p2]) w λp3 w=>
  aA pg (aR 45 p3 Ur) w λp6 w=>
  aA pg (aF 4 p6 (.bool true)) w λ_u w=>
  aA pg (aD 47 Kt 3) w λp8 w=>
  aA pg (aF 45 p8 p3) w λ_u w=>
  kn Vt Kt b8 b9 PW w)
  (kn Vt Kt b8 b9 PW w)
def HB(R:K1) Ur Vt Kt b8 b9 PW w:=
 X6 (HA R) Ur Vt Kt b8 b9 PW w
def X7 (kn:K6) Ur Vt Kt b8 b9 PW w:=
 aA pg (aE .eql 31 (.tmp 99) (.const (aL2 0)) PW (aL2 0)) w λo0 w=>
 cS o0
  (aA pg (aB 40 Vt) w λo2 w=>
  aG pg qN #[o2] w λo3 w=>
  aA pg (aQ o3 0) w λo4 w=>
  aA pg (aQ o3 1) w λo5 w=>
  aA pg (aF 40 Vt o4) w λ_u w=>
  kn Ur Vt Kt b8 b9 o5 w)
  (kn Ur Vt Kt b8 b9 PW w)
def HC(R:K1) Ur Vt Kt b8 b9 PW w:=
 X7 (HB R) Ur Vt Kt b8 b9 PW w
def X8 (kn:K6) Ur Vt Kt b8 b9 PW w:=
 aA pg (aE .eql 31 (.tmp 87) (.const (aL2 0)) PW (aL2 0)) w λm8 w=>
 cS m8
  (aA pg (aB 40 Vt) w λn0 w=>
  aA pg (aB 47 Kt) w λn1 w=>
  aA pg (cP 3 26 Ur) w λn3 w=>
  aA pg (bV 123 [(0,(.int .u8 2)),(1,n3)]) w λn4 w=>
  aG pg yB #[n0,n1,n4] w λn5 w=>
  aA pg (aQ n5 0) w λn6 w=>
  aA pg (aQ n5 1) w λn7 w=>
  aA pg (aQ n5 2) w λn8 w=>
  aA pg (aF 40 Vt n6) w λ_u w=>
  aA pg (aF 47 Kt n7) w λ_u w=>
  kn Ur Vt Kt b8 b9 n8 w)
  (kn Ur Vt Kt b8 b9 PW w)
def HD(R:K1) Ur Vt Kt b8 b9 PW w:=
 X8 (HC R) Ur Vt Kt b8 b9 PW w
def X9 (kn:K6)(R:K1) fI SL Ur jM w:=
 aA pg (jK 40 fI) w λVt w=>
 aA pg (jK 47 SL) w λKt w=>
 aA pg (bE 40) w λb8 w=>
 aA pg (bE 47) w λb9 w=>
 aA pg (aD 47 Kt 6) w λc7 w=>
 aA pg (aB 31 c7) w λc8 w=>
 aA pg (aE .neq 31 (.tmp 18) (.const (aL2 0)) c8 (aL2 0)) w λc9 w=>
 cS c9
  (aA pg (aB 40 Vt) (dr w) λd0 w_=>w_=(dr w)/\
  aA pg (aB 47 Kt) (dr w) λd1 w_=>w_=(dr w)/\
  aA pg (aD 47 Kt 6) (dr w) λd2 w_=>w_=(dr w)/\
  aA pg (aB 31 d2) (dr w) λd3 w_=>w_=(dr w)/\
  aA pg (aF 40 b8 d0) (dr w) λ_u4 gR=>
  (aP pg (aB 31 d2) d3 gR/\aP pg (aD 47 Kt 6) d2 gR/\aP pg (aB 47 Kt) d1 gR/\True)/\
  aA pg (aF 47 b9 d1) gR λ_u5 fR=>
  (aP pg (aB 31 d2) d3 fR/\aP pg (aD 47 Kt 6) d2 fR/\True)/\
  fR=fR/\
  lO pg 40 b8 fR λr0=>lO pg 47 b9 fR λr1=>R (.tuple #[r0,r1,d3]) fR)
  (aA pg (aE .lss 3 aN aN Ur (aL2 0)) w λd5 w=>
  Gd (bG d5 false) (λK=>K Ur w) w λd7 w=>
  Gd (bG d5 false) (λK=>aA pg (aD 47 Kt 3) w K) w λd8 w=>
  Gd (bG d5 false) (λK=>aA pg (aB 45 d8) w K) w λd9 w=>
  Gd (bG d5 false) (λK=>aA pg (eK .len #[45] 3 [d9]) w K) w λe0 w=>
  Gd (bG d5 false) (λK=>aA pg (aE .geq 3 aN aN d7 e0) w K) w λe1 w=>
  aA pg (cH d5 (.bool true) e1) w λe2 w=>
  cS e2
   (aA pg (aB 40 Vt) (dr w) λe3 w_=>w_=(dr w)/\
   aA pg (aB 47 Kt) (dr w) λe4 w_=>w_=(dr w)/\
   aA pg (aF 40 b8 e3) (dr w) λ_u2 aIm=>
   (aP pg (aB 47 Kt) e4 aIm/\True)/\
   aA pg (aF 47 b9 e4) aIm λ_u3 HL=>
   HL=HL/\
   lO pg 40 b8 HL λr0=>lO pg 47 b9 HL λr1=>R (.tuple #[r0,r1,(aL2 17)]) HL)
   (aA pg (aD 47 Kt 5) w λe5 w=>
   aA pg (aB 4 e5) w λe6 w=>
   Gd (bG e6 false) (λK=>aA pg (aD 47 Kt 3) w K) w λe8 w=>
   Gd (bG e6 false) (λK=>aA pg (aB 45 e8) w K) w λe9 w=>
   Gd (bG e6 false) (λK=>K Ur w) w λf0 w=>
   Gd (bG e6 false) (λK=>aA pg (aR 45 e9 f0) w K) w λf1 w=>
   Gd (bG e6 false) (λK=>aA pg (aB 4 f1) w K) w λf2 w=>
   aA pg (cH e6 (.bool true) f2) w λf3 w=>
   cS f3
    (aA pg (aB 40 Vt) (dr w) λf4 w_=>w_=(dr w)/\
    aA pg (aB 47 Kt) (dr w) λf5 w_=>w_=(dr w)/\
    aA pg (aF 40 b8 f4) (dr w) λ_u2 aIq=>
    (aP pg (aB 47 Kt) f5 aIq/\True)/\
    aA pg (aF 47 b9 f5) aIq λ_u3 aEE=>
    aEE=aEE/\
    lO pg 40 b8 aEE λr0=>lO pg 47 b9 aEE λr1=>R (.tuple #[r0,r1,(aL2 0)]) aEE)
    (aA pg (aD 47 Kt 1) w λf6 w=>
    aA pg (aB 44 f6) w λf7 w=>
    aG pg AW #[f7,Ur,jM] w λi0 w=>
    aA pg (G2 .not i0) w λi2 w=>
    cS i2
     (aA pg (aB 40 Vt) (dr w) λi3 w_=>w_=(dr w)/\
     aA pg (aB 47 Kt) (dr w) λi4 w_=>w_=(dr w)/\
     aA pg (aF 40 b8 i3) (dr w) λ_u2 aIs=>
     (aP pg (aB 47 Kt) i4 aIs/\True)/\
     aA pg (aF 47 b9 i4) aIs λ_u3 awW=>
     awW=awW/\
     lO pg 40 b8 awW λr0=>lO pg 47 b9 awW λr1=>R (.tuple #[r0,r1,(aL2 13)]) awW)
     (aA pg (aD 47 Kt 1) w λi6 w=>
     aA pg (aD 44 i6 0) w λi7 w=>
     aA pg (aB 26 i7) w λi8 w=>
     aA pg (aD 47 Kt 1) w λi9 w=>
     aA pg (aD 44 i9 1) w λj0 w=>
     aA pg (aB 27 j0) w λj1 w=>
     aA pg (cP 27 3 j1) w λj2 w=>
     aG pg Aa #[i8,j2,Ur] w λj4 w=>
     aA pg (aQ j4 0) w λj5 w=>
     aA pg (aQ j4 1) w λj6 w=>
     aA pg (aQ j4 2) w λj7 w=>
     aA pg (aB 40 Vt) w λj9 w=>
     aA pg (aD 47 Kt 0) w λl0 w=>
     aA pg (aB 9 l0) w λl1 w=>
     aA pg (aE .add 9 aN aN l1 (.string ⟨#[46,112,97,114,116]⟩)) w λl2 w=>
     aA pg (cP 26 3 j5) w λl4 w=>
     aA pg (bV 96 [(1,l2),(3,l4),(4,jM)]) w λl6 w=>
     aG pg iB #[j9,l6] w λl7 w=>
     aA pg (aQ l7 0) w λl8 w=>
     aA pg (aQ l7 1) w λl9 w=>
     aA pg (aF 40 Vt l8) w λ_u w=>
     aA pg (aE .eql 31 (.tmp 80) (.const (aL2 0)) l9 (aL2 0)) w λm1 w=>
     cS m1
      (aA pg (aB 40 Vt) w λm3 w=>
      aG pg qN #[m3] w λm4 w=>
      aA pg (aQ m4 0) w λm5 w=>
      aA pg (aQ m4 1) w λm6 w=>
      aA pg (aF 40 Vt m5) w λ_u w=>
      kn Ur Vt Kt b8 b9 m6 w)
      (kn Ur Vt Kt b8 b9 l9 w)))))
def Ya(R:K1) fI SL Ur jM w:=
 X9 (HD R) R fI SL Ur jM w
def aoJ a0 a1 a2 a3 w(R:K1):=
 Ya R a0 a1 a2 a3 w
theorem ajE{a0 a1 a2 a3 w R}(h:aoJ a0 a1 a2 a3 w R):aG pg J4 #[a0,a1,a2,a3] w R:=
 jX (ann:=alJ) Tryz.f28 agX [a0,a1,a2,a3] arA 122 TryzM.mixed Tryz.func28 (dN 9 (Up (Mq6 (HD R) 2 4 5 8 9 15) h (λg w h=>aJ (dN 1 (iS (Mq6 (HC R) 2 4 5 8 9 15) h (λg w h=>aJ (dN 1 (iS (Mq6 (HB R) 2 4 5 8 9 15) h (λg w h=>aJ (dN 2 (iS (YN (HA R) 4 5 8 9 15) h (λg w h=>aJ (kL h dE))))))))))) dE))
def YW:FA:=⟨CG,λi=>match Nat.beq i 2 with|true=> .leaf ([4,5],[(1,4),(2,4),(2,5),(3,4),(3,5)]) (fz 4 (ft [0,1,2] (ft [1,2] (fz 1 []))))|false=>match Nat.beq i 5 with|true=> .leaf ([2,3],[(1,2)]) (fz 2 (ft [0] (ft [] (fz 1 []))))|false=>match Nat.beq i 9 with|true=> .leaf ([3,4],[(1,3)]) (fz 3 (ft [1] (ft [] (fz 1 []))))|false=>match Nat.beq i 13 with|true=> .leaf ([2,3],[(1,2)]) (fz 2 (ft [0] (ft [] (fz 1 []))))|false=>match Nat.beq i 19 with|true=> .leaf ([3,4],[(1,3)]) (fz 3 (ft [1] (ft [] (fz 1 []))))|false=> .leaf ([],[]) []⟩
def aeU:List ResultVar:=[.cell 4 40,.cell 5 47,.tmp 6]
noncomputable def Wq:Code:=bA Tryz.f29
def By(R:K1) rN Bf b4 b5 e_9 w:=
 aA pg (aD 47 Bf 6) w λl4 w=>
 aA pg (aF 31 l4 e_9) w λ_u w=>
 aA pg (aE .eql 31 (.tmp 75) (.const (aL2 0)) e_9 (aL2 0)) w λl6 w=>
 aA pg (aD 47 Bf 5) w λl7 w=>
 aA pg (aF 4 l7 l6) w λ_u w=>
 aA pg (aB 40 rN) (dr w) λl8 w_=>w_=(dr w)/\
 aA pg (aB 47 Bf) (dr w) λl9 w_=>w_=(dr w)/\
 (dr w)=(dr w)/\
 aA pg (aF 40 b4 l8) (dr w) λ_u3 aGx=>
 (aP pg (aB 47 Bf) l9 aGx/\True)/\
 aA pg (aF 47 b5 l9) aGx λ_u4 awS=>
 awS=awS/\
 lO pg 40 b4 awS λr0=>lO pg 47 b5 awS λr1=>R (.tuple #[r0,r1,e_9]) awS
def Pd(kn:K5)(R:K1) fI SL w:=
 aA pg (jK 40 fI) w λrN w=>
 aA pg (jK 47 SL) w λBf w=>
 aA pg (bE 40) w λb4 w=>
 aA pg (bE 47) w λb5 w=>
 aA pg (aD 47 Bf 6) w λc0 w=>
 aA pg (aB 31 c0) w λc1 w=>
 aA pg (aE .neq 31 (.tmp 11) (.const (aL2 0)) c1 (aL2 0)) w λc2 w=>
 Gd (bG c2 false) (λK=>aA pg (aD 47 Bf 5) w K) w λc4 w=>
 Gd (bG c2 false) (λK=>aA pg (aB 4 c4) w K) w λc5 w=>
 aA pg (cH c2 (.bool true) c5) w λc6 w=>
 cS c6
  (aA pg (aB 40 rN) (dr w) λc7 w_=>w_=(dr w)/\
  aA pg (aB 47 Bf) (dr w) λc8 w_=>w_=(dr w)/\
  aA pg (aD 47 Bf 6) (dr w) λc9 w_=>w_=(dr w)/\
  aA pg (aB 31 c9) (dr w) λd0 w_=>w_=(dr w)/\
  aA pg (aF 40 b4 c7) (dr w) λ_u4 gR=>
  (aP pg (aB 31 c9) d0 gR/\aP pg (aD 47 Bf 6) c9 gR/\aP pg (aB 47 Bf) c8 gR/\True)/\
  aA pg (aF 47 b5 c8) gR λ_u5 fR=>
  (aP pg (aB 31 c9) d0 fR/\aP pg (aD 47 Bf 6) c9 fR/\True)/\
  fR=fR/\
  lO pg 40 b4 fR λr0=>lO pg 47 b5 fR λr1=>R (.tuple #[r0,r1,d0]) fR)
  (aA pg (aD 47 Bf 3) w λd1 w=>
  aA pg (aB 45 d1) w λd2 w=>
  aG pg Cd #[d2] w λd3 w=>
  aA pg (G2 .not d3) w λd5 w=>
  cS d5
   (aA pg (aB 40 rN) (dr w) λd6 w_=>w_=(dr w)/\
   aA pg (aB 47 Bf) (dr w) λd7 w_=>w_=(dr w)/\
   aA pg (aF 40 b4 d6) (dr w) λ_u2 aIn=>
   (aP pg (aB 47 Bf) d7 aIn/\True)/\
   aA pg (aF 47 b5 d7) aIn λ_u3 YJ=>
   YJ=YJ/\
   lO pg 40 b4 YJ λr0=>lO pg 47 b5 YJ λr1=>R (.tuple #[r0,r1,(aL2 30)]) YJ)
   (aA pg (aB 40 rN) w λd9 w=>
   aA pg (aD 47 Bf 0) w λe0 w=>
   aA pg (aB 9 e0) w λe1 w=>
   aA pg (aE .add 9 aN aN e1 (.string ⟨#[46,112,97,114,116]⟩)) w λe2 w=>
   aG pg Ac #[d9,e2] w λe3 w=>
   aA pg (aQ e3 0) w λe4 w=>
   aA pg (aQ e3 1) w λe5 w=>
   aA pg (aE .neq 31 (.tmp 36) (.const (aL2 0)) e5 (aL2 0)) w λe7 w=>
   cS e7
    (aA pg (aD 47 Bf 6) w λe9 w=>
    aA pg (aF 31 e9 e5) w λ_u w=>
    aA pg (aB 40 rN) (dr w) λf0 w_=>w_=(dr w)/\
    aA pg (aB 47 Bf) (dr w) λf1 w_=>w_=(dr w)/\
    (dr w)=(dr w)/\
    aA pg (aF 40 b4 f0) (dr w) λ_u3 awW=>
    (aP pg (aB 47 Bf) f1 awW/\True)/\
    aA pg (aF 47 b5 f1) awW λ_u4 yA=>
    yA=yA/\
    lO pg 40 b4 yA λr0=>lO pg 47 b5 yA λr1=>R (.tuple #[r0,r1,e5]) yA)
    (aA pg (aD 47 Bf 1) w λf3 w=>
    aA pg (aB 44 f3) w λf4 w=>
    aG pg sI #[f4,e4] w λf6 w=>
    aA pg (aD 47 Bf 3) w λf7 w=>
    aA pg (aF 45 f7 f6) w λ_u w=>
    aA pg (aD 47 Bf 3) w λf8 w=>
    aA pg (aB 45 f8) w λf9 w=>
    aG pg Cd #[f9] w λi0 w=>
    aA pg (G2 .not i0) w λi2 w=>
    cS i2
     (aA pg (aB 40 rN) (dr w) λi3 w_=>w_=(dr w)/\
     aA pg (aB 47 Bf) (dr w) λi4 w_=>w_=(dr w)/\
     aA pg (aF 40 b4 i3) (dr w) λ_u2 aGv=>
     (aP pg (aB 47 Bf) i4 aGv/\True)/\
     aA pg (aF 47 b5 i4) aGv λ_u3 awR=>
     awR=awR/\
     lO pg 40 b4 awR λr0=>lO pg 47 b5 awR λr1=>R (.tuple #[r0,r1,(aL2 13)]) awR)
     (aA pg (aB 40 rN) w λi6 w=>
     aA pg (aD 47 Bf 0) w λi7 w=>
     aA pg (aB 9 i7) w λi8 w=>
     aA pg (aE .add 9 aN aN i8 (.string ⟨#[46,112,97,114,116]⟩)) w λi9 w=>
     aA pg (aD 47 Bf 0) w λj0 w=>
     aA pg (aB 9 j0) w λj1 w=>
     aA pg (bV 96 [(0,(aL2 1)),(1,i9),(2,j1)]) w λj2 w=>
     aG pg iB #[i6,j2] w λj3 w=>
     aA pg (aQ j3 0) w λj4 w=>
     aA pg (aQ j3 1) w λj5 w=>
     aA pg (aF 40 rN j4) w λ_u w=>
     aA pg (aE .eql 31 (.tmp 66) (.const (aL2 0)) j5 (aL2 0)) w λj7 w=>
     cS j7
      (aA pg (aB 40 rN) w λj9 w=>
      aG pg qN #[j9] w λl0 w=>
      aA pg (aQ l0 0) w λl1 w=>
      aA pg (aQ l0 1) w λl2 w=>
      aA pg (aF 40 rN l1) w λ_u w=>
      kn rN Bf b4 b5 l2 w)
      (kn rN Bf b4 b5 j5 w)))))
def Pe(R:K1) fI SL w:=
 Pd (By R) R fI SL w
def XX a0 a1 w(R:K1):=
 Pe R a0 a1 w
theorem XY{a0 a1 w R}(h:XX a0 a1 w R):aG pg CG #[a0,a1] w R:=
 jX (ann:=YW) Tryz.f29 Wq [a0,a1] aeU 81 TryzM.mixed Tryz.func29 (dN 11 (Up (YN (By R) 2 3 4 5 9) h (λg w h=>aJ (kL h dE)) dE))
def Vj:FA:=⟨zX,λi=> .leaf ([],[]) []⟩
def Yo:List ResultVar:=[]
noncomputable def TI:Code:=bA Tryz.f30
def Kc(kn:K0) fI aEW w:=
 aA pg (aE .neq 34 (.tmp 4) (.const (.pointer none)) fI (.pointer none)) w λb5 w=>
 cS b5
  (aA pg (eK .max #[3,3] 3 [aEW,(aL2 (-1))]) w λb8 w=>
  aA pg (cQ fI) w λb9 w=>
  aA pg (aD 76 b9 4) w λc0 w=>
  aA pg (aF 3 c0 b8) w λ_u w=>
  kn w)
  (kn w)
def Q3 a0 a1 w(R:K1):=
 Kc (λw=>R (.tuple #[]) w) a0 a1 w
theorem TP{a0 a1 w R}(h:Q3 a0 a1 w R):aG pg zX #[a0,a1] w R:=
 jX (ann:=Vj) Tryz.f30 TI [a0,a1] Yo 11 TryzM.mixed Tryz.func30 (iS (Mq0 (λw=>R (.tuple #[]) w)) h dE)
def AI:FA:=⟨wU,λi=>match Nat.beq i 5 with|true=> .leaf ([5],[]) (fz 5 (ft [] []))|false=> .leaf ([],[]) []⟩
def VJ:List ResultVar:=[]
noncomputable def yH:Code:=bA Tryz.f31
def BM(kn:K0) fI w:=
 aA pg (cQ fI) w λf0 w=>
 aA pg (aD 76 f0 1) w λf1 w=>
 aA pg (aB 73 f1) w λf2 w=>
 aG pg wX #[f2] w λf3 w=>
 aA pg (cQ fI) w λf4 w=>
 aA pg (aD 76 f4 2) w λf5 w=>
 aA pg (aF 73 f5 f3) w λ_u w=>
 aA pg (cQ fI) w λf6 w=>
 aA pg (aD 76 f6 3) w λf7 w=>
 aA pg (aF 74 f7 (.slice none 0 0)) w λ_u w=>
 aA pg (cQ fI) w λf8 w=>
 aA pg (aD 76 f8 4) w λf9 w=>
 aA pg (aF 3 f9 (aL2 (-1))) w λ_u w=>
 aA pg (cQ fI) w λi0 w=>
 aA pg (aD 76 i0 5) w λi1 w=>
 aA pg (aF 4 i1 (.bool false)) w λ_u w=>
 kn w
def BN(kn:K5) fI fF c1 c2 c3 w:=
 aA pg (aE .add 3 aN aN c3 (aL2 1)) w λe4 w=>
 kn fI fF c1 c2 e4 w
def Ih(kn:K5)(k0:K1) fI fF c1 c2 c3 w:=
 aA pg (aE .lss 3 aN aN c3 c2) w λc4 w=>
 cS c4
  (aA pg (aR 74 c1 c3) w λc6 w=>
  aA pg (aB 137 c6) w λc7 w=>
  aA pg (bE 137) w λo_5 w=>
  aA pg (aF 137 o_5 c7) w λ_u w=>
  aA pg (eK .len #[45] 3 [fF]) w λd0 w=>
  aA pg (aE .lss 3 aN aN c3 d0) w λd1 w=>
  Gd (bG d1 true) (λK=>K fF w) w λd3 w=>
  Gd (bG d1 true) (λK=>K c3 w) w λd4 w=>
  Gd (bG d1 true) (λK=>aA pg (aR 45 d3 d4) w K) w λd5 w=>
  Gd (bG d1 true) (λK=>aA pg (aB 4 d5) w K) w λd6 w=>
  aA pg (cH d1 d6 (.bool false)) w λd7 w=>
  cS d7
   ((dr w)=(dr w)/\
   aA pg (cQ fI) (dr w) λd9 w_=>w_=(dr w)/\
   aA pg (aD 76 d9 1) (dr w) λe0 w_=>w_=(dr w)/\
   aA pg (aB 73 e0) (dr w) λe1 w_=>w_=(dr w)/\
   aA pg (aB 137 o_5) (dr w) λe2 w_=>w_=(dr w)/\
   aG pg vH #[e1,e2] (dr w) λe3 aJg=>
   kn fI fF c1 c2 c3 aJg)
   (kn fI fF c1 c2 c3 w))
  (k0 fI w)
def BO(kn:K5)(k0:K1) fI fF c1 c2 c3 w:=
 Ih (BN kn) k0 fI fF c1 c2 c3 w
def uG(k0:K1) fI fF c1 c2 c3 w:=
 bM (λ(X:aL1->K0) (t:aL1) (w:aL0)=>BO (λ_ _ _ _ c3 w=>X c3 w) k0 fI fF c1 c2 t w) c3 w
theorem PQ(k0:K1)(h0:E1 Q k0 0 0)(h:uG k0 (g 0) (g 1) (g 11) (g 12) (g 13) w):dM pg AI (bI (aO 1 (bL 1 (aO 1 yH)))) Q g w:=by
 refine Fl (λg:Env=>g 13) (λX t w=>BO (λ_ _ _ _ c3 w=>X c3 w) k0 (g 0) (g 1) (g 11) (g 12) t w) h (λX g1 w1 ha hL=> ?_)
 rw[<-fC 0 ha,<-fC 1 ha,<-fC 11 ha,<-fC 12 ha]at hL
 exact(dN 3 (El [(0,(Mq1 k0 0))] (kr:=no) (YN (BN (λ_ _ _ _ c3 w=>X c3 w)) 0 1 11 12 13) hL (λg w h=>aJ (iS (YN (λ_ _ _ _ c3 w=>X c3 w) 0 1 11 12 13) h dE)) JO ⟨h0,trivial⟩))
def Ii(kn:K5) fI fF w:=
 aA pg (cQ fI) w λb9 w=>
 aA pg (aD 76 b9 3) w λc0 w=>
 aA pg (aB 74 c0) w λc1 w=>
 aA pg (eK .len #[74] 3 [c1]) w λc2 w=>
 kn fI fF c1 c2 (aL2 0) w
def BP(kn:K1) fI fF w:=
 Ii (uG kn) fI fF w
def BQ(kn:K0) fI fF w:=
 BP (BM kn) fI fF w
theorem PR(kn:K1)(hn:N1 Q kn 0)(h:BP kn (g 0) (g 1) w):dM pg AI (bL 1 (aO 1 yH)) Q g w:=
 dN 1 (iS (YN (uG kn) 0 1 11 12 13) h (λg w h=>aJ (BK 0 (PQ _ g w kn hn h))))
def GU(kn:K2)(R:K1) fI fF w:=
 aA pg (aE .eql 34 (.tmp 6) (.const (.pointer none)) fI (.pointer none)) w λb7 w=>
 cS b7
  (R (.tuple #[]) w)
  (kn fI fF w)
def GV(kn:K0)(R:K1) fI fF w:=
 GU (BQ kn) R fI fF w
def OR a0 a1 w(R:K1):=
 GV (λw=>R (.tuple #[]) w) R a0 a1 w
theorem Q0 {a0 a1 w R}(h:OR a0 a1 w R):aG pg wU #[a0,a1] w R:=
 jX (ann:=AI) Tryz.f31 yH [a0,a1] VJ 52 TryzM.mixed Tryz.func31 (dN 1 (Up (Qv (BQ (λw=>R (.tuple #[]) w)) 0 1) h (λg w h=>aJ (dN 1 (PR _ g w (BM (λw=>R (.tuple #[]) w)) (λg w h=>aJ (iS (Mq0 (λw=>R (.tuple #[]) w)) h dE)) h))) dE))
def Gk:FA:=⟨AU,λi=>match Nat.beq i 5 with|true=> .leaf ([7,9],[]) (fz 7 (ft [] (fz 1 (ft [] []))))|false=> .leaf ([],[]) []⟩
def ajZ:List ResultVar:=[.cell 4 40]
noncomputable def Ej:Code:=bA Tryz.f32
def Dk(R:K1) rN b4 w:=
 aA pg (aD 40 rN 2) w λe2 w=>
 aA pg (aF 38 e2 (.slice none 0 0)) w λ_u w=>
 aA pg (aD 40 rN 4) w λe3 w=>
 aA pg (aF 4 e3 (.bool false)) w λ_u w=>
 aA pg (aD 40 rN 3) w λe4 w=>
 aA pg (aF 3 e4 (aL2 (-1))) w λ_u w=>
 aA pg (aB 40 rN) w λe5 w=>
 aA pg (aF 40 b4 e5) w λ_u w=>
 lO pg 40 b4 w λr0=>R r0 w
def I2 (kn:K4) fF rN b4 xL w:=
 aA pg (aE .add 3 aN aN xL (aL2 1)) w λc8 w=>
 kn fF rN b4 c8 w
def Sf(kn:K4)(k0:K2) fF rN b4 xL w:=
 aA pg (aD 40 rN 2) w λb7 w=>
 aA pg (aB 38 b7) w λb8 w=>
 aA pg (eK .len #[38] 3 [b8]) w λb9 w=>
 aA pg (aE .lss 3 aN aN xL b9) w λc0 w=>
 Gd (bG c0 true) (λK=>K xL w) w λc2 w=>
 Gd (bG c0 true) (λK=>K fF w) w λc3 w=>
 Gd (bG c0 true) (λK=>aA pg (eK .len #[45] 3 [c3]) w K) w λc4 w=>
 Gd (bG c0 true) (λK=>aA pg (aE .lss 3 aN aN c2 c4) w K) w λc5 w=>
 aA pg (cH c0 c5 (.bool false)) w λc6 w=>
 cS c6
  (aA pg (aR 45 fF xL) w λd1 w=>
  aA pg (aB 4 d1) w λd2 w=>
  cS d2
   (aA pg (aD 40 rN 1) (dr w) λd3 w_=>w_=(dr w)/\
   aA pg (aB 37 d3) (dr w) λd4 w_=>w_=(dr w)/\
   aA pg (aD 40 rN 2) (dr w) λd5 w_=>w_=(dr w)/\
   aA pg (aB 38 d5) (dr w) λd6 w_=>w_=(dr w)/\
   (dr w)=(dr w)/\
   aA pg (aR 38 d6 xL) (dr w) λd8 w_=>w_=(dr w)/\
   aA pg (aB 96 d8) (dr w) λd9 w_=>w_=(dr w)/\
   aG pg BG #[d4,d9] (dr w) λe0 aHx=>
   aA pg (aD 40 rN 1) aHx λe1 w_=>w_=aHx/\
   aA pg (aF 37 e1 e0) aHx λ_u9 aED=>
   kn fF rN b4 xL aED)
   (kn fF rN b4 xL w))
  (k0 rN b4 w)
def I3 (kn:K4)(k0:K2) fF rN b4 xL w:=
 Sf (I2 kn) k0 fF rN b4 xL w
def Dl(k0:K2) fF rN b4 xL w:=
 bM (λ(X:aL1->K0) (t:aL1) (w:aL0)=>I3 (λ_ _ _ xL w=>X xL w) k0 fF rN b4 t w) xL w
theorem XJ(k0:K2)(h0:E2 Q k0 0 2 4)(h:Dl k0 (g 1) (g 2) (g 4) (g 5) w):dM pg Gk (bI (aO 1 (bL 1 (aO 1 Ej)))) Q g w:=by
 refine Fl (λg:Env=>g 5) (λX t w=>I3 (λ_ _ _ xL w=>X xL w) k0 (g 1) (g 2) (g 4) t w) h (λX g1 w1 ha hL=> ?_)
 rw[<-fC 1 ha,<-fC 2 ha,<-fC 4 ha]at hL
 exact(dN 2 (El [(0,(Qv k0 2 4))] (kr:=no) (CN (I2 (λ_ _ _ xL w=>X xL w)) 1 2 4 5) hL (λg w h=>aJ (iS (CN (λ_ _ _ xL w=>X xL w) 1 2 4 5) h dE)) JO ⟨h0,trivial⟩))
def Sg(kn:K4) fF rN b4 w:=
 kn fF rN b4 (aL2 0) w
def I4 (kn:K2) fF rN b4 w:=
 Sg (Dl kn) fF rN b4 w
def I5 (R:K1) fF rN b4 w:=
 I4 (Dk R) fF rN b4 w
theorem XK(kn:K2)(hn:N2 Q kn 2 4)(h:I4 kn (g 1) (g 2) (g 4) w):dM pg Gk (bL 1 (aO 1 Ej)) Q g w:=
 dN 1 (iS (CN (Dl kn) 1 2 4 5) h (λg w h=>aJ (BK 0 (XJ _ g w kn hn h))))
def Pb(kn:K3) fI fF w:=
 aA pg (jK 40 fI) w λrN w=>
 aA pg (bE 40) w λb4 w=>
 kn fF rN b4 w
def Pc(R:K1) fI fF w:=
 Pb (I5 R) fI fF w
def abO a0 a1 w(R:K1):=
 Pc R a0 a1 w
theorem ZK{a0 a1 w R}(h:abO a0 a1 w R):aG pg AU #[a0,a1] w R:=
 jX (ann:=Gk) Tryz.f32 Ej [a0,a1] ajZ 36 TryzM.mixed Tryz.func32 (dN 1 (iS (GO (I5 R) 1 2 4) h (λg w h=>aJ (dN 1 (XK _ g w (Dk R) (λg w h=>aJ (kL h dE)) h)))))
def Tz:FA:=⟨gD,λi=>match Nat.beq i 9 with|true=> .leaf ([4],[(4,7),(4,8),(4,10),(4,11),(4,14),(4,15),(4,16)]) (fz 4 (ft [] (fz 2 (fu [2] (fu [3] (fz 1 (fu [5] (fu [6] (fz 2 (fu [9] (fu [10] (fu [11] (fz 2 [])))))))))))))|false=> .leaf ([],[]) []⟩
def VL:List ResultVar:=[.tmp 8]
noncomputable def QR:Code:=bA Tryz.f33
def Ik(R:K1) fI cV aCL jM w:=
 aG pg mC #[fI] w λc2 w=>
 aA pg (aE .neq 31 (.tmp 13) (.const (aL2 0)) c2 (aL2 0)) w λc4 w=>
 cS c4
  (R c2 w)
  (aA pg (cQ fI) w λc7 w=>
  aA pg (aD 76 c7 2) w λc8 w=>
  aA pg (aB 73 c8) w λc9 w=>
  aA pg (Dp 73 c9 cV false) w λd1 w=>
  aA pg (eK .len #[22] 3 [d1]) w λd2 w=>
  aG pg Eb #[cV] w λd5 w=>
  aA pg (G2 .not d5) w λd6 w=>
  Gd (bG d6 false) (λK=>K aCL w) w λd8 w=>
  Gd (bG d6 false) (λK=>aA pg (aE .lss 3 aN aN d8 (aL2 0)) w K) w λd9 w=>
  aA pg (cH d6 (.bool true) d9) w λe0 w=>
  cS e0
   (R (aL2 1) w)
   (aA pg (aE .gtr 3 aN aN aCL d2) w λe4 w=>
   cS e4
    (R (aL2 17) w)
    ((dr w)=(dr w)/\
    aA pg (cQ fI) (dr w) λe7 w_=>w_=(dr w)/\
    aA pg (aD 76 e7 2) (dr w) λe8 w_=>w_=(dr w)/\
    aA pg (aB 73 e8) (dr w) λe9 w_=>w_=(dr w)/\
    aG pg wW #[e9] (dr w) λf0 yA=>
    yA=yA/\
    yA=yA/\
    aA pg (eK .len #[22] 3 [jM]) yA λf3 w_=>w_=yA/\
    (aP pg (eK .len #[22] 3 [jM]) f3 (dr w)/\True)/\
    aA pg (aE .add 3 aN aN aCL f3) yA λf4 w_=>w_=yA/\
    (aP pg (aE .add 3 aN aN aCL f3) f4 (dr w)/\True)/\
    yA=yA/\
    aA pg (aE .sub 3 aN aN f4 d2) yA λf6 w_=>w_=yA/\
    (aP pg (aE .sub 3 aN aN f4 d2) f6 (dr w)/\True)/\
    aA pg (eK .max #[3,3] 3 [f6,(aL2 0)]) yA λf7 w_=>w_=yA/\
    (aP pg (eK .max #[3,3] 3 [f6,(aL2 0)]) f7 (dr w)/\True)/\
    aA pg (aE .add 3 aN aN f0 f7) yA λf8 w_=>w_=yA/\
    yA=yA/\
    aA pg (cQ fI) yA λi0 w_=>w_=yA/\
    (aP pg (cQ fI) i0 (dr w)/\True)/\
    aA pg (aD 76 i0 0) yA λi1 w_=>w_=yA/\
    (aP pg (aD 76 i0 0) i1 (dr w)/\True)/\
    aA pg (aB 3 i1) yA λi2 w_=>w_=yA/\
    (aP pg (aB 3 i1) i2 (dr w)/\True)/\
    aA pg (aE .gtr 3 aN aN f8 i2) yA λi3 w_=>w_=yA/\
    yA=yA/\
    cS i3
     (R (aL2 22) yA)
     (aG pg fN #[jM] yA λi8 w=>
     aA pg (bV 137 [(0,(aL2 0)),(1,cV),(3,aCL),(4,i8)]) w λi9 w=>
     aG pg oZ #[fI,i9] w λj0 w=>
     R j0 w))))
def OT a0 a1 a2 a3 w(R:K1):=
 Ik R a0 a1 a2 a3 w
theorem Q6 {a0 a1 a2 a3 w R}(h:OT a0 a1 a2 a3 w R):aG pg gD #[a0,a1,a2,a3] w R:=
 jX (ann:=Tz) Tryz.f33 QR [a0,a1,a2,a3] VL 61 TryzM.mixed Tryz.func33 (kL h dE)
def acE:FA:=⟨rE,λi=> .leaf ([],[]) []⟩
def ajR:List ResultVar:=[.tmp 2]
noncomputable def Y5:Code:=bA Tryz.f34
def Rl(R:K1) k_0 w:=
 aA pg (bB 80 4 [(0,(.string ⟨#[102]⟩)),(1,(.string ⟨#[102,46,112,97,114,116]⟩)),(2,(.string ⟨#[102,46,108,111,103]⟩)),(3,(.string ⟨#[103]⟩))]) w λb3 w=>
 aA pg (aE .and 5 aN aN k_0 (.int .u8 3)) w λb5 w=>
 aA pg (aR 80 b3 b5) w λb6 w=>
 aA pg (aB 9 b6) w λb7 w=>
 R b7 w
def aaT a0 w(R:K1):=
 Rl R a0 w
theorem Zn{a0 w R}(h:aaT a0 w R):aG pg rE #[a0] w R:=
 jX (ann:=acE) Tryz.f34 Y5 [a0] ajR 8 TryzM.mixed Tryz.func34 (kL h dE)
def alG:FA:=⟨iB,λi=> .leaf ([],[]) []⟩
def aqX:List ResultVar:=[.cell 4 40,.tmp 5]
noncomputable def agV:Code:=bA Tryz.f35
def XI(R:K1) fI o_1 w:=
 aA pg (jK 40 fI) w λrN w=>
 aA pg (jK 96 o_1) w λtL w=>
 aA pg (bE 40) w λb4 w=>
 aA pg (aB 40 rN) w λb9 w=>
 aA pg (aB 96 tL) w λc0 w=>
 aG pg Hb #[b9,c0] w λc1 w=>
 aA pg (aE .neq 31 (.tmp 12) (.const (aL2 0)) c1 (aL2 0)) w λc3 w=>
 cS c3
  (aA pg (aB 40 rN) w λc4 w=>
  aA pg (aF 40 b4 c4) w λ_u w=>
  lO pg 40 b4 w λr0=>R (.tuple #[r0,c1]) w)
  (aA pg (aB 40 rN) w λc7 w=>
  aG pg AV #[c7] w λc8 w=>
  aA pg (aQ c8 0) w λc9 w=>
  aA pg (aQ c8 1) w λd0 w=>
  aA pg (aF 40 rN c9) w λ_u w=>
  cS d0
   (aA pg (aB 40 rN) w λd2 w=>
   aA pg (aF 40 b4 d2) w λ_u w=>
   lO pg 40 b4 w λr0=>R (.tuple #[r0,(aL2 20)]) w)
   (aA pg (aD 40 rN 2) w λd4 w=>
   aA pg (aB 38 d4) w λd5 w=>
   aA pg (eK .append #[38,38] 38 [(.slice none 0 0),d5]) w λd6 w=>
   aA pg (aB 96 tL) w λd8 w=>
   aA pg (bB 38 1 [(0,d8)]) w λd9 w=>
   aA pg (eK .append #[38,38] 38 [d6,d9]) w λe0 w=>
   aA pg (aD 40 rN 2) w λe1 w=>
   aA pg (aF 38 e1 e0) w λ_u w=>
   aA pg (aB 40 rN) w λe2 w=>
   aA pg (aF 40 b4 e2) w λ_u w=>
   lO pg 40 b4 w λr0=>R (.tuple #[r0,(aL2 0)]) w))
def aoF a0 a1 w(R:K1):=
 XI R a0 a1 w
theorem aiQ{a0 a1 w R}(h:aoF a0 a1 w R):aG pg iB #[a0,a1] w R:=
 jX (ann:=alG) Tryz.f35 agV [a0,a1] aqX 33 TryzM.mixed Tryz.func35 (kL h dE)
def Py:FA:=⟨rP,λi=> .leaf ([],[]) []⟩
def SG:List ResultVar:=[.tmp 2]
noncomputable def Nn:Code:=bA Tryz.f36
def FY(R:K1) fB w:=
 aA pg (aE .eql 28 (.tmp 3) (.const (.slice none 0 0)) fB (.slice none 0 0)) w λb4 w=>
 cS b4
  (R (.slice none 0 0) w)
  (aA pg (bB 28 0 []) w λb5 w=>
  aA pg (eK .append #[28,28] 28 [b5,fB]) w λb7 w=>
  R b7 w)
def Ky a0 w(R:K1):=
 FY R a0 w
theorem OH{a0 w R}(h:Ky a0 w R):aG pg rP #[a0] w R:=
 jX (ann:=Py) Tryz.f36 Nn [a0] SG 8 TryzM.mixed Tryz.func36 (kL h dE)
def QL:FA:=⟨lG,λi=> .leaf ([],[]) []⟩
def Ua:List ResultVar:=[.tmp 4,.tmp 5,.tmp 6]
noncomputable def PL:Code:=bA Tryz.f37
def G8 (R:K1) fB cV w:=
 aA pg (cQ fB) w λc1 w=>
 aA pg (aD 99 c1 0) w λc2 w=>
 aA pg (aB 34 c2) w λc3 w=>
 aG pg gV #[c3,cV] w λc5 w=>
 aA pg (aQ c5 0) w λc6 w=>
 aA pg (aQ c5 1) w λc7 w=>
 aA pg (aE .eql 31 (.tmp 18) (.const (aL2 21)) c7 (aL2 21)) w λc9 w=>
 cS c9
  (R (.tuple #[(.slice none 0 0),(.bool false),(aL2 0)]) w)
  (aA pg (aE .eql 31 (.tmp 21) (.const (aL2 0)) c7 (aL2 0)) w λd2 w=>
  R (.tuple #[c6,d2,c7]) w)
def M1 a0 a1 w(R:K1):=
 G8 R a0 a1 w
theorem Qs{a0 a1 w R}(h:M1 a0 a1 w R):aG pg lG #[a0,a1] w R:=
 jX (ann:=QL) Tryz.f37 PL [a0,a1] Ua 24 TryzM.mixed Tryz.func37 (kL h dE)
def uC:FA:=⟨iV,λi=>match Nat.beq i 5 with|true=> .leaf ([12],[]) (fz 12 (ft [] (fz 7 [])))|false=> .leaf ([],[]) []⟩
def Qg:List ResultVar:=[.tmp 4]
noncomputable def sK:Code:=bA Tryz.f38
def wP(R:K1) bT w:=
 R bT w
def wQ(kn:K5)(k0:K1) fB zV bT c9 d0 w:=
 aA pg (aE .lss 3 aN aN d0 c9) w λd1 w=>
 cS d1
  ((dr w)=(dr w)/\
  aA pg (cQ fB) (dr w) λd5 w_=>w_=(dr w)/\
  aA pg (aD 99 d5 2) (dr w) λd6 w_=>w_=(dr w)/\
  aA pg (aD 30 d6 0) (dr w) λd7 w_=>w_=(dr w)/\
  aA pg (aB 26 d7) (dr w) λd8 w_=>w_=(dr w)/\
  (dr w)=(dr w)/\
  aA pg (cQ fB) (dr w) λe0 w_=>w_=(dr w)/\
  aA pg (aD 99 e0 2) (dr w) λe1 w_=>w_=(dr w)/\
  aA pg (aD 30 e1 1) (dr w) λe2 w_=>w_=(dr w)/\
  aA pg (aB 27 e2) (dr w) λe3 w_=>w_=(dr w)/\
  aA pg (cP 27 3 e3) (dr w) λe4 w_=>w_=(dr w)/\
  (dr w)=(dr w)/\
  aG pg qK #[d8,e4,d0] (dr w) λe6 JK=>
  JK=JK/\
  aA pg (aQ e6 0) JK λe7 w_=>w_=JK/\
  aA pg (aQ e6 1) JK λe8 w_=>w_=JK/\
  aA pg (aQ e6 2) JK λe9 w_=>w_=JK/\
  JK=JK/\
  JK=JK/\
  JK=JK/\
  aA pg (cP 3 26 e8) JK λf2 w=>
  aA pg (aE .add 26 aN aN e7 f2) w λf3 w=>
  aA pg (aE .eql 31 (.tmp 46) (.const (aL2 0)) e9 (aL2 0)) w λf7 w=>
  Gd (bG f7 true) (λK=>K f3 w) w λf9 w=>
  Gd (bG f7 true) (λK=>K zV w) w λi0 w=>
  Gd (bG f7 true) (λK=>aA pg (eK .len #[22] 3 [i0]) w K) w λi1 w=>
  Gd (bG f7 true) (λK=>aA pg (cP 3 26 i1) w K) w λi2 w=>
  Gd (bG f7 true) (λK=>aA pg (aE .leq 26 aN aN f9 i2) w K) w λi3 w=>
  aA pg (cH f7 i3 (.bool false)) w λi4 w=>
  Gd (bG i4 true) (λK=>K fB w) w λi6 w=>
  Gd (bG i4 true) (λK=>K d0 w) w λi7 w=>
  Gd (bG i4 true) (λK=>K zV w) w λi8 w=>
  Gd (bG i4 true) (λK=>K e7 w) w λi9 w=>
  Gd (bG i4 true) (λK=>K f3 w) w λj0 w=>
  Gd (bG i4 true) (λK=>aA pg (dH 22 i8 (some i9) (some j0) none) w K) w λj1 w=>
  Gd (bG i4 true) (λK=>aG pg nP #[i6,i7,j1] w K) w λj2 w=>
  aA pg (cH i4 j2 (.bool false)) w λj3 w=>
  aA pg (aR 45 bT d0) w λj4 w=>
  aA pg (aF 4 j4 j3) w λ_u w=>
  aA pg (aE .add 3 aN aN d0 (aL2 1)) w λj5 w=>
  kn fB zV bT c9 j5 w)
  (k0 bT w)
def pX(k0:K1) fB zV bT c9 d0 w:=
 bM (λ(X:aL1->K0) (t:aL1) (w:aL0)=>wQ (λ_ _ _ _ d0 w=>X d0 w) k0 fB zV bT c9 t w) d0 w
theorem LL(k0:K1)(h0:E1 Q k0 0 5)(h:pX k0 (g 0) (g 1) (g 5) (g 19) (g 20) w):dM pg uC (bI (aO 1 (bL 1 (aO 2 sK)))) Q g w:=by
 refine Fl (λg:Env=>g 20) (λX t w=>wQ (λ_ _ _ _ d0 w=>X d0 w) k0 (g 0) (g 1) (g 5) (g 19) t w) h (λX g1 w1 ha hL=> ?_)
 rw[<-fC 0 ha,<-fC 1 ha,<-fC 5 ha,<-fC 19 ha]at hL
 exact(El [(0,(Mq1 k0 5))] (kr:=no) (YN (λ_ _ _ _ d0 w=>X d0 w) 0 1 5 19 20) hL dE JO ⟨h0,trivial⟩)
def D5 (kn:K5) fB zV bT w:=
 aA pg (eK .len #[45] 3 [bT]) w λc9 w=>
 kn fB zV bT c9 (aL2 0) w
def wR(kn:K1) fB zV bT w:=
 D5 (pX kn) fB zV bT w
def wS(R:K1) fB zV bT w:=
 wR (wP R) fB zV bT w
theorem LM(kn:K1)(hn:N1 Q kn 5)(h:wR kn (g 0) (g 1) (g 5) w):dM pg uC (bL 1 (aO 2 sK)) Q g w:=
 dN 1 (iS (YN (pX kn) 0 1 5 19 20) h (λg w h=>aJ (BK 0 (LL _ g w kn hn h))))
def D6 (kn:K3) fB zV w:=
 aA pg (cQ fB) w λc2 w=>
 aA pg (aD 99 c2 2) w λc3 w=>
 aA pg (aD 30 c3 2) w λc4 w=>
 aA pg (aB 28 c4) w λc5 w=>
 aA pg (eK .len #[28] 3 [c5]) w λc6 w=>
 aA pg (yX 45 c6 c6) w λc7 w=>
 kn fB zV c7 w
def D7 (R:K1) fB zV w:=
 D6 (wS R) fB zV w
def JC a0 a1 w(R:K1):=
 D7 R a0 a1 w
theorem M4 {a0 a1 w R}(h:JC a0 a1 w R):aG pg iV #[a0,a1] w R:=
 jX (ann:=uC) Tryz.f38 sK [a0,a1] Qg 67 TryzM.mixed Tryz.func38 (dN 2 (iS (GO (wS R) 0 1 5) h (λg w h=>aJ (dN 1 (LM _ g w (wP R) (λg w h=>aJ (kL h dE)) h)))))
def alK:FA:=⟨Ce,λi=> .leaf ([],[]) []⟩
def arB:List ResultVar:=[.tmp 2]
noncomputable def agY:Code:=bA Tryz.f39
def YD(R:K1) iJ w:=
 aG pg tY #[iJ,(.bool false)] w λb4 w=>
 aA pg (G2 .not b4) w λb5 w=>
 R b5 w
def aoU a0 w(R:K1):=
 YD R a0 w
theorem akU{a0 w R}(h:aoU a0 w R):aG pg Ce #[a0] w R:=
 jX (ann:=alK) Tryz.f39 agY [a0] arB 6 TryzM.mixed Tryz.func39 (kL h dE)
def Nf:FA:=⟨mD,λi=> .leaf ([],[]) []⟩
def Qd:List ResultVar:=[.tmp 2,.tmp 3]
noncomputable def L3:Code:=bA Tryz.f40
def DW(R:K1) fB w:=
 aA pg (cQ fB) w λc4 w=>
 aA pg (aD 99 c4 1) w λc5 w=>
 aA pg (aB 9 c5) w λc6 w=>
 aA pg (aE .add 9 aN aN c6 (.string ⟨#[46,108,111,103]⟩)) w λc7 w=>
 aG pg lG #[fB,c7] w λc8 w=>
 aA pg (aQ c8 0) w λc9 w=>
 aA pg (aQ c8 1) w λd0 w=>
 aA pg (aQ c8 2) w λd1 w=>
 aA pg (aE .neq 31 (.tmp 22) (.const (aL2 0)) d1 (aL2 0)) w λd3 w=>
 cS d3
  (R (.tuple #[(.slice none 0 0),d1]) w)
  (aG pg fY #[c9] w λd7 w=>
  aA pg (aQ d7 0) w λd8 w=>
  aA pg (aQ d7 1) w λd9 w=>
  aG pg ES #[d8,(.int .u8 1)] w λe2 w=>
  aA pg (aQ e2 0) w λe3 w=>
  aA pg (aQ e2 1) w λe4 w=>
  aA pg (aE .eql 26 (.tmp 35) (.const (.int .u64 18446744073709551615)) e3 (.int .u64 18446744073709551615)) w λe6 w=>
  cS e6
   (R (.tuple #[(.slice none 0 0),(aL2 23)]) w)
   (aA pg (aE .add 26 aN aN e3 (.int .u64 1)) w λf0 w=>
   aA pg (cQ fB) w λf2 w=>
   aA pg (aD 99 f2 3) w λf3 w=>
   aA pg (aF 26 f3 f0) w λ_u w=>
   aA pg (cQ fB) w λf4 w=>
   aA pg (aD 99 f4 5) w λf5 w=>
   aA pg (aF 3 f5 d9) w λ_u w=>
   aA pg (cQ fB) w λf9 w=>
   aA pg (aD 99 f9 3) w λi0 w=>
   aA pg (aB 26 i0) w λi1 w=>
   aA pg (bV 109 [(0,(.int .u8 1)),(1,i1)]) w λi2 w=>
   aG pg mE #[fB,i2] w λi3 w=>
   R (.tuple #[d8,i3]) w))
def Jz a0 w(R:K1):=
 DW R a0 w
theorem MZ{a0 w R}(h:Jz a0 w R):aG pg mD #[a0] w R:=
 jX (ann:=Nf) Tryz.f40 L3 [a0] Qd 54 TryzM.mixed Tryz.func40 (kL h dE)
def Ng:FA:=⟨qP,λi=>match Nat.beq i 5 with|true=> .leaf ([9],[]) (fz 9 (ft [] (fz 1 [])))|false=>match Nat.beq i 11 with|true=> .leaf ([13,14],[(2,13),(3,13),(4,13),(6,13),(7,13),(8,13),(9,13),(11,13)]) (fz 13 (ft [1,3,4,5,6,8,9,10] (ft [] (fz 2 []))))|false=> .leaf ([],[]) []⟩
def Qe:List ResultVar:=[.tmp 2,.tmp 3]
noncomputable def L4:Code:=bA Tryz.f41
def pW(R:K1) fB b_4 b5 w:=
 aA pg (cQ fB) w λf6 w=>
 aA pg (aD 99 f6 2) w λf7 w=>
 aA pg (aD 30 f7 0) w λf8 w=>
 aA pg (aB 26 f8) w λf9 w=>
 aA pg (cP 26 3 f9) w λi0 w=>
 aA pg (eK .len #[22] 3 [b_4]) w λi2 w=>
 aA pg (aE .sub 3 aN aN i0 i2) w λi3 w=>
 aA pg (aE .gtr 3 aN aN i3 (aL2 0)) w λi5 w=>
 Gd (bG i5 false) (λK=>K b5 w) w λi7 w=>
 Gd (bG i5 false) (λK=>aA pg (G2 .not i7) w K) w λi8 w=>
 aA pg (cH i5 (.bool true) i8) w λi9 w=>
 cS i9
  ((dr w)=(dr w)/\
  (dr w)=(dr w)/\
  aA pg (cQ fB) (dr w) λj2 w_=>w_=(dr w)/\
  aA pg (aD 99 j2 0) (dr w) λj3 w_=>w_=(dr w)/\
  aA pg (aB 34 j3) (dr w) λj4 w_=>w_=(dr w)/\
  (dr w)=(dr w)/\
  aA pg (cQ fB) (dr w) λj6 w_=>w_=(dr w)/\
  aA pg (aD 99 j6 1) (dr w) λj7 w_=>w_=(dr w)/\
  aA pg (aB 9 j7) (dr w) λj8 w_=>w_=(dr w)/\
  aA pg (aE .add 9 aN aN j8 (.string ⟨#[46,112,97,114,116]⟩)) (dr w) λj9 w_=>w_=(dr w)/\
  (dr w)=(dr w)/\
  aA pg (eK .len #[22] 3 [b_4]) (dr w) λl1 w_=>w_=(dr w)/\
  (dr w)=(dr w)/\
  aA pg (yX 22 i3 i3) (dr w) λl3 JI=>
  (aP pg (eK .len #[22] 3 [b_4]) l1 JI/\aP pg (aE .add 9 aN aN j8 (.string ⟨#[46,112,97,114,116]⟩)) j9 JI/\aP pg (aB 9 j7) j8 JI/\aP pg (aD 99 j6 1) j7 JI/\aP pg (cQ fB) j6 JI/\aP pg (aB 34 j3) j4 JI/\aP pg (aD 99 j2 0) j3 JI/\aP pg (cQ fB) j2 JI/\True)/\
  aG pg gD #[j4,j9,l1,l3] JI λl4 akY=>
  akY=akY/\
  akY=akY/\
  R (.tuple #[b_4,l4]) akY)
  (R (.tuple #[b_4,(aL2 0)]) w)
def DX(kn:K3)(R:K1) fB w:=
 aA pg (cQ fB) w λc2 w=>
 aA pg (aD 99 c2 1) w λc3 w=>
 aA pg (aB 9 c3) w λc4 w=>
 aA pg (aE .add 9 aN aN c4 (.string ⟨#[46,112,97,114,116]⟩)) w λc5 w=>
 aG pg lG #[fB,c5] w λc6 w=>
 aA pg (aQ c6 0) w λc7 w=>
 aA pg (aQ c6 1) w λc8 w=>
 aA pg (aQ c6 2) w λc9 w=>
 aA pg (aE .neq 31 (.tmp 20) (.const (aL2 0)) c9 (aL2 0)) w λd1 w=>
 cS d1
  (R (.tuple #[(.slice none 0 0),c9]) w)
  (aA pg (eK .len #[22] 3 [c7]) w λd4 w=>
  aA pg (cP 3 26 d4) w λd5 w=>
  aA pg (cQ fB) w λd7 w=>
  aA pg (aD 99 d7 2) w λd8 w=>
  aA pg (aD 30 d8 0) w λd9 w=>
  aA pg (aB 26 d9) w λe0 w=>
  aA pg (aE .gtr 26 aN aN d5 e0) w λe1 w=>
  cS e1
   ((dr w)=(dr w)/\
   aA pg (cQ fB) (dr w) λe3 w_=>w_=(dr w)/\
   aA pg (aD 99 e3 0) (dr w) λe4 w_=>w_=(dr w)/\
   aA pg (aB 34 e4) (dr w) λe5 w_=>w_=(dr w)/\
   (dr w)=(dr w)/\
   aA pg (cQ fB) (dr w) λe7 w_=>w_=(dr w)/\
   aA pg (aD 99 e7 1) (dr w) λe8 w_=>w_=(dr w)/\
   aA pg (aB 9 e8) (dr w) λe9 w_=>w_=(dr w)/\
   aA pg (aE .add 9 aN aN e9 (.string ⟨#[46,112,97,114,116]⟩)) (dr w) λf0 w_=>w_=(dr w)/\
   aG pg tU #[e5,f0] (dr w) λf1 aED=>
   aED=aED/\
   aA pg (aE .neq 31 (.tmp 42) (.const (aL2 0)) f1 (aL2 0)) aED λf3 w=>
   cS f3
    (R (.tuple #[(.slice none 0 0),f1]) w)
    (kn fB (.slice none 0 0) (.bool false) w))
   (kn fB c7 c8 w))
def DY(R:K1) fB w:=
 DX (pW R) R fB w
def JA a0 w(R:K1):=
 DY R a0 w
theorem M0 {a0 w R}(h:JA a0 w R):aG pg qP #[a0] w R:=
 jX (ann:=Ng) Tryz.f41 L4 [a0] Qe 76 TryzM.mixed Tryz.func41 (dN 4 (Up (GO (pW R) 0 4 5) h (λg w h=>aJ (kL h dE)) dE))
def Vk:FA:=⟨dQ,λi=> .leaf ([],[]) []⟩
def Yp:List ResultVar:=[.tmp 2]
noncomputable def TJ:Code:=bA Tryz.f42
def Kd(R:K1) fI w:=
 aG pg mC #[fI] w λb5 w=>
 aA pg (aE .neq 31 (.tmp 6) (.const (aL2 0)) b5 (aL2 0)) w λb7 w=>
 cS b7
  (R b5 w)
  (aG pg qM #[fI] w λc0 w=>
  cS c0
   (R (aL2 20) w)
   (aA pg (cQ fI) w λc4 w=>
   aA pg (aD 76 c4 2) w λc5 w=>
   aA pg (aB 73 c5) w λc6 w=>
   aG pg wX #[c6] w λc7 w=>
   aA pg (cQ fI) w λc8 w=>
   aA pg (aD 76 c8 1) w λc9 w=>
   aA pg (aF 73 c9 c7) w λ_u w=>
   aA pg (cQ fI) w λd0 w=>
   aA pg (aD 76 d0 3) w λd1 w=>
   aA pg (aF 74 d1 (.slice none 0 0)) w λ_u w=>
   R (aL2 0) w))
def Q5 a0 w(R:K1):=
 Kd R a0 w
theorem TQ{a0 w R}(h:Q5 a0 w R):aG pg dQ #[a0] w R:=
 jX (ann:=Vk) Tryz.f42 TJ [a0] Yp 22 TryzM.mixed Tryz.func42 (kL h dE)
end Go.Proofs.YteelnmpbnaohpaaGreatDoor

/- Parts of the proof of DiskPlays: merged and given short names by a program of ours. -/
import Derived.Orders
import Derived.Below
import Derived.KernelRfl
import Derived.Eval
import Derived.RangeFuncRecord
import Derived.Laws.Sem
import Derived.Scope
import Derived.Test.YtmhokapokchneaaRows
import Derived.Laws.IdiomStrings
set_option linter.unusedVariables false
set_option linter.unusedSimpArgs false
open Array renaming all_eq_true' → U6, getElem?_eq_getElem → UH, getElem?_setIfInBounds_self_of_lt → UI, getElem?_setIfInBounds_ne → UK, getElem?_eq_none → UR, getD_eq_getD_getElem? → Uy, length_toList → VL, mem_of_getElem? → VQ, getElem?_modify → Vp, getElem?_toList → Vq
open Bool renaming or_eq_true → U4, false_eq_true → UE, and_eq_true → Uz, not_true → VJ, or_eq_false_iff → VU, not_eq_true' → Vj
open List renaming mem_map → U1, length_drop → U8, length_map → UA, map_cons → UB, mem_cons_of_mem → UC, mem_cons → UD, getElem?_eq_getElem → UG, length_cons → UL, getElem?_append_left → UN, mem_cons_self → UP, length_take → US, length_eq_zero_iff → UT, mem_range → UW, all_eq_true → UX, length_append → Uu, getElem?_cons_zero → Uv, getElem?_cons_succ → Ux, mem_append_right → VH, getD_eq_getElem?_getD → VK, size_toArray → VN, length_filter_le → VR, mem_filter → VV, mem_of_mem_take → VW, map_congr_left → Va, drop_eq_getElem_cons → Vb, mem_append → Vc, getElem?_eq_none → Ve, length_replicate → Vf, getElem?_toArray → Vr, mem_append_left → Vt, mem_of_getElem? → Vu
open Nat renaming lt_or_ge → U0, le_refl → UF, eq_of_beq_eq_true → UO, lt_of_lt_of_le → UQ, zero_add → Uw, ne_of_lt → V0, blt_eq → VE, add_assoc → Vi, le_trans → Vm, le_of_ble_eq_true → Vs
open Option renaming map_some → Vd, getD_some → Vo
open Option.some renaming inj → U5, injEq → VF
namespace Go.En
open Go
abbrev V2:=World
abbrev V3:=Value
abbrev Env:=Nat->V3
def put(g:Env)(d:Option Tmp)(v:V3):Env:=
 match d with
 |some d=>λi=>match Nat.beq i d with|true=>v|false=>g i
 |none=>g
def ev(g:Env):Operand->V3
 | .tmp t=>g t
 | .const v=>v
 | .global b=> .pointer (some ⟨b,0,none⟩)
 | .func f=> .func (.func f) #[] #[]
def TR(P:Program)(f:FuncId)(args:Array V3)(w:V2)(v:V3)(w':V2):Prop:=
 Calls P f args w λe w''=>e= .returned v/\w''=w'
def aH(P:Program)(f:FuncId)(args:Array V3)(w:V2)(R:V3->V2->Prop):Prop:=
 ∃v w',TR P f args w v w'/\R v w'
theorem aH.mono {P:Program}{f:FuncId}{args:Array V3}{w:V2}{R R':V3->V2->Prop}(h:aH P f args w R)
 (hr:∀v w',R v w'->R' v w'):aH P f args w R':=
 let⟨v,w',a,b⟩:=h;⟨v,w',a,hr _ _ b⟩
def SW(P:Program)(l:Nat)(f:FuncId)(tmps:Array V3)(Ut bd:Code)(w:V2)(v:V3)(w':V2):Prop:=
 RoundIn Fence.wide 0 P l f tmps Ut bd w λe w''=>e= .returned v/\w''=w'
def J4 (P:Program)(l:Nat)(f:FuncId)(tmps:Array V3)(Ut bd:Code)(w:V2)(R:V3->V2->Prop):Prop:=
 ∃v w',SW P l f tmps Ut bd w v w'/\R v w'
def Od(P:Program)(r:Result Next)(K:V3->V2->Prop):Prop:=
 match r with
 | .ok (.value v) w=>K v w
 | .ok .skip w=>K undef w
 | .ok (.enter f args) w=>aH P f args w K
 | .ok (.round l f tmps Ut bd) w=>J4 P l f tmps Ut bd w K
 |_=>False
theorem aV(P:Program)(v:V3)(w:V2)(K:V3->V2->Prop):Od P (.ok (.value v) w) K=K v w:=Eq.trans rfl rfl
theorem stepR_skip(P:Program)(w:V2)(K:V3->V2->Prop):Od P (.ok .skip w) K=K undef w:=Eq.trans rfl rfl
theorem Ml(P:Program)(l:Nat)(f:FuncId)(tmps:Array V3)(Ut bd:Code)(w:V2)(K:V3->V2->Prop):
 Od P (.ok (.round l f tmps Ut bd) w) K=J4 P l f tmps Ut bd w K:=Eq.trans rfl rfl
def aB(P:Program)(s:Sem Next)(w:V2)(K:V3->V2->Prop):Prop:=Od P (s.run P w) K
def tZ(P:Program)(s:Sem Next)(v:V3)(w:V2):Prop:=s.run P w= .ok (.value v) w
def Gd(b:Bool)(s:(V3->V2->Prop)->Prop)(w:V2)(K:V3->V2->Prop):Prop:=
 match b with
 |true=>s K
 |false=>K undef w
def T7 (v:V3):Option Bool:=match v with| .bool b=>some b|_=>none
def bB(v:V3)(want:Bool):Bool:=T7 v==some want
def eT(v:V3)(A B:Prop):Prop:=
 match v with
 | .bool b=>(match b with|true=>A|false=>B)
 |_=>False
def uX(ops:Array Oper)(j:Nat):Option Tmp:=(ops[j]?).bind (·.dst)
def rH(g:Env)(t:Option Tmp)(want:Bool):Bool:=match t with|some t=>bB (g t) want|none=>false
def V(s:Sem V3):Sem Next:=do pure (.value (<-s))
def U(s:Sem Unit):Sem Next:=do s;pure .skip
def xJ(op:BinOp):Bool:=match op with| .eql| .neq=>true|_=>false
def aE(op:BinOp)(t:TypeId)(ox oy:Operand)(x y:V3):Sem Next:=
 match xJ op with
 |true=>V (do eqGuard op t ox oy x y;binOp op t x y)
 |false=>V (binOp op t x y)
def kY(b:Builtin)(ats:Array TypeId)(ty:TypeId)(args:List V3):Sem Next:=builtin b ats ty #[] args.toArray
def zF(f:V3)(args:List V3):Sem Next:=do let d<-Deferred.ofValue f args.toArray;invoke d.target d.args
def Mh(fn:Fn)(first captured:List V3):Sem Next:=V (Instr.makeFunc fn first.toArray captured.toArray)
def kS(t:TypeId)(ps:List (Nat×V3)):Sem Next:=V (Instr.build t ps.toArray)
def bY(t:TypeId)(n:Nat)(ps:List (Nat×V3)):Sem Next:=V (Instr.buildSlice t n ps.toArray)
def Bx(g:Env)(o:Oper):Sem Next:=
 match o.op with
 | .binOp op t x y _=>aE op t x y (ev g x) (ev g y)
 | .makeFunc fn first captured=>Mh fn (first.toList.map (ev g)) (captured.toList.map (ev g))
 | .build t ps=>kS t (ps.toList.map λp=>(p.1,ev g p.2))
 | .buildSlice t n ps=>bY t n (ps.toList.map λp=>(p.1,ev g p.2))
 | .call c=>(match c.callee with
   | .builtin b=>kY b c.argTypes o.type (c.args.toList.map (ev g))
   | .value f=>zF (ev g f) (c.args.toList.map (ev g))
   |_=>execOp (ev g) o)
 |_=>execOp (ev g) o
def Aq(P:Program)(g:Env)(o:Oper)(w:V2)(K:V3->V2->Prop):Prop:=
 match o.op with
 | .move x=>K (ev g x) w
 | .assign x=>K (ev g x) w
 | .call c=>(match c.callee with
   | .value (.func f)=>aH P f (c.args.toList.map (ev g)).toArray w K
   |_=>aB P (Bx g o) w K)
 |_=>aB P (Bx g o) w K
def yY(P:Program)(ops:Array Oper)(g:Env)(o:Oper)(w:V2)(K:V3->V2->Prop):Prop:=
 match o.guard with
 |none=>Aq P g o w K
 |some (j,want)=>Gd (rH g (uX ops j) want) (Aq P g o w) w K
def IN(P:Program)(ops:Array Oper):List Oper->Env->V2->(Env->V2->Prop)->Prop
 |[],g,w,K=>K g w
 |o::rest,g,w,K=>yY P ops g o w λv w'=>IN P ops rest (put g o.dst v) w' K
structure Rec where
 heavy:Bool
 o:Oper
 g:Env
 w:V2
 v:V3
def TM(ops:Array Oper)(o:Oper)(g:Env):Bool:=match o.guard with|none=>true|some (j,want)=>rH g (uX ops j) want
def Gs(b:Bool)(p:Prop):Prop:=match b with|true=>p|false=>True
def Fk(P:Program)(ops:Array Oper)(q:Rec)(o:Oper)(g:Env)(w':V2)(v:V3):Prop:=
 match q.heavy with
 |true=>Gs (TM ops o g) (tZ P (Bx g o) v q.w)
 |false=>Gs (TM ops q.o q.g) (tZ P (Bx q.g q.o) q.v w')
def I5 (i j:Nat):List (Nat×Nat)->Bool
 |[]=>false
 |(a,b)::r=>match Nat.beq a i with
  |true=>(match Nat.beq b j with|true=>true|false=>I5 i j r)
  |false=>I5 i j r
def lD(i:Nat):List Nat->Bool
 |[]=>false
 |a::r=>match Nat.beq a i with|true=>true|false=>lD i r
def LY:List Rec->Nat->Option Rec
 |[],_=>none
 |q::_,0=>some q
 |_::r,n+1=>LY r n
def Rf(P:Program)(ops:Array Oper)(o:Oper)(g:Env)(w':V2)(v:V3)(hist:List Rec):List Nat->Prop
 |[]=>True
 |k::ks=>(match LY hist k with
  |some q=>Fk P ops q o g w' v
  |none=>False)/\Rf P ops o g w' v hist ks
abbrev NC:=List Nat×List (Nat×Nat)
abbrev Ll:=List (Bool×List Nat)
def mL(P:Program)(ops:Array Oper):List Oper->Ll->List Rec->Env->V2->(Env->V2->Prop)->Prop
 |[],_,_,g,w,K=>K g w
 |_::_,[],_,_,_,_=>False
 |o::rest,(hv,ks)::pl,hist,g,w,K=>
  yY P ops g o w λv w'=>
   match hv,ks with
   |true,[]=>mL P ops rest pl (⟨true,o,g,w,v⟩::hist) (put g o.dst v) w' K
   |true,k::ks=>Rf P ops o g w' v hist (k::ks)/\mL P ops rest pl (⟨true,o,g,w,v⟩::hist) (put g o.dst v) w' K
   |false,[]=>w'=w/\mL P ops rest pl (⟨false,o,g,w,v⟩::hist) (put g o.dst v) w K
   |false,k::ks=>w'=w/\Rf P ops o g w v hist (k::ks)/\mL P ops rest pl (⟨false,o,g,w,v⟩::hist) (put g o.dst v) w K
def bG{α:Type}(F:(α->V2->Prop)->α->V2->Prop)(g:α)(w:V2):Prop:=
 ∃I:Nat->α->V2->Prop,(∃n,I n g w)/\∀n g w,I n g w->F (λg' w'=>∃m,m<n/\I m g' w') g w
def sL(K:Env->V2->Prop)(Q:Exit->Env->V2->Prop):Exit->Env->V2->Prop:=
 λe g w=>(λ(_:Program->Sem Next->V2->(V3->V2->Prop)->Prop)=>match e with| .normal=>K g w|e=>Q e g w) aB
def Rc(id:Nat)(Q:Exit->Env->V2->Prop):Exit->Env->V2->Prop:=
 λe g w=>(λ(_:Program->Sem Next->V2->(V3->V2->Prop)->Prop)=>match e with| .exit i=>(match Nat.beq i id with|true=>Q .normal g w|false=>Q (.exit i) g w)|e=>Q e g w) aB
inductive HT where
 |leaf (an:NC) (pl:Ll)
 |perm (π:List Nat) (es:List (Nat×Nat)) (an:NC) (pl:Ll)
 |split(a b:Nat) (x y:HT)
structure FA where
 f:FuncId
 t:Nat->HT
def pN:List Nat->Nat->Nat
 |[],_=>0
 |a::r,i=>match Nat.beq a i with|true=>0|false=>pN r i+1
def xS(π:List Nat)(i:Nat):List (Nat×Nat)->List Edge
 |[]=>[]
 |(a,b)::r=>match Nat.beq b i with|true=>⟨pN π a,.data⟩::xS π i r|false=>xS π i r
def AP(π:List Nat)(es:List (Nat×Nat))(i:Nat)(o:Oper):Oper:=
 {dst:=o.dst,op:=o.op,type:=o.type,pos:=o.pos,after:=(o.after.toList.map (λe=>(⟨pN π e.on,e.ground⟩:Edge))++xS π i es).toArray,
  guard:=match o.guard with|none=>none|some (j,b)=>some (pN π j,b)}
def Gv(π:List Nat)(es:List (Nat×Nat))(l:List Oper):List Nat->List Oper
 |[]=>[]
 |i::r=>match l[i]? with|some o=>AP π es i o::Gv π es l r|none=>Gv π es l r
def kX(π:List Nat)(es:List (Nat×Nat))(ops:Array Oper):Array Oper:=(Gv π es ops.toList π).toArray
def So(f:FuncId)(id:Nat)(ops:Array Oper)(a b:Nat)(w:V2):Bool:=
 Nat.ble ((Region.schedule true ops (w.tape w.drawn (.order f id))).idxOf a) ((Region.schedule true ops (w.tape w.drawn (.order f id))).idxOf b)
def Ord(b:Bool)(A B:Prop):Prop:=match b with|true=>A|false=>B
def Lu(P:Program)(f:FuncId)(id:Nat)(ops:Array Oper):HT->Env->V2->V2->(Env->V2->Prop)->Prop
 | .leaf _ pl,g,_,w,K=>mL P ops ops.toList pl [] g w K
 | .perm π es _ pl,g,_,w,K=>mL P (kX π es ops) (kX π es ops).toList pl [] g w K
 | .split a b x y,g,w0,w,K=>Ord (So f id ops a b w0) (Lu P f id ops x g w0 w K) (Lu P f id ops y g w0 w K)
def DS:Nat:=1000003
def Lx:V3->List Deferred
 | .pointer (some a)=>[{target:= .collected a.block,args:= #[]}]
 |_=>[]
def noMark:V3->Bool
 | .pointer _=>false
 |_=>true
def tmpsOf(N:Nat)(g:Env):Array V3:=Array.ofFn (n:=N) λi=>g i.val
def Hc(P:Program)(f:FuncId):Nat:=match P.funcs[f]? with|some fn=>fn.ntmps|none=>0
def Sd(Q:Exit->Env->V2->Prop)(g:Env):Option Code->V2->Prop
 |none,w=>Q .normal g w
 |some .ret,w=>Q .ret g w
 |some (.exit i),w=>Q (.exit i) g w
 |_,_=>False
def Pq(l:Nat)(Q:Exit->Env->V2->Prop)(g:Env)(w:V2):Prop:=
 ∃r:Loop,w.heap[l]?=some (.loop r)/\r.state≠.busy/\Sd Q g r.pending (w.putObj l (.loop {r with state:= .exhausted}))
def Ph(f:FuncId)(N:Nat)(ps:Array Tmp)(Ut bd:Code)(g:Env)(w:V2):V2:=
 (w.alloc (.deferred (some []))).alloc (.loop {state:= .ready,pending:=none,fn:=f,tmps:=tmpsOf N g,params:=ps,assign:=Ut,body:=bd,defers:=w.heap.size})
def Tr(P:Program)(r:Result Next)(K:V3->V2->Prop):Prop:=
 match r with
 | .ok (.enter f args) w=>aH P f args w K
 |_=>False
def zO(l:Nat):V3:= .func (.yield l) #[] #[]
def RF(P:Program)(f:FuncId)(gf:Operand)(ps:Array Tmp)(Ut bd:Code)(Q:Exit->Env->V2->Prop)(g:Env)(w:V2):Prop:=
 match noMark (g DS)with
 |true=>Tr P ((zF (ev g gf) [zO (w.heap.size+1)]).run P (Ph f (Hc P f) ps Ut bd g w)) λ_ w3=>
  Pq (w.heap.size+1) Q (put g (some DS) (.pointer (some ⟨w.heap.size,0,none⟩))) w3
 |false=>False
def eF(P:Program)(ann:FA):Code->(Exit->Env->V2->Prop)->Env->V2->Prop
 | .skip,Q,g,w=>Q .normal g w
 | .region id ops draw,Q,g,w=>match draw with
   |false=>IN P ops ops.toList g w (Q .normal)
   |true=>Lu P ann.f id ops (ann.t id) g w {w with drawn:=w.drawn+1} (Q .normal)
 | .seq x y,Q,g,w=>eF P ann x (sL (λg w=>eF P ann y Q g w) Q) g w
 | .cond c x y,Q,g,w=>eT (ev g c) (eF P ann x Q g w) (eF P ann y Q g w)
 | .block id c,Q,g,w=>eF P ann c (Rc id Q) g w
 | .loop c,Q,g,w=>bG (λX g w=>eF P ann c (sL X Q) g w) g w
 | .scope c,Q,g,w=>eF P ann c Q g w
 | .label _,Q,g,w=>Q .normal g w
 | .exit id,Q,g,w=>Q (.exit id) g w
 | .ret,Q,g,w=>Q .ret g w
 | .rangeFunc gf ps Ut bd,Q,g,w=>RF P ann.f gf ps Ut bd Q g w
 |_,_,_,_=>False
def NN(N:Nat)(o:Oper):Bool:=match o.dst with|some d=>Nat.blt d N|none=>true
def Pa(b:Array Nat)(i j:Nat):Bool:=(b.getD j 0).testBit i
def looks(ops:Array Oper)(o:Oper):List Tmp:=
 (o.op.operands.toList.filterMap λ| .tmp t=>some t|_=>none)++(match o.guard with|some (j,_)=>(uX ops j).toList|none=>[])
def PC(ops:Array Oper)(x y:Oper):Bool:=
 (match x.dst with|some d=>(looks ops y).contains d||y.dst==some d|none=>false)||
 (match y.dst with|some d=>(looks ops x).contains d|none=>false)
def HJ(o:Oper):Bool:=match o.op with| .select .. =>true|_=>false
def PY(o:Oper):Bool:=match o.op with| .call {callee:= .value (.func _),.. }=>true|_=>false
def Kb(o:Oper):Bool:=match o.op with| .defer .. =>true|_=>false
def Kg:Operand->Bool| .tmp t=>Nat.blt t DS|_=>true
def Ip(P:Program)(o:Oper):Bool:=
 match o.op with
 | .call c=>(match c.callee with
   | .value (.func f)=>(match P.funcs[f]? with|some fn=>fn.body.isSome&& !(fn.name== "runtime.NumGoroutine")|none=>false)
   | .builtin b=>(match b with| .print| .println=>false|_=>true)
   |_=>true)
 |_=>true
def tA(P:Program)(o:Oper):Bool:=Ip P o&&(o.op.operands.toList.all Kg&&(!HJ o&& !Kb o))
def BP(o:Oper):Bool:=match o.op with| .move _| .assign _=>true|_=>false
def Dt(ops:Array Oper)(b:Array Nat)(an:NC)(i j:Nat)(x y:Oper):Bool:=
 Pa b i j||
 (!PC ops x y&&
   match lD i an.1,lD j an.1 with
   |true,true=>false
   |false,false=>true
   |true,false=>BP y||I5 i j an.2
   |false,true=>BP x||I5 i j an.2)
def Ln(ops:Array Oper)(b:Array Nat)(an:NC):Bool:=
 (List.range ops.size).all λj=>(List.range j).all λi=>
  match ops[i]?,ops[j]? with
  |some x,some y=>Dt ops b an i j x y
  |_,_=>false
def J8 (ops:Array Oper):Bool:=
 (List.range ops.size).all λi=>match ops[i]? with
  |some o=>o.after.all λe=> !Region.binds .any e||Nat.blt e.on i
  |none=>false
def J6 (ops:Array Oper)(b:Array Nat):Bool:=
 (List.range ops.size).all λj=>(List.range ops.size).all λi=>
  !Pa b i j||(match ops[j]? with
   |some o=>o.after.any λe=>Region.binds .any e&&(Nat.beq e.on i||Pa b i e.on)
   |none=>false)
def IQ(ops:Array Oper)(an:NC):Bool:=
 J8 ops&&J6 ops (Region.before ops)&&Ln ops (Region.before ops) an&&(ops.all λo=> !HJ o)&&
  (List.range ops.size).all λi=>match ops[i]? with|some o=> !PY o||lD i an.1|none=>false
def I8 (n:Nat)(an:NC)(pl:Ll):Bool:=
 (List.range n).all λi=>match pl[i]? with
  |some (h,ks)=>h==lD i an.1&&an.2.all λp=> !Nat.beq p.2 i||(Nat.blt p.1 i&&ks.contains (i-1-p.1))
  |none=>false
def MZ(π:List Nat)(ops:Array Oper):Bool:=
 Nat.beq π.length ops.size&&((List.range ops.size).all λk=>match π[k]? with|some i=>Nat.beq (pN π i) k&&Nat.blt i ops.size|none=>false)&&
  ((List.range ops.size).all λi=>match π[pN π i]? with|some j=>Nat.beq j i|none=>false)&&
  ((List.range ops.size).all λi=>match ops[i]? with
    |some o=>(o.after.all λe=>Nat.blt e.on ops.size)&&(match o.guard with|some (j,_)=>Nat.blt j ops.size|none=>true)
    |none=>false)
def FQ(P:Program)(N:Nat)(ops:Array Oper):List (Nat×Nat)->HT->Bool
 |_,.leaf an pl=>IQ ops an&&I8 ops.size an pl
 |path,.perm π es an pl=>(es.all λp=>I5 p.1 p.2 path&&Nat.blt p.1 ops.size)&&MZ π ops&&(kX π es ops).all (NN N)&&(kX π es ops).all (tA P)&&
  IQ (kX π es ops) an&&I8 (kX π es ops).size an pl
 |path,.split a b x y=> !Nat.beq a b&&FQ P N ops ((a,b)::path) x&&FQ P N ops ((b,a)::path) y
def codeOk(P:Program)(N:Nat)(ann:FA):Code->Bool
 | .skip| .exit _| .ret| .label _=>true
 | .scope c=>codeOk P N ann c
 | .region id ops draw=>ops.all (NN N)&&ops.all (tA P)&&(!draw||FQ P N ops [] (ann.t id))
 | .seq x y=>codeOk P N ann x&&codeOk P N ann y
 | .cond c x y=>Kg c&&(codeOk P N ann x&&codeOk P N ann y)
 | .block _ c=>codeOk P N ann c
 | .loop c=>codeOk P N ann c
 | .rangeFunc gf _ _ _=>Kg gf
 |_=>false
def mP:Code->Bool
 | .seq x y=>mP x&&mP y
 | .cond _ x y=>mP x&&mP y
 | .block _ c=>mP c
 | .loop c=>mP c
 | .scope c=>mP c
 | .rangeFunc .. =>false
 |_=>true
def Kk:ResultVar->Bool
 | .tmp t=>Nat.blt t DS
 | .cell a _=>Nat.blt a DS
theorem By(g:Env)(d i:Nat)(v:V3):put g (some d) v i=if i=d then v else g i:=by
 unfold put
 by_cases h:i=d
 .subst h;simp
 .have:Nat.beq i d=false:=by
   cases hb:Nat.beq i d
   .rfl
   .exact absurd (UO hb) h
  simp[this,h]
theorem Lq{P:Program}{o:Oper}(h:tA P o=true):Ip P o=true:=by
 unfold tA at h;simp only[Uz]at h;exact h.1
theorem MF{P:Program}{o:Oper}(h:tA P o=true):∀x∈o.op.operands,Kg x=true:=by
 unfold tA at h;simp only[Uz]at h
 intro x hx
 exact UX.1 h.2.1 x (by simpa using hx)
theorem MG{P:Program}{o:Oper}(h:tA P o=true):HJ o=false:=by
 unfold tA at h;simp only[Uz,Vj]at h;exact h.2.2.1
theorem ME{P:Program}{o:Oper}(h:tA P o=true):Kb o=false:=by
 unfold tA at h;simp only[Uz,Vj]at h;exact h.2.2.2
def Fb(N:Nat)(ops:Array Oper):Prop:=∀(i:Nat) (o:Oper),ops[i]?=some o->∀t,o.dst=some t->t<N
structure CM(N:Nat)(g:Env)(a:Act):Prop where
 le:N<=DS
 defers:a.defers=Lx (g DS)
 size:a.tmps.size=N
 at_:∀i,i≠DS->a.tmps.getD i undef=g i
theorem CM.ev {N:Nat}{g:Env}{a:Act}(h:CM N g a)(x:Operand)(hx:Kg x=true):a.eval x=ev g x:=by
 cases x with
 |tmp t=>
  have:t<DS:=(VE (x:=t) (y:=DS))▸hx
  have e:=h.at_ t (V0 this)
  simp[Act.eval,En.ev,<-e]
 |_=>simp[Act.eval,En.ev]
theorem CM.put {N:Nat}{g:Env}{a:Act}(h:CM N g a)(d:Option Tmp)(v:V3)(hd:∀t,d=some t->t<N):
 CM N (put g d v) (a.put d v):=by
 cases d with
 |none=>exact h
 |some t=>
  obtain⟨h0,h1,h2,h3⟩:=h
  have ht:=hd t rfl
  refine⟨h0, ?_,by simp[Act.put,h2],λi hne=> ?_⟩
  .rw [By,if_neg (Nat.ne_of_gt (UQ ht h0))];exact h1
  .rw [By,<-h3 i hne]
   by_cases hi:i=t
   .subst hi;simp[Act.put,h2,ht]
   .have hi':t≠i:=λe=>hi e.symm
    simp[Act.put,hi,UK hi']
theorem CM.wanted {N:Nat}{g:Env}{a:Act}(h:CM N g a)(ops:Array Oper)(hd:Fb N ops)(o:Oper):
 Region.wanted o (yielded ops a.tmps)=match o.guard with|none=>true|some (j,want)=>rH g (uX ops j) want:=by
 unfold Region.wanted
 cases o.guard with
 |none=>rfl
 |some p=>
  obtain⟨j,want⟩:=p
  simp only[yielded,rH,uX]
  cases ho:ops[j]? with
  |none=>simp
  |some o'=>
   cases hdd:o'.dst with
   |none=>simp[hdd]
   |some t=>
    have hlt:=hd j o' ho t hdd
    have hle:=h.le
    have h3:=h.at_ t (V0 (UQ hlt hle))
    simp only[hdd,Option.bind_some,bB,T7,<-h3]
    simp only[Uy]
    cases ht:a.tmps[t]? with
    |none=>simp[undef]
    |some v=>cases v<;>simp
def TN(P:Program)(o:Oper)(a:Act)(next:Act->V2->Prop):Result Next->Prop
 | .ok (.value v) w'=>next (a.put o.dst v) w'
 | .ok .skip w'=>next (a.put o.dst undef) w'
 | .ok (.enter f args) w'=>∃v w'',TR P f args w' v w''/\next (a.put o.dst v) w''
 | .ok (.round l f tmps Ut bd) w'=>∃v w'',SW P l f tmps Ut bd w' v w''/\next (a.put o.dst v) w''
 |_=>False
def Ng(P:Program)(o:Oper)(a:Act)(w:V2)(next:Act->V2->Prop):Prop:=Kb o=false/\TN P o a next ((execOp a.eval o).run P w)
def DK(P:Program)(ops:Array Oper)(i:Nat)(K:Act->V2->Prop)(a:Act)(w:V2):Prop:=
 match ops[i]? with
 |none=>K a w
 |some o=>if Region.wanted o (yielded ops a.tmps)then Ng P o a w K else K (a.put o.dst undef) w
def uZ(P:Program)(ops:Array Oper)(Q:Act->V2->Prop):List Nat->Act->V2->Prop
 |[],a,w=>Q a w
 |i::rest,a,w=>DK P ops i (uZ P ops Q rest) a w
def JE(P:Program)(ops:Array Oper)(Q:Act->V2->Prop):Nat->Array Bool->Act->V2->Prop
 |0,listed,a,w=>Region.ready .any ops listed=[]/\Q a w
 |fuel+1,listed,a,w=>
  (Region.ready .any ops listed=[]->Q a w)/\∀i∈Region.ready .any ops listed,DK P ops i (JE P ops Q fuel (listed.setIfInBounds i true)) a w
theorem Kl{P:Program}{o:Oper}{a:Act}{w:V2}{K K':Act->V2->Prop}(h:∀a w,K a w->K' a w)(hh:Ng P o a w K):Ng P o a w K':=by
 refine⟨hh.1, ?_⟩
 have hh:=hh.2
 generalize(execOp a.eval o).run P w=r at*
 cases r with
 |ok x w'=>
  cases x<;>simp only[TN]at hh⊢<;>first|exact h _ _ hh|(obtain⟨v,w'',h1,h2⟩:=hh;exact⟨v,w'',h1,h _ _ h2⟩)|exact hh
 |halt x w'=>exact hh.elim
theorem Nz{P:Program}{ops:Array Oper}{i:Nat}{a:Act}{w:V2}{K K':Act->V2->Prop}(h:∀a w,K a w->K' a w)(hh:DK P ops i K a w):DK P ops i K' a w:=by
 unfold DK at*
 split
 .exact h _ _ (by simpa[*]using hh)
 .rename_i o ho
  simp only[ho]at hh
  split
  .rename_i hw;simp only[hw,if_true]at hh;exact Kl h hh
  .rename_i hw;simp only[hw]at hh;exact h _ _ hh
def JD(ro:Option Nat):Fence:={Fence.wide with round:=ro}
theorem O8 {P:Program}{ops:Array Oper}{Q:Act->V2->Prop}(ro:Option Nat):∀(L:List Nat) (a:Act) (w:V2),uZ P ops Q L a w→
 wpOpsIn (JD ro) 0 P ops (λe a w=>e= .normal/\Q a w) L a w:=by
 intro L
 induction L with
 |nil=>intro a w h;exact⟨rfl,h⟩
 |cons i L ih=>
  intro a w h
  simp only[uZ,DK]at h
  simp only[wpOpsIn]
  cases ho:ops[i]? with
  |none=>rw[ho]at h;exact ih _ _ h
  |some o=>
   rw[ho]at h
   simp only at h⊢
   by_cases hw:Region.wanted o (yielded ops a.tmps)=true
   .rw [if_pos hw]at h⊢
    obtain⟨hd,h⟩:=h
    refine⟨λ_ _=>trivial, ?_⟩
    rw[Oper.semAt_eq _ _ _ (λc hc=>by simp[Kb,hc]at hd)]
    generalize(execOp a.eval o).run P w=r at*
    cases r with
    |halt x w'=>exact h.elim
    |ok x w'=>
     cases x<;>simp only[TN]at h<;>simp only[Oper.uponIn]<;>try(exact h.elim)
     .exact ih _ _ h
     .exact ih _ _ h
     .obtain ⟨v,w'',h1,h2⟩:=h
      refine⟨λhn=>by simp[JD,Fence.wide]at hn, ?_⟩
      have:=callsIn_wide (n:=0).2 h1
      refine CallsIn.mono (F:=JD ro) (n:=0) this ?_
      rintro e w3 ⟨rfl,rfl⟩
      exact ih _ _ h2
     .obtain ⟨v,w'',h1,h2⟩:=h
      refine⟨λhn=>by simp[JD,Fence.wide]at hn, ?_⟩
      refine RoundIn.mono (F:=JD ro) (n:=0) h1 ?_
      rintro e w3 ⟨rfl,rfl⟩
      exact ih _ _ h2
   .rw [if_neg hw]at h⊢
    exact⟨λ_ _=>trivial,ih _ _ h⟩
section
variable{P:Program}{ops:Array Oper}
def HA(P:Program)(ops:Array Oper)(g:Env)(o:Oper)(w:V2)(v:V3)(w':V2):Prop:=
 ∀K:V3->V2->Prop,K v w'->yY P ops g o w K
theorem ND{s:Sem Next}{w:V2}{K:V3->V2->Prop}(h:aB P s w K):
 ∃v w',(∀K':V3->V2->Prop,K' v w'->aB P s w K')/\K v w':=by
 unfold aB at*
 generalize s.run P w=r at*
 match r,h with
 | .ok (.value v) w1,h=>exact⟨v,w1,λ_ h'=>h',h⟩
 | .ok .skip w1,h=>exact⟨undef,w1,λ_ h'=>h',h⟩
 | .ok (.enter f args) w1,h=>
   obtain⟨v,w',hr,hk⟩:=h
   exact⟨v,w',λ_ h'=>⟨v,w',hr,h'⟩,hk⟩
 | .ok (.round l f tmps Ut bd) w1,h=>
   obtain⟨v,w',hr,hk⟩:=h
   exact⟨v,w',λ_ h'=>⟨v,w',hr,h'⟩,hk⟩
theorem Kf{g:Env}{o:Oper}{w:V2}{K:V3->V2->Prop}(h:Aq P g o w K):
 ∃v w',(∀K':V3->V2->Prop,K' v w'->Aq P g o w K')/\K v w':=by
 unfold Aq at*
 split at h
 .exact ⟨_,_,λ_ h'=>h',h⟩
 .exact ⟨_,_,λ_ h'=>h',h⟩
 .split at h
  .obtain ⟨v,w',a,b⟩:=h
   exact⟨v,w',λ_ h'=>⟨v,w',a,h'⟩,b⟩
  .exact ND h
 .exact ND h
theorem RJ(op:BinOp)(t:TypeId)(ox oy:Operand)(x y:V3):aE op t ox oy x y=V (do eqGuard op t ox oy x y;binOp op t x y):=by
 cases op<;>simp[aE,xJ,eqGuard]
theorem Qj{g:Env}{o:Oper}(ho:tA P o=true):Bx g o=execOp (ev g) o:=by
 have ho:=Lq ho
 unfold Bx
 split
 .rename_i op t x y yt hx
  simp only[execOp,hx,RJ,V]
 .rename_i fn first captured hx
  have e1:(List.map (ev g) first.toList).toArray=first.map (ev g):=by obtain⟨l⟩:=first;simp
  have e2:(List.map (ev g) captured.toList).toArray=captured.map (ev g):=by obtain⟨l⟩:=captured;simp
  simp only[execOp,hx,Mh,V,e1,e2]
 .rename_i t ps hx
  have e:(List.map (λp:Nat×Operand=>(p.1,ev g p.2)) ps.toList).toArray=ps.map (λp=>(p.1,ev g p.2)):=by obtain⟨l⟩:=ps;simp
  simp only[execOp,hx,kS,V,e]
 .rename_i t n ps hx
  have e:(List.map (λp:Nat×Operand=>(p.1,ev g p.2)) ps.toList).toArray=ps.map (λp=>(p.1,ev g p.2)):=by obtain⟨l⟩:=ps;simp
  simp only[execOp,hx,bY,V,e]
 .rename_i c hx
  split
  .rename_i b hb
   simp only[execOp,hx,resolve,hb,pure_bind,invoke,kY]
   unfold Ip at ho
   simp only[hx,hb]at ho
   have e:(List.map (ev g) c.args.toList).toArray=c.args.map (ev g):=by obtain⟨l⟩:=c.args;simp
   rw[e]
   cases b<;>first|rfl|(cases ho)
  .rename_i f hb
   have e:(List.map (ev g) c.args.toList).toArray=c.args.map (ev g):=by obtain⟨l⟩:=c.args;simp
   simp only[execOp,hx,resolve,hb,zF,e]
  .rfl
 .rfl
theorem F4 {f:FuncId}{fn:Func}(hf:P.funcs[f]?=some fn)(hb:fn.body.isSome=true)(hn:(fn.name== "runtime.NumGoroutine")=false)
 (args:Array V3) (w:V2):(callFunc f args).run P w= .ok (.enter f args) w:=by
 unfold callFunc
 have hb':fn.body.isNone=false:=by cases h:fn.body<;>simp_all
 show Sem.run P (Sem.program λp=>_) w=_
 simp only[Sem.run]
 simp only[bind,Sem.bind,hf,hn,hb',UE,if_false]
 rfl
theorem BS{g:Env}{o:Oper}{w:V2}{K:V3->V2->Prop}(h:yY P ops g o w K):
 ∃v w',HA P ops g o w v w'/\K v w':=by
 unfold HA
 unfold yY at*
 split at h
 .obtain ⟨v,w',h1,h2⟩:=Kf h
  exact⟨v,w',h1,h2⟩
 .rename_i j want hg
  unfold Gd at*
  cases hb:rH g (uX ops j) want with
  |true=>
   simp only[hb]at h
   obtain⟨v,w',h1,h2⟩:=Kf h
   exact⟨v,w',λK hk=>h1 K hk,h2⟩
  |false=>
   simp only[hb]at h
   exact⟨_,_,λK hk=>hk,h⟩
theorem HV{N i:Nat}{g:Env}{a:Act}{o:Oper}{w w':V2}{v:V3}{next:Act->V2->Prop}
 (hi:ops[i]?=some o) (hc:tA P o=true) (hd:Fb N ops) (hr:CM N g a) (hy:HA P ops g o w v w') (hn:next (a.put o.dst v) w'):DK P ops i next a w:=by
 have h:=hy (λv2 w2=>v2=v/\w2=w') ⟨rfl,rfl⟩
 unfold DK
 rw[hi]
 simp only[hr.wanted ops hd]
 have run:Aq P g o w (λv2 w2=>v2=v/\w2=w')->Ng P o a w next:=by
  intro h
  refine⟨ME hc, ?_⟩
  have hevs:execOp a.eval o=execOp (ev g) o:=execOp_congr o (λcs b he=>by have:=MG hc;simp[HJ,he]at this) (λx hx=>hr.ev x (MF hc x hx))
  have stp:aB P (Bx g o) w (λv2 w2=>v2=v/\w2=w')->TN P o a next ((execOp (ev g) o).run P w):=by
   intro h
   rw[Qj hc]at h
   unfold aB at h
   generalize(execOp (ev g) o).run P w=r at*
   match r,h with
   | .ok (.value v) w1,h=>obtain⟨rfl,rfl⟩:=h;exact hn
   | .ok .skip w1,h=>obtain⟨rfl,rfl⟩:=h;exact hn
   | .ok (.enter f args) w1,h=>
     obtain⟨v2,w2,hret,rfl,rfl⟩:=h
     exact⟨_,_,hret,hn⟩
   | .ok (.round l f tmps Ut bd) w1,h=>
     obtain⟨v2,w2,hret,rfl,rfl⟩:=h
     exact⟨_,_,hret,hn⟩
  rw[hevs]
  unfold Aq at h
  split at h
  .rename_i x hx
   obtain⟨rfl,rfl⟩:=h
   simp only[execOp,hx];exact hn
  .rename_i x hx
   obtain⟨rfl,rfl⟩:=h
   simp only[execOp,hx];exact hn
  .rename_i c hx
   split at h
   .rename_i f hcal
    obtain⟨v2,w2,hret,rfl,rfl⟩:=h
    have e:(execOp (ev g) o).run P w= .ok (.enter f (List.map (ev g) c.args.toList).toArray) w:=by
     have hc:=Lq hc
     unfold Ip at hc
     simp only[hx,hcal]at hc
     cases hfn:P.funcs[f]? with
     |none=>rw[hfn]at hc;cases hc
     |some fn=>
      rw[hfn]at hc
      simp only[Uz,Vj]at hc
      have ea:(List.map (ev g) c.args.toList).toArray=c.args.map (ev g):=by obtain⟨l⟩:=c.args;simp
      rw[ea]
      simp only[execOp,hx,resolve,hcal,ev,Deferred.ofValue,pure_bind,invoke]
      simp only[Array.empty_append,Array.append_empty]
      exact F4 hfn hc.1 hc.2 _ w
    rw[e]
    exact⟨_,_,hret,hn⟩
   .exact stp h
  .exact stp h
 unfold yY at h
 cases hg:o.guard with
 |none=>
  rw[hg]at h
  simp only[if_true]
  exact run h
 |some p=>
  obtain⟨j,want⟩:=p
  simp only[hg]at h
  simp only
  by_cases hb:rH g (uX ops j) want=true
  .rw [if_pos hb]
   simp only[hb,Gd]at h
   exact run h
  .rw [if_neg hb]
   have hb':rH g (uX ops j) want=false:=by simpa using hb
   simp only[hb',Gd]at h
   obtain⟨rfl,rfl⟩:=h
   exact hn
def FY(P:Program)(ops:Array Oper):Prop:=∀(i:Nat) (o:Oper),ops[i]?=some o->tA P o=true
theorem OL{N:Nat}(hd:Fb N ops)(hca:FY P ops){Q:Act->V2->Prop}{K:Env->V2->Prop}
 (hQ:∀g a w,CM N g a->K g w->Q a w):
 ∀(l:List Oper) (k:Nat) (g:Env) (a:Act) (w:V2),(∀j,l[j]?=ops[k+j]?)->CM N g a->IN P ops l g w K→
  uZ P ops Q (List.range' k l.length) a w:=by
 intro l
 induction l with
 |nil=>intro k g a w _ hr h;exact hQ _ _ _ hr h
 |cons o l ih=>
  intro k g a w hl hr h
  have h0:ops[k]?=some o:=by have:=hl 0;simpa using this.symm
  obtain⟨v,w',hy,hk⟩:=BS h
  rw[UL,List.range'_succ]
  show DK P ops k (uZ P ops Q _) a w
  refine HV h0 (hca k o h0) hd hr hy ?_
  refine ih (k+1) _ _ _ (λj=> ?_) (hr.put _ _ (hd k o h0)) hk
  have:=hl (j+1)
  simp only[Ux]at this
  rw[this];congr 1;omega
def HM(an:NC)(O:Nat->Oper)(G:Nat->Env)(W:Nat->V2)(V:Nat->V3)(i:Nat):Rec:=
 ⟨lD i an.1,O i,G i,W i,V i⟩
def NI(P:Program)(ops:Array Oper)(an:NC)(O:Nat->Oper)(G:Nat->Env)(W:Nat->V2)(V:Nat->V3)(i j:Nat):Prop:=
 Fk P ops (HM an O G W V i) (O j) (G j) (W (j+1)) (V j)
structure O9 (P:Program)(ops:Array Oper)(an:NC)(g0:Env)(w0:V2)(n:Nat)(O:Nat->Oper)(G:Nat->Env)(W:Nat->V2)(V:Nat->V3):Prop where
 g0:G 0=g0
 w0:W 0=w0
 op:∀i,i<n->ops[i]?=some (O i)
 yld:∀i,i<n->HA P ops (G i) (O i) (W i) (V i) (W (i+1))
 light:∀i,i<n->lD i an.1=false->W (i+1)=W i
 env:∀i,i<n->G (i+1)=put (G i) (O i).dst (V i)
 chk:∀i j,i<j->j<n->I5 i j an.2=true->NI P ops an O G W V i j
theorem Ls{o:Oper}{g:Env}{w':V2}{v:V3}{hist:List Rec}:∀{ks:List Nat},Rf P ops o g w' v hist ks->∀k∈ks,∃q,LY hist k=some q/\Fk P ops q o g w' v:=by
 intro ks
 induction ks with
 |nil=>intro _ k hk;cases hk
 |cons a ks ih=>
  rintro⟨h1,h2⟩ k hk
  rcases UD.1 hk with rfl|hk
  .cases hn:LY hist k with
   |none=>rw[hn]at h1;exact h1.elim
   |some q=>rw[hn]at h1;exact⟨q,rfl,h1⟩
  .exact ih h2 k hk
theorem OP{n:Nat}{an:NC}{pl:Ll}(h:I8 n an pl=true){i:Nat}(hi:i<n):
 ∃ks,pl[i]?=some (lD i an.1,ks)/\∀j,I5 j i an.2=true->j<i/\(i-1-j)∈ks:=by
 have:=UX.1 h i (UW.2 hi)
 cases hp:pl[i]? with
 |none=>rw[hp]at this;cases this
 |some p=>
  obtain⟨hv,ks⟩:=p
  rw[hp]at this
  simp only[Uz]at this
  obtain⟨h1,h2⟩:=this
  have h1:hv=lD i an.1:=by simpa using h1
  refine⟨ks,by rw[h1],λj hj=> ?_⟩
  have mm:∀(l:List (Nat×Nat)),I5 j i l=true->(j,i)∈l:=by
   intro l
   induction l with
   |nil=>intro h;cases h
   |cons q r ih=>
    obtain⟨a,b⟩:=q
    intro h
    unfold I5 at h
    cases ha:Nat.beq a j with
    |true=>
     simp only[ha]at h
     cases hb:Nat.beq b i with
     |true=>
      obtain rfl:=UO ha
      obtain rfl:=UO hb
      exact UP
     |false=>simp only[hb]at h;exact UC _ (ih h)
    |false=>simp only[ha]at h;exact UC _ (ih h)
  have:=UX.1 h2 (j,i) (mm _ hj)
  simp only[Nat.beq_refl,VJ,Bool.false_or,Uz]at this
  refine⟨?_,by simpa using this.2⟩
  have hlt:=this.1
  exact(VE (x:=j) (y:=i))▸hlt
theorem Me{an:NC}{pl:Ll}{g0:Env}{w0:V2}{K:Env->V2->Prop}(hpl:I8 ops.size an pl=true):
 ∀(l:List Oper) (m:Nat) (hist:List Rec) (O:Nat->Oper) (G:Nat->Env) (W:Nat->V2) (V:Nat->V3),
  (∀j,l[j]?=ops[m+j]?)->m+l.length=ops.size->O9 P ops an g0 w0 m O G W V->(∀i,i<m->LY hist (m-1-i)=some (HM an O G W V i))→
  mL P ops l (pl.drop m) hist (G m) (W m) K→
  ∃(O:Nat->Oper) (G:Nat->Env) (W:Nat->V2) (V:Nat->V3),O9 P ops an g0 w0 (m+l.length) O G W V/\K (G (m+l.length)) (W (m+l.length)):=by
 intro l
 induction l with
 |nil=>intro m hist O G W V _ _ hr _ h;exact⟨O,G,W,V,hr,by unfold mL at h;exact h⟩
 |cons o l ih=>
  intro m hist O G W V hl hlen hr hh h
  have h0:ops[m]?=some o:=by have:=hl 0;simpa using this.symm
  have hmn:m<ops.size:=by rw[UL]at hlen;omega
  obtain⟨ks,hk1,hk2⟩:=OP hpl hmn
  have hdrop:pl.drop m=(lD m an.1,ks)::pl.drop (m+1):=by
   have hlt:m<pl.length:=by
    rcases U0 m pl.length with h|h
    .exact h
    .rw [Ve h]at hk1;cases hk1
   rw[Vb hlt]
   rw[UG hlt]at hk1
   rw[U5 hk1]
  rw[hdrop]at h
  obtain⟨v,w',hy,hk⟩:=BS h
  have key:(lD m an.1=false->w'=W m)/\(∀k∈ks,∃q,LY hist k=some q/\Fk P ops q o (G m) w' v)/\
      (mL P ops l (pl.drop (m+1)) (⟨lD m an.1,o,G m,W m,v⟩::hist) (put (G m) o.dst v) w' K):=by
   have nil:∀w',∀k∈([]:List Nat),∃q,LY hist k=some q/\Fk P ops q o (G m) w' v:=λ_ k hk=>(by cases hk)
   cases hm:lD m an.1 with
   |true=>
    rw[hm]at hk
    cases ks with
    |nil=>exact⟨λe=>(by cases e),nil _,hk⟩
    |cons k ks=>exact⟨λe=>(by cases e),Ls hk.1,hk.2⟩
   |false=>
    rw[hm]at hk
    cases ks with
    |nil=>obtain⟨rfl,hk⟩:=hk;exact⟨λ_=>rfl,nil _,hk⟩
    |cons k ks=>obtain⟨rfl,hc,hk⟩:=hk;exact⟨λ_=>rfl,Ls hc,hk⟩
  obtain⟨kl,c1,c2⟩:=key
  let O':Nat->Oper:=λi=>if i=m then o else O i
  let V':Nat->V3:=λi=>if i=m then v else V i
  let G':Nat->Env:=λi=>if i=m+1 then put (G m) o.dst v else G i
  let W':Nat->V2:=λi=>if i=m+1 then w' else W i
  have eO:∀i,i<m->O' i=O i:=λi hi=>if_neg (by omega)
  have eV:∀i,i<m->V' i=V i:=λi hi=>if_neg (by omega)
  have eG:∀i,i<=m->G' i=G i:=λi hi=>if_neg (by omega)
  have eW:∀i,i<=m->W' i=W i:=λi hi=>if_neg (by omega)
  have oO:O' m=o:=if_pos rfl
  have oV:V' m=v:=if_pos rfl
  have oG:G' (m+1)=put (G m) o.dst v:=if_pos rfl
  have oW:W' (m+1)=w':=if_pos rfl
  have eR:∀i,i<m->HM an O' G' W' V' i=HM an O G W V i:=λi hi=>by
   simp only[HM,eO i hi,eV i hi,eG i (by omega),eW i (by omega)]
  have hr':O9 P ops an g0 w0 (m+1) O' G' W' V':=by
   refine⟨by rw[eG 0 (by omega)];exact hr.g0,by rw[eW 0 (by omega)];exact hr.w0,λi hi=> ?_,λi hi=> ?_,λi hi hm=> ?_,λi hi=> ?_,λi j hij hj hm=> ?_⟩
   .by_cases hi':i=m
    .subst hi';rw[oO];exact h0
    .rw [eO i (by omega)];exact hr.op i (by omega)
   .by_cases hi':i=m
    .subst hi';rw[oO,oV,oW,eG i (by omega),eW i (by omega)];exact hy
    .rw [eO i (by omega),eV i (by omega),eG i (by omega),eW i (by omega),eW (i+1) (by omega)];exact hr.yld i (by omega)
   .by_cases hi':i=m
    .subst hi';rw[oW,eW i (by omega)];exact kl hm
    .rw [eW i (by omega),eW (i+1) (by omega)];exact hr.light i (by omega) hm
   .by_cases hi':i=m
    .subst hi';rw[oO,oV,oG,eG i (by omega)]
    .rw [eO i (by omega),eV i (by omega),eG i (by omega),eG (i+1) (by omega)];exact hr.env i (by omega)
   .unfold NI
    by_cases hj':j=m
    .subst hj'
     rw[eR i (by omega),oO,oV,oW,eG j (by omega)]
     obtain⟨q,hq,hc⟩:=c1 _ (hk2 i hm).2
     rw[hh i hij]at hq
     obtain rfl:=U5 hq
     exact hc
    .rw [eR i (by omega),eO j (by omega),eV j (by omega),eG j (by omega),eW (j+1) (by omega)]
     exact hr.chk i j hij (by omega) hm
  have:=ih (m+1) (⟨lD m an.1,o,G m,W m,v⟩::hist) O' G' W' V' (λj=>by
      have:=hl (j+1)
      simp only[Ux]at this
      rw[this];congr 1;omega) (by rw[UL]at hlen;omega) hr' (λi hi=>by
      by_cases hi':i=m
      .subst hi'
       rw[show i+1-1-i=0 from by omega]
       simp only[LY,HM,oO,oV,eG i (by omega),eW i (by omega)]
      .rw [eR i (by omega),show m+1-1-i=(m-1-i)+1 from by omega]
       exact hh i (by omega)) (by rw[oG,oW];exact c2)
  rw[UL,show m+(l.length+1)=m+1+l.length from by omega]
  exact this
end
section
variable{P:Program}{ops:Array Oper}{an:NC}{g0:Env}{w0:V2}{O:Nat->Oper}{G:Nat->Env}{W:Nat->V2}{V:Nat->V3}
def BG(n:Nat)(O:Nat->Oper)(V:Nat->V3)(g0:Env)(S:Nat->Prop)(g:Env):Prop:=
 ∀s,(∃j,j<n/\S j/\(O j).dst=some s/\(∀k,k<n->S k->(O k).dst=some s->k<=j)/\g s=V j)∨
  ((∀j,j<n->S j->(O j).dst≠some s)/\g s=g0 s)
theorem BG.agree {n:Nat}{S T:Nat->Prop}{g g':Env}(h:BG n O V g0 S g)(h':BG n O V g0 T g')(s:Nat)
 (hs:∀j,j<n->(O j).dst=some s->(S j↔T j)):g s=g' s:=by
 rcases h s with⟨j,h1,h2,h3,h4,h5⟩|⟨h1,h2⟩<;>rcases h' s with⟨k,k1,k2,k3,k4,k5⟩|⟨k1,k2⟩
 .have a:=h4 k k1 ((hs k k1 k3).2 k2) k3
  have b:=k4 j h1 ((hs j h1 h3).1 h2) h3
  have:j=k:=by omega
  subst this;rw[h5,k5]
 .exact absurd h3 (k1 j h1 ((hs j h1 h3).1 h2))
 .exact absurd k3 (h1 k k1 ((hs k k1 k3).2 k2))
 .rw [h2,k2]
theorem BG.step {n:Nat}{S:Nat->Prop}{g:Env}(h:BG n O V g0 S g)(i:Nat)(hi:i<n)
 (hw:∀s,(O i).dst=some s->∀j,j<n->j≠i->(O j).dst=some s->S j->j<i):
 BG n O V g0 (λj=>S j∨j=i) (put g (O i).dst (V i)):=by
 intro s
 cases hd:(O i).dst with
 |none=>
  rcases h s with⟨j,h1,h2,h3,h4,h5⟩|⟨h1,h2⟩
  .refine .inl ⟨j,h1,.inl h2,h3,λk k1 k2 k3=> ?_,h5⟩
   rcases k2 with k2|rfl
   .exact h4 k k1 k2 k3
   .rw [hd]at k3;cases k3
  .refine .inr ⟨λj h3 h4 h5=> ?_,h2⟩
   rcases h4 with h4|rfl
   .exact h1 j h3 h4 h5
   .rw [hd]at h5;cases h5
 |some t=>
  rw[By]
  by_cases hst:s=t
  .subst hst
   rw[if_pos rfl]
   refine .inl ⟨i,hi,.inr rfl,hd,λk k1 k2 k3=> ?_,rfl⟩
   rcases k2 with k2|rfl
   .by_cases hk:k=i
    .omega
    .have:=hw s hd k k1 hk k3 k2;omega
   .omega
  .rw [if_neg hst]
   rcases h s with⟨j,h1,h2,h3,h4,h5⟩|⟨h1,h2⟩
   .refine .inl ⟨j,h1,.inl h2,h3,λk k1 k2 k3=> ?_,h5⟩
    rcases k2 with k2|rfl
    .exact h4 k k1 k2 k3
    .rw [hd]at k3;exact absurd (U5 k3).symm hst
   .refine .inr ⟨λj h3 h4 h5=> ?_,h2⟩
    rcases h4 with h4|rfl
    .exact h1 j h3 h4 h5
    .rw [hd]at h5;exact absurd (U5 h5).symm hst
theorem O9.envFor {n:Nat}(r:O9 P ops an g0 w0 n O G W V):∀i,i<=n->BG n O V g0 (λj=>j<i) (G i):=by
 intro i
 induction i with
 |zero=>intro _ s;exact .inr ⟨λj _ h=>absurd h (by omega),by rw[r.g0]⟩
 |succ i ih=>
  intro hi
  have h:=ih (by omega)
  have:=h.step (V:=V) i (by omega) (λs _ j _ _ _ hj=>hj)
  rw[<-r.env i (by omega)]at this
  intro s
  rcases this s with⟨j,h1,h2,h3,h4,h5⟩|⟨h1,h2⟩
  .exact .inl ⟨j,h1,by omega,h3,λk k1 k2 k3=>h4 k k1 (by omega) k3,h5⟩
  .exact .inr ⟨λj a b=>h1 j a (by omega),h2⟩
theorem O9.still {n:Nat}(r:O9 P ops an g0 w0 n O G W V)(i:Nat):∀d,i+d<=n->(∀h,i<=h->h<i+d->lD h an.1=false)->W (i+d)=W i:=by
 intro d
 induction d with
 |zero=>intro _ _;rfl
 |succ d ih=>
  intro h1 h2
  rw[<-Vi,r.light (i+d) (by omega) (h2 _ (by omega) (by omega))]
  exact ih (by omega) (λh a b=>h2 h a (by omega))
theorem O9.still' {n:Nat}(r:O9 P ops an g0 w0 n O G W V){i k:Nat}(hik:i<=k)(hk:k<=n)(hh:∀h,i<=h->h<k->lD h an.1=false):W k=W i:=by
 have:=r.still i (k-i) (by omega) (λh a b=>hh h a (by omega))
 rwa [show i+(k-i)=k from by omega]at this
theorem LN{i k:Nat}:(∃h,i<=h/\h<k/\lD h an.1=true)->∃h,i<=h/\h<k/\lD h an.1=true/\∀h',i<=h'->h'<h->lD h' an.1=false:=by
 rintro⟨h,h1,h2,h3⟩
 induction h using Nat.strongRecOn with
 |_ h ih=>
  by_cases hx:∃h',i<=h'/\h'<h/\lD h' an.1=true
  .obtain ⟨h',a,b,c⟩:=hx
   exact ih h' b a (by omega) c
  .refine ⟨h,h1,h2,h3,λh' a b=> ?_⟩
   cases hm:lD h' an.1
   .rfl
   .exact absurd ⟨h',a,b,hm⟩ hx
theorem IW{i k:Nat}:(∃h,i<=h/\h<k/\lD h an.1=true)->∃h,i<=h/\h<k/\lD h an.1=true/\∀h',h<h'->h'<k->lD h' an.1=false:=by
 rintro⟨h,h1,h2,h3⟩
 induction hd:k-h using Nat.strongRecOn generalizing h with
 |_ d ih=>
  by_cases hx:∃h',h<h'/\h'<k/\lD h' an.1=true
  .obtain ⟨h',a,b,c⟩:=hx
   exact ih (k-h') (by omega) h' (by omega) b c rfl
  .refine ⟨h,h1,h2,h3,λh' a b=> ?_⟩
   cases hm:lD h' an.1
   .rfl
   .exact absurd ⟨h',a,b,hm⟩ hx
structure IF(ops:Array Oper)(an:NC)(O:Nat->Oper)(b:Array Nat):Prop where
 back:∀i,i<ops.size->∀e∈(O i).after,Region.binds .any e=true->e.on<i
 closed:∀i j,i<ops.size->j<ops.size->Pa b i j=true->∃e∈(O j).after,Region.binds .any e=true/\(e.on=i∨Pa b i e.on=true)
 pair:∀i j,i<j->j<ops.size->Dt ops b an i j (O i) (O j)=true
 sel:∀i,i<ops.size->HJ (O i)=false
 fn:∀i,i<ops.size->PY (O i)=true->lD i an.1=true
theorem OZ(h:IQ ops an=true)(ho:∀i,i<ops.size->ops[i]?=some (O i)):IF ops an O (Region.before ops):=by
 unfold IQ at h
 simp only[Uz]at h
 obtain⟨⟨⟨⟨h1,h2⟩,h3⟩,h5⟩,h6⟩:=h
 refine⟨λi hi e he hb=> ?_,λi j hi hj hb=> ?_,λi j hij hj=> ?_,λi hi=> ?_,λi hi hf=> ?_⟩
 .unfold J8 at h1
  have:=UX.1 h1 i (UW.2 hi)
  rw[ho i hi]at this
  have:=U6.1 this e he
  simp only[hb,VJ,Bool.false_or]at this
  exact(VE (x:=e.on) (y:=i))▸this
 .unfold J6 at h2
  have:=UX.1 (UX.1 h2 j (UW.2 hj)) i (UW.2 hi)
  rw[ho j hj]at this
  simp only[hb,VJ,Bool.false_or]at this
  obtain⟨e,he,h⟩:=Array.any_eq_true'.1 this
  simp only[Uz,U4]at h
  refine⟨e,he,h.1,h.2.imp (λh=>UO h) id⟩
 .unfold Ln at h3
  have:=UX.1 (UX.1 h3 j (UW.2 hj)) i (UW.2 hij)
  rw[ho i (by omega),ho j hj]at this
  exact this
 .have:=U6.1 h5 (O i) (VQ (ho i hi))
  simpa using this
 .have:=UX.1 h6 i (UW.2 hi)
  rw[ho i hi]at this
  simpa[hf]using this
theorem Qc{i j:Nat}:∀{l:List (Nat×Nat)},I5 i j l=true->(i,j)∈l:=by
 intro l
 induction l with
 |nil=>intro h;cases h
 |cons p r ih=>
  obtain⟨a,b⟩:=p
  intro h
  unfold I5 at h
  cases ha:Nat.beq a i with
  |true=>
   simp only[ha]at h
   cases hb:Nat.beq b j with
   |true=>
    obtain rfl:=UO ha
    obtain rfl:=UO hb
    exact UP
   |false=>simp only[hb]at h;exact UC _ (ih h)
  |false=>simp only[ha]at h;exact UC _ (ih h)
theorem IF.order {b:Array Nat}(st:IF ops an O b){S:Nat->Prop}{i:Nat}(hi:i<ops.size)
 (hdown:∀j k,j<ops.size->k<ops.size->S k->Pa b j k=true->S j) (hbi:∀j,j<ops.size->Pa b j i=true->S j) (hni:¬S i)
 {s:Nat} (hs:s∈looks ops (O i)∨(O i).dst=some s) {j:Nat} (hj:j<ops.size) (hji:j≠i) (hd:(O j).dst=some s):S j↔j<i:=by
 rcases U0 j i with h|h
 .refine ⟨λ_=>h,λ_=> ?_⟩
  have p:=st.pair j i h hi
  unfold Dt at p
  simp only[U4,Uz,Vj]at p
  rcases p with p|p
  .exact hbi j hj p
  .exfalso
   have p1:=p.1
   unfold PC at p1
   simp only[hd,VU]at p1
   rcases hs with hs|hs
   .have:=p1.1.1;simp[hs]at this
   .have:=p1.1.2;simp[hs]at this
 .have h':i<j:=by omega
  refine⟨λhS=> ?_,λhh=>by omega⟩
  exfalso
  have p:=st.pair i j h' hj
  unfold Dt at p
  simp only[U4,Uz,Vj]at p
  rcases p with p|p
  .exact hni (hdown i j hi hj hS p)
  .have p1:=p.1
   unfold PC at p1
   simp only[hd,VU]at p1
   rcases hs with hs|hs
   .have:=p1.2;simp[hs]at this
   .have:=p1.1;rw[hs]at this;simp at this
theorem Bh{g g':Env}{o:Oper}(h:∀s∈looks ops o,g s=g' s):∀x∈o.op.operands,ev g x=ev g' x:=by
 intro x hx
 cases x with
 |tmp t=>exact h t (Vt _ (List.mem_filterMap.2 ⟨.tmp t,by simpa using hx,rfl⟩))
 |_=>rfl
theorem LZ{g g':Env}{o:Oper}(hs:HJ o=false)(h:∀s∈looks ops o,g s=g' s):Bx g o=Bx g' o:=by
 have e:=execOp_congr o (λcs b he=>by simp[HJ,he]at hs) (Bh h)
 have k:=Bh h
 unfold Bx
 split
 .rename_i op t x y yt hx
  rw[k x (by simp[hx,Op.operands]),k y (by simp[hx,Op.operands])]
 .rename_i fn first captured hx
  have e1:List.map (ev g) first.toList=List.map (ev g') first.toList:=Va λp hp=>k p (by simp[hx,Op.operands];exact .inl (by simpa using hp))
  have e2:List.map (ev g) captured.toList=List.map (ev g') captured.toList:=Va λp hp=>k p (by simp[hx,Op.operands];exact .inr (by simpa using hp))
  rw[e1,e2]
 .rename_i t ps hx
  congr 1
  refine Va λp hp=> ?_
  rw[k p.2 (by simp[hx,Op.operands];exact⟨p.1,by simpa using hp⟩)]
 .rename_i t n ps hx
  congr 1
  refine Va λp hp=> ?_
  rw[k p.2 (by simp[hx,Op.operands];exact⟨p.1,by simpa using hp⟩)]
 .rename_i c hx
  split
  .rename_i b hb
   congr 1
   refine Va λp hp=> ?_
   exact k p (by simp[hx,Op.operands,Call.operands,hb];simpa using hp)
  .rename_i f hb
   have:List.map (ev g) c.args.toList=List.map (ev g') c.args.toList:=Va λp hp=>k p (by simp[hx,Op.operands,Call.operands,hb];exact .inr (by simpa using hp))
   rw[this,k f (by simp[hx,Op.operands,Call.operands,hb])]
  .exact e
 .exact e
theorem JO{g g':Env}{o:Oper}{j:Nat}{want:Bool}(hg:o.guard=some (j,want))(h:∀s∈looks ops o,g s=g' s):
 rH g (uX ops j) want=rH g' (uX ops j) want:=by
 cases hs:uX ops j with
 |none=>rfl
 |some t=>
  have:=h t (VH _ (by simp[hg,hs]))
  simp[rH,this]
theorem Gu{g g':Env}{o:Oper}{w:V2}{K:V3->V2->Prop}(hs:HJ o=false)(h:∀s∈looks ops o,g s=g' s)
 (hk:yY P ops g o w K):yY P ops g' o w K:=by
 have e:=LZ (ops:=ops) hs h
 have run:Aq P g o w=Aq P g' o w:=by
  funext K
  unfold Aq
  split
  .rename_i x hx
   have:=Bh (ops:=ops) h x (by simp[hx,Op.operands])
   rw[this]
  .rename_i x hx
   have:=Bh (ops:=ops) h x (by simp[hx,Op.operands])
   rw[this]
  .rename_i c hx
   have k:=Bh h
   have:List.map (ev g) c.args.toList=List.map (ev g') c.args.toList:=Va λp hp=>k p (by simp[hx,Op.operands,Call.operands];exact .inr (by simpa using hp))
   rw[this,e]
  .rw [e]
 unfold yY at*
 cases hg:o.guard with
 |none=>rw[hg]at hk;simp only at hk⊢;rwa [<-run]
 |some p=>
  obtain⟨j,want⟩:=p
  simp only[hg]at hk⊢
  rw[<-run,<-JO hg h]
  exact hk
theorem LQ{n:Nat}(hn:n=ops.size){b:Array Nat}(r:O9 P ops an g0 w0 n O G W V)(st:IF ops an O b){S:Nat->Prop}{i k:Nat}(hi:i<n)(hk:k<=n)
 (hdown:∀j k,j<ops.size->k<ops.size->S k->Pa b j k=true->S j) (hbi:∀j,j<ops.size->Pa b j i=true->S j) (hni:¬S i)
 (hS:∀h,h<n->lD h an.1=true->(S h↔h<k)) (hl:lD i an.1=false):
 HA P ops (G i) (O i) (W k) (V i) (W k):=by
 subst hn
 have same:Gs (TM ops (O i) (G i)) (tZ P (Bx (G i) (O i)) (V i) (W k))->BP (O i)=false->HA P ops (G i) (O i) (W k) (V i) (W k):=by
  intro hs hm K hK
  have run:tZ P (Bx (G i) (O i)) (V i) (W k)->Aq P (G i) (O i) (W k) K:=by
   intro hs
   unfold tZ at hs
   have stp:aB P (Bx (G i) (O i)) (W k) K:=by unfold aB;rw[hs];exact hK
   unfold Aq
   split
   .rename_i x hx;simp[BP,hx]at hm
   .rename_i x hx;simp[BP,hx]at hm
   .rename_i c hx
    have hf:PY (O i)=false:=by
     cases hh:PY (O i)
     .rfl
     .rw [st.fn i hi hh]at hl;cases hl
    obtain⟨cal,cargs,cats⟩:=c
    cases cal with
    |value f=>
     cases f with
     |func f=>simp[PY,hx]at hf
     |_=>exact stp
    |_=>exact stp
   .exact stp
  have hy:=r.yld i hi (λv _=>v=V i) rfl
  unfold yY at hy⊢
  unfold TM at hs
  cases hg:(O i).guard with
  |none=>rw[hg]at hs;exact run hs
  |some p=>
   obtain⟨j,want⟩:=p
   rw[hg]at hs
   simp only[hg]at hs hy⊢
   cases hb:rH (G i) (uX ops j) want with
   |true=>rw[hb]at hs;exact run hs
   |false=>
    rw[hb]at hy
    have:undef=V i:=hy
    show K undef (W k)
    rw[this];exact hK
 have moved:BP (O i)=true->HA P ops (G i) (O i) (W k) (V i) (W k):=by
  intro hm K hK
  have hy:=r.yld i hi (λv _=>v=V i) rfl
  unfold yY at hy⊢
  have mv:∀(K':V3->V2->Prop) w,Aq P (G i) (O i) w K'↔∃x,((O i).op= .move x∨(O i).op= .assign x)/\K' (ev (G i) x) w:=by
   intro K' w
   unfold Aq
   unfold BP at hm
   split
   .rename_i x hx;constructor
    .intro h;exact⟨x,.inl hx,h⟩
    .rintro ⟨y,h|h,h'⟩
     .rw [hx]at h;cases h;exact h'
     .rw [hx]at h;cases h
   .rename_i x hx;constructor
    .intro h;exact⟨x,.inr hx,h⟩
    .rintro ⟨y,h|h,h'⟩
     .rw [hx]at h;cases h
     .rw [hx]at h;cases h;exact h'
   .rename_i c hx;simp[hx]at hm
   .rename_i h1 h2 _;split at hm
    .rename_i x hx;exact absurd hx (h1 x)
    .rename_i x hx;exact absurd hx (h2 x)
    .cases hm
  cases hg:(O i).guard with
  |none=>
   rw[hg]at hy
   simp only at hy⊢
   rw[mv]at hy⊢
   obtain⟨x,hx,h⟩:=hy
   exact⟨x,hx,h▸hK⟩
  |some p=>
   obtain⟨j,want⟩:=p
   simp only[hg]at hy⊢
   unfold Gd at*
   cases hb:rH (G i) (uX ops j) want with
   |true=>
    simp only[hb]at hy⊢
    rw[mv]at hy⊢
    obtain⟨x,hx,h⟩:=hy
    exact⟨x,hx,h▸hK⟩
   |false=>
    simp only[hb]at hy⊢
    rwa [hy]
 rcases Nat.le_total k i with hki|hki
 .by_cases hx:∃h,k<=h/\h<i/\lD h an.1=true
  .obtain ⟨h,h1,h2,h3,h4⟩:=LN hx
   have e:W h=W k:=r.still' h1 (by omega) h4
   have p:=st.pair h i h2 hi
   unfold Dt at p
   simp only[U4,Uz,Vj]at p
   rcases p with p|p
   .have:=hbi h (by omega) p
    have:=(hS h (by omega) h3).1 this
    omega
   .have p2:=p.2
    rw[h3,hl]at p2
    simp only[U4]at p2
    cases hmv:BP (O i)with
    |true=>exact moved hmv
    |false=>
     rcases p2 with p2|p2
     .rw [hmv]at p2;cases p2
     .refine same ?_ hmv
      have c:=r.chk h i h2 hi p2
      unfold NI Fk HM at c
      simp only[h3]at c
      rw[<-e];exact c
  .have e:W i=W k:=r.still' hki (by omega) (λh a b=>by
    cases hm:lD h an.1
    .rfl
    .exact absurd ⟨h,a,b,hm⟩ hx)
   have hy:=r.yld i hi
   rw[r.light i hi hl,e]at hy
   exact hy
 .by_cases hx:∃h,i<=h/\h<k/\lD h an.1=true
  .obtain ⟨h,h1,h2,h3,h4⟩:=IW hx
   have hne:h≠i:=λe=>by rw[e,hl]at h3;cases h3
   have e:W k=W (h+1):=r.still' (by omega) hk (λh' a b=>h4 h' (by omega) b)
   have p:=st.pair i h (by omega) (by omega)
   unfold Dt at p
   simp only[U4,Uz,Vj]at p
   rcases p with p|p
   .exact absurd (hdown i h (by omega) (by omega) ((hS h (by omega) h3).2 h2) p) hni
   .have p2:=p.2
    rw[h3,hl]at p2
    simp only[U4]at p2
    cases hmv:BP (O i)with
    |true=>exact moved hmv
    |false=>
     rcases p2 with p2|p2
     .rw [hmv]at p2;cases p2
     .refine same ?_ hmv
      have c:=r.chk i h (by omega) (by omega) p2
      unfold NI Fk HM at c
      simp only[hl]at c
      rw[e];exact c
  .have e:W k=W i:=r.still' hki hk (λh a b=>by
    cases hm:lD h an.1
    .rfl
    .exact absurd ⟨h,a,b,hm⟩ hx)
   have hy:=r.yld i hi
   rw[r.light i hi hl,<-e]at hy
   exact hy
def iB(listed:Array Bool)(i:Nat):Prop:=listed.getD i false=true
theorem PN{N n:Nat}(hn:n=ops.size)(hd:Fb N ops)(hca:FY P ops){b:Array Nat}(r:O9 P ops an g0 w0 n O G W V)(st:IF ops an O b)
 {Q:Act->V2->Prop} (hQ:∀a,CM N (G n) a->Q a (W n)):
 ∀(fuel:Nat) (listed:Array Bool) (g:Env) (a:Act) (k:Nat),listed.size=n->CM N g a->k<=n→
  (∀j,j<n->iB listed j->∀e∈(O j).after,Region.binds .any e=true->iB listed e.on)→
  BG n O V g0 (iB listed) g->(∀h,h<n->lD h an.1=true->(iB listed h↔h<k))→
  ((List.range n).filter λi=> !listed.getD i false).length<=fuel→
  JE P ops Q fuel listed a (W k):=by
 subst hn
 have ready_iff:∀(listed:Array Bool),listed.size=ops.size->∀i,i∈Region.ready .any ops listed↔(i<ops.size/\¬iB listed i/\∀e∈(O i).after,Region.binds .any e=true->iB listed e.on):=by
  intro listed hsz i
  unfold Region.ready iB
  rw[VV,UW]
  constructor
  .rintro ⟨h1,h2⟩
   rw[r.op i h1]at h2
   simp only[Uz,Vd,Vo]at h2
   refine⟨h1, ?_,λe he hb=> ?_⟩
   .have:=h2.1
    rw[Uy]at this⊢
    rw[UH (by omega)]at this⊢
    simpa using this
   .have:=U6.1 h2.2 e he
    simpa[hb]using this
  .rintro ⟨h1,h2,h3⟩
   refine⟨h1, ?_⟩
   rw[r.op i h1]
   simp only[Uz,Vd,Vo]
   refine⟨?_,U6.2 λe he=> ?_⟩
   .rw [Uy]at h2⊢
    rw[UH (by omega)]at h2⊢
    simpa using h2
   .by_cases hb:Region.binds .any e=true
    .simp [hb,h3 e he hb]
    .simp [hb]
 have none_ready:∀(listed:Array Bool),listed.size=ops.size->Region.ready .any ops listed=[]->∀i,i<ops.size->iB listed i:=by
  intro listed hsz hr i
  induction i using Nat.strongRecOn with
  |_ i ih=>
   intro hi
   refine Classical.byContradiction λhl=> ?_
   have:i∈Region.ready .any ops listed:=(ready_iff listed hsz i).2 ⟨hi,hl,λe he hb=>by
    have:=st.back i hi e he hb
    exact ih e.on this (by omega)⟩
   rw[hr]at this;cases this
 have all_done:∀(listed:Array Bool) (g:Env) (a:Act) (k:Nat),CM N g a->k<=ops.size->BG ops.size O V g0 (iB listed) g→
     (∀h,h<ops.size->lD h an.1=true->(iB listed h↔h<k))->(∀i,i<ops.size->iB listed i)->Q a (W k):=by
  intro listed g a k hr hk he hh hall
  have e:W ops.size=W k:=r.still' hk (UF _) (λh h1 h2=>by
   cases hm:lD h an.1
   .rfl
   .have:=(hh h h2 hm).1 (hall h h2);omega)
  have eg:g=G ops.size:=funext λs=>he.agree (r.envFor ops.size (UF _)) s (λj hj _=>⟨λ_=>hj,λ_=>hall j hj⟩)
  rw[<-e];exact hQ a (eg▸hr)
 intro fuel
 induction fuel with
 |zero=>
  intro listed g a k hsz hr hk hdep henv hh hc
  have hall:∀i,i<ops.size->iB listed i:=by
   intro i hi
   have hnil:((List.range ops.size).filter λi=> !listed.getD i false)=[]:=UT.1 (by omega)
   have:=List.filter_eq_nil_iff.1 hnil i (UW.2 hi)
   unfold iB;simpa using this
  refine⟨?_,all_done listed g a k hr hk henv hh hall⟩
  rw[List.eq_nil_iff_forall_not_mem]
  intro i hi
  have:=(ready_iff listed hsz i).1 hi
  exact this.2.1 (hall i this.1)
 |succ fuel ih=>
  intro listed g a k hsz hr hk hdep henv hh hc
  refine⟨λhn=>all_done listed g a k hr hk henv hh (none_ready listed hsz hn),λi hi=> ?_⟩
  obtain⟨h1,h2,h3⟩:=(ready_iff listed hsz i).1 hi
  have hdown:∀k j,j<ops.size->k<ops.size->iB listed k->Pa b j k=true->iB listed j:=by
   intro k
   induction k using Nat.strongRecOn with
   |_ k ihk=>
    intro j hj hk hl hb
    obtain⟨e,he,hbi,h⟩:=st.closed j k hj hk hb
    have hle:=hdep k hk hl e he hbi
    rcases h with h|h
    .exact h▸hle
    .have hlt:=st.back k hk e he hbi
     exact ihk e.on hlt j hj (by omega) hle h
  have hbi:∀j,j<ops.size->Pa b j i=true->iB listed j:=by
   intro j hj hb
   obtain⟨e,he,hbi,h⟩:=st.closed j i hj h1 hb
   have hle:=h3 e he hbi
   rcases h with h|h
   .exact h▸hle
   .have hlt:=st.back i h1 e he hbi
    exact hdown e.on j hj (by omega) hle h
  have hdown':∀j k,j<ops.size->k<ops.size->iB listed k->Pa b j k=true->iB listed j:=λj k=>hdown k j
  have hlooks:∀s∈looks ops (O i),(G i) s=g s:=λs hs=>
   (r.envFor i (by omega)).agree henv s (λj hj hd=>by
     by_cases hji:j=i
     .subst hji
      exact⟨λh=>absurd h (by omega),λh=>absurd h h2⟩
     .exact (st.order h1 hdown' hbi h2 (.inl hs) hj hji hd).symm)
  have hl':∀j,iB (listed.setIfInBounds i true) j↔(iB listed j∨j=i):=by
   intro j
   unfold iB
   rw[Uy,Uy]
   by_cases hji:j=i
   .subst hji
    rw[UI (by omega)]
    simp
   .rw [UK (λe=>hji e.symm)]
    simp[hji]
  have next:∀k',k'<=ops.size->(∀h,h<ops.size->lD h an.1=true->((iB listed h∨h=i)↔h<k'))->HA P ops g (O i) (W k) (V i) (W k')→
      DK P ops i (JE P ops Q fuel (listed.setIfInBounds i true)) a (W k):=by
   intro k' hk' hh' hy
   refine HV (r.op i h1) (hca i _ (r.op i h1)) hd hr hy ?_
   refine ih _ (put g (O i).dst (V i)) _ k' (by simp[hsz]) (hr.put _ _ (hd i _ (r.op i h1))) hk' ?_ ?_ ?_ ?_
   .intro j hj hlj e he hb
    rw[hl']at hlj⊢
    rcases hlj with hlj|rfl
    .exact .inl (hdep j hj hlj e he hb)
    .exact .inl (h3 e he hb)
   .have:=henv.step i h1 (λs hs j hj hji hd hlj=>(st.order h1 hdown' hbi h2 (.inr hs) hj hji hd).1 hlj)
    intro s
    rcases this s with⟨j,j1,j2,j3,j4,j5⟩|⟨j1,j2⟩
    .exact .inl ⟨j,j1,(hl' j).2 j2,j3,λk k1 k2 k3=>j4 k k1 ((hl' k).1 k2) k3,j5⟩
    .exact .inr ⟨λj a b=>j1 j a ((hl' j).1 b),j2⟩
   .intro h a b;rw[hl'];exact hh' h a b
   .have hin:i∈(List.range ops.size).filter λi=> !listed.getD i false:=
     VV.2 ⟨UW.2 h1,by unfold iB at h2;simpa using h2⟩
    have e1:((List.range ops.size).filter λj=> !(listed.setIfInBounds i true).getD j false)=((List.range ops.size).filter λj=> !listed.getD j false).filter λj=>j !=i:=by
     rw[List.filter_filter]
     refine List.filter_congr λj _=> ?_
     have:=hl' j
     unfold iB at this
     by_cases hji:j=i
     .have hh:(listed.setIfInBounds i true).getD j false=true:=this.2 (.inr hji)
      rw[hh,hji];simp
     .have hne:(j !=i)=true:=by simpa using hji
      rw[hne,Bool.true_and]
      cases ha:listed.getD j false with
      |true=>rw[this.2 (.inl ha)]
      |false=>
       cases hb:(listed.setIfInBounds i true).getD j false with
       |false=>rfl
       |true=>rcases this.1 hb with h|h
              .rw [ha]at h;cases h
              .exact absurd h hji
    have hnd:((List.range ops.size).filter λj=> !listed.getD j false).Nodup:=List.nodup_range.filter _
    rw[e1,<-List.Nodup.erase_eq_filter hnd,List.length_erase_of_mem hin]
    omega
  cases hm:lD i an.1 with
  |true=>
   have hS:∀h,h<ops.size->lD h an.1=true->(iB listed h↔h<i):=by
    intro h hh1 hhm
    rcases Nat.lt_trichotomy h i with hlt|heq|hgt
    .refine ⟨λ_=>hlt,λ_=> ?_⟩
     have p:=st.pair h i hlt h1
     unfold Dt at p
     rw[hhm,hm]at p
     simp only[U4,Uz,UE,and_false,or_false]at p
     exact hbi h hh1 p
    .subst heq;exact⟨λhh=>absurd hh h2,λhh=>absurd hh (by omega)⟩
    .refine ⟨λhl=> ?_,λhh=>absurd hh (by omega)⟩
     have p:=st.pair i h hgt hh1
     unfold Dt at p
     rw[hhm,hm]at p
     simp only[U4,Uz,UE,and_false,or_false]at p
     exact absurd (hdown h i h1 hh1 hl p) h2
   have eW:W k=W i:=by
    rcases Nat.le_total k i with hki|hki
    .exact (r.still' hki (by omega) (λh a b=>by
      cases hx:lD h an.1
      .rfl
      .have:=(hh h (by omega) hx).1 ((hS h (by omega) hx).2 b);omega)).symm
    .exact r.still' hki hk (λh a b=>by
      cases hx:lD h an.1
      .rfl
      .have:=(hS h (by omega) hx).1 ((hh h (by omega) hx).2 b);omega)
   refine next (i+1) (by omega) (λh a b=> ?_) ?_
   .rw [hS h a b];omega
   .rw [eW]
    intro K hK
    exact Gu (ops:=ops) (st.sel i h1) hlooks (r.yld i h1 K hK)
  |false=>
   refine next k hk (λh a b=> ?_) ?_
   .rw [<-hh h a b]
    constructor
    .rintro (h'|rfl)
     .exact h'
     .rw [hm]at b;cases b
    .exact .inl
   .intro K hK
    exact Gu (ops:=ops) (st.sel i h1) hlooks (LQ rfl r st h1 hk hdown' hbi h2 hh hm K hK)
end
abbrev IG(P:Program):Machine->Prop:=Machine.fenced P Fence.wide
def JF(P:Program)(f:FuncId)(ro:Option Nat)(c:Code)(Q:Exit->Act->V2->Prop)(a:Act)(w:V2):Prop:=
 ∀(b:Frame) (k:List Item) (cs:List Frame),b.fn=f->b.roundOf=ro->∃e a' w',Q e a' w'/\ArrivesIn (IG P) P (lone (b.atR a (.code c::k)) cs w) b k cs e a' w'
section
variable{P:Program}{f:FuncId}{ro:Option Nat}{Q:Exit->Act->V2->Prop}{a:Act}{w:V2}
theorem yX{m m1:Machine}(h:step P m= .next m1):StepsIn (IG P) P m m1:= .one (fenced_wide P m) h
theorem Ch{m m1 m2:Machine}(h:step P m= .next m1)(h':StepsIn (IG P) P m1 m2):StepsIn (IG P) P m m2:= .head (fenced_wide P m) h h'
theorem QU(h:Q .normal a w):JF P f ro .skip Q a w:=λ_ _ _ _ _=>⟨.normal,a,w,h,yX Go.stepR_skip⟩
theorem O5 {l:Nat}(h:Q .normal a w):JF P f ro (.label l) Q a w:=λ_ _ _ _ _=>⟨.normal,a,w,h,yX stepR_label⟩
theorem Mu{id:Nat}(h:Q (.exit id) a w):JF P f ro (.exit id) Q a w:=
 λ_ k _ _ _=>⟨.exit id,a,w,h,λ_ hk=>yX (stepR_exit hk),λ_ hk=>⟨k,hk,.refl _⟩⟩
theorem Oo(h:Q .ret a w):JF P f ro .ret Q a w:=
 λ_ k _ _ _=>⟨.ret,a,w,h,λhn=>⟨_,yX (stepR_ret hn)⟩,λ_=>⟨k,.refl _⟩⟩
theorem RP{x y:Code}(h:JF P f ro x (Exit.then (JF P f ro y Q) Q) a w):JF P f ro (.seq x y) Q a w:=by
 intro b k cs hb hro
 obtain⟨e,a1,w1,hq,har⟩:=h b (.code y::k) cs hb hro
 cases e with
 |normal=>
  obtain⟨e2,a2,w2,hq2,har2⟩:=hq b k cs hb hro
  exact⟨e2,a2,w2,hq2,.of_steps (Ch stepR_seq har) har2⟩
 |_=>exact⟨_,a1,w1,hq,.of_steps (yX stepR_seq) (.pass (x:= .code y) rfl (λ_ _=> .inl (by simp)) har)⟩
theorem QS{c:Operand}{x y:Code}{t:Bool}(hc:a.eval c= .bool t)(h:JF P f ro (if t then x else y) Q a w):JF P f ro (.cond c x y) Q a w:=
 λb k cs hb hro=>let⟨e,a1,w1,q,r⟩:=h b k cs hb hro;⟨e,a1,w1,q,.of_steps (yX (stepR_cond hc)) r⟩
theorem O4 {id:Nat}{c:Code}(h:JF P f ro c (Exit.inBlock id Q) a w):JF P f ro (.block id c) Q a w:=by
 intro b k cs hb hro
 obtain⟨e,a1,w1,hq,har⟩:=h b (.inBlock id::k) cs hb hro
 cases e with
 |normal=>exact⟨.normal,a1,w1,hq,Ch stepR_block (StepsIn.trans har (yX stepR_inBlock))⟩
 |exit i=>
  by_cases hid:i=id
  .simp only[Exit.inBlock,hid,if_true]at hq
   exact⟨.normal,a1,w1,hq,Ch stepR_block (har.1 k (by simp[exitTo,hid]))⟩
  .simp only[Exit.inBlock,hid,if_false]at hq
   have this:(id==i)=false:=by simp;exactλh=>hid h.symm
   have hx:exitTo i (.inBlock id::k)=exitTo i k:=by simp[exitTo,this]
   exact⟨.exit i,a1,w1,hq,λk' hk=>Ch stepR_block (har.1 k' (by rw[hx];exact hk)),
    λhr' hk=>let⟨k1,h1,h2⟩:=har.2 hr' (by rw[hx];exact hk);⟨k1,h1,Ch stepR_block h2⟩⟩
 |goto l=>
  have hx:gotoIn l (.inBlock id::k)=gotoIn l k:=by simp[gotoIn]
  exact⟨_,a1,w1,hq,λk' hk=>Ch stepR_block (har.1 k' (by rw[hx];exact hk)),
   λhr' hk=>let⟨k1,h1,h2⟩:=har.2 hr' (by rw[hx];exact hk);⟨k1,h1,Ch stepR_block h2⟩⟩
 |ret=>exact⟨_,a1,w1,hq,.of_steps (yX stepR_block) har⟩
 |panic ch=>exact⟨_,a1,w1,hq,.of_steps (yX stepR_block) har⟩
 |outgrown=>exact⟨_,a1,w1,hq,.of_steps (yX stepR_block) har⟩
theorem sK{b:Frame}{k:List Item}{cs:List Frame}{c:Code}:
 step P (lone (b.atR a (.code (.scope c)::k)) cs w)= .next (lone (b.atR a (.code c:: .inScope c::k)) cs w):=
 step_lone_go (by simp[stepG,stepG.exec,Frame.atR])
theorem J0 {b:Frame}{k:List Item}{cs:List Frame}{c:Code}:
 step P (lone (b.atR a (.inScope c::k)) cs w)= .next (lone (b.atR a k) cs w):=
 step_lone_go (by simp[stepG,stepG.exec,Frame.atR])
theorem O7 {c:Code}(h:JF P f ro c (Exit.noGoto Q) a w):JF P f ro (.scope c) Q a w:=by
 intro b k cs hb hro
 obtain⟨e,a1,w1,hq,har⟩:=h b (.inScope c::k) cs hb hro
 cases e with
 |normal=>exact⟨.normal,a1,w1,hq,Ch sK (StepsIn.trans har (yX J0))⟩
 |exit id=>
  have hx:exitTo id (.inScope c::k)=exitTo id k:=by simp[exitTo]
  exact⟨.exit id,a1,w1,hq,λk' hk=>Ch sK (har.1 k' (by rw[hx];exact hk)),
   λhr' hk=>let⟨k1,h1,h2⟩:=har.2 hr' (by rw[hx];exact hk);⟨k1,h1,Ch sK h2⟩⟩
 |goto l=>exact hq.elim
 |ret=>exact⟨_,a1,w1,hq,.of_steps (yX sK) har⟩
 |panic ch=>exact⟨_,a1,w1,hq,.of_steps (yX sK) har⟩
 |outgrown=>exact⟨_,a1,w1,hq,.of_steps (yX sK) har⟩
theorem QT{c:Code}(I:Act->V2->Prop)(μ:Act->V2->Nat)(h0:I a w)
 (round:∀a w,I a w->JF P f ro c (Exit.then (λa' w'=>I a' w'/\μ a' w'<μ a w) Q) a w):JF P f ro (.loop c) Q a w:=by
 intro b k cs hb hro
 have key:∀n a w,μ a w=n->I a w→
     ∃e a' w',Q e a' w'/\ArrivesIn (IG P) P (lone (b.atR a (.code c:: .inLoop c::k)) cs w) b k cs e a' w':=by
  intro n
  induction n using Nat.strongRecOn with
  |_ n ih=>
   intro a w hn hI
   obtain⟨e,a1,w1,hq,har⟩:=round a w hI b (.inLoop c::k) cs hb hro
   cases e with
   |normal=>
    obtain⟨hI1,hlt⟩:=hq
    obtain⟨e2,a2,w2,hq2,har2⟩:=ih (μ a1 w1) (hn▸hlt) a1 w1 rfl hI1
    exact⟨e2,a2,w2,hq2,.of_steps (StepsIn.trans har (yX stepR_inLoop)) har2⟩
   |_=>exact⟨_,a1,w1,hq,.pass (x:= .inLoop c) rfl (λ_ _=> .inl (by simp)) har⟩
 obtain⟨e,a',w',hq,har⟩:=key _ a w rfl h0
 exact⟨e,a',w',hq,.of_steps (yX stepR_loop) har⟩
theorem On{ops:Array Oper}{L:List Nat}(h:uZ P ops (Q .normal) L a w)(b:Frame)(k:List Item)(cs:List Frame)(hro:b.roundOf=ro):
 ∃e a' w',Q e a' w'/\ArrivesIn (IG P) P (lone (b.atR a (.inRegion ops L::k)) cs w) b k cs e a' w':=by
 obtain⟨e,a',w',⟨rfl,hq⟩,hs⟩:=wp_opsIn (F:=JD ro) (n:=0) L a w (O8 ro L a w h) b k cs hro trivial (λ_ h=>by simp[JD,Fence.wide]at h)
 exact⟨.normal,a',w',hq,hs⟩
theorem Ny{id:Nat}{ops:Array Oper}(h:uZ P ops (Q .normal) (List.range ops.size) a w):JF P f ro (.region id ops false) Q a w:=by
 intro b k cs hb hro
 obtain⟨e,a1,w1,q,r⟩:=On h b k cs hro
 exact⟨e,a1,w1,q,.of_steps (yX stepR_region) r⟩
theorem Io(hm:P.follows .mixedOrders=true){id:Nat}{ops:Array Oper}
 (h:uZ P ops (Q .normal) (Region.schedule true ops (w.tape w.drawn (.order f id))) a {w with drawn:=w.drawn+1}):JF P f ro (.region id ops true) Q a w:=by
 intro b k cs hb hro
 obtain⟨e,a1,w1,q,r⟩:=On h b k cs hro
 refine⟨e,a1,w1,q,.of_steps (yX ?_) r⟩
 have:= @stepR_region_draw P b a k cs w ops id
 rw[hm,hb]at this
 exact this
def zG(v:V3)(w:V2)(K:V2->Prop):Prop:=
 match v with
 | .pointer (some a)=>w.heap[a.block]?=some (.deferred (some []))/\K (w.putObj a.block (.deferred none))
 |_=>K w
def Oy(P:Program)(fn:Func)(R:V3->V2->Prop):Exit->Act->V2->Prop
 | .normal,a,w| .ret,a,w=>∃m,a.defers=Lx m/\zG m w λw'=>∃v,(results fn a.tmps).run P w'= .ok v w'/\R v w'
 |_,_,_=>False
theorem LO{fn:Func}{R:V3->V2->Prop}{fr:Frame}{cs:List Frame}(hm:fr.mode= .returning)(hf:P.funcs[fr.fn]?=some fn)(hk:fr.kind= .normal){m:V3}(hd:fr.defers=Lx m)
 (h:zG m w λw'=>∃v,(results fn fr.tmps).run P w'= .ok v w'/\R v w'):
 ∃v w' fr',R v w'/\Steps P (lone fr cs w) (lone fr' cs w')/\fr'.fn=fr.fn/\fr'.leaving P w' (.returned v):=by
 have nil:fr.defers=[]->(∃v,(results fn fr.tmps).run P w= .ok v w/\R v w)→
     ∃v w' fr',R v w'/\Steps P (lone fr cs w) (lone fr' cs w')/\fr'.fn=fr.fn/\fr'.leaving P w' (.returned v):=by
  rintro hd ⟨v,hv,hR⟩
  exact⟨v,w,fr,hR,.refl _ _,rfl,hm,hd,hk,fn,hf,hv⟩
 cases m with
 |pointer p=>
  cases p with
  |none=>exact nil hd h
  |some a=>
   obtain⟨h1,v,hv,hR⟩:=h
   have hs:=step_collected (P:=P) (fr:=fr) (cs:=cs) (w:=w) (d:={target:= .collected a.block,args:= #[]}) (r:=a.block) (ds:=[]) (calls:=[])
    (by rw[hm];simp) hd rfl (run_takeDeferred h1)
   exact⟨v,_,{fr with defers:=[]},hR,.head hs (.refl _ _),rfl,hm,rfl,hk,fn,hf,hv⟩
 |_=>exact nil hd h
theorem Ky{fn:Func}{c:Code}{args:Array V3}{w:V2}{R:V3->V2->Prop}
 (hf:P.funcs[f]?=some fn) (hb:fn.body=some c)
 (h:JF P f none c (Oy P fn R) {tmps:=args++Array.replicate (fn.ntmps-args.size) undef,defers:=[]} w):Calls P f args w λe w'=>∃v,e= .returned v/\R v w':=by
 intro cs
 let b:Frame:={(default:Frame)with fn:=f,kind:= .normal,roundOf:=none}
 have henter:Frame.enter P f args .normal=b.atR {tmps:=args++Array.replicate (fn.ntmps-args.size) undef,defers:=[]} [.code c]:=by
  simp[Frame.enter,Frame.atR,hf,hb,b]
 obtain⟨e,a',w',hq,har⟩:=h b [] cs rfl rfl
 rw[<-henter]at har
 cases e with
 |normal=>
  obtain⟨m,hd,hq⟩:=hq
  obtain⟨v,w2,fr,hR,hs,hfn,hl⟩:=LO (P:=P) (cs:=cs) (fr:={b.atR a' []with mode:= .returning}) rfl hf rfl hd hq
  exact⟨.returned v,w2,fr,⟨v,rfl,hR⟩,(StepsIn.steps har).trans (.head (stepR_end rfl) hs),hfn,hl⟩
 |ret=>
  obtain⟨m,hd,hq⟩:=hq
  obtain⟨todo,hs0⟩:=har.1 rfl
  obtain⟨v,w2,fr,hR,hs,hfn,hl⟩:=LO (P:=P) (cs:=cs) (fr:={b.atR a' todo with mode:= .returning}) rfl hf rfl hd hq
  exact⟨.returned v,w2,fr,⟨v,rfl,hR⟩,(StepsIn.steps hs0).trans hs,hfn,hl⟩
 |panic chain=>exact hq.elim
 |exit id=>exact hq.elim
 |goto l=>exact hq.elim
 |outgrown=>exact hq.elim
def RZ(P:Program)(f:FuncId)(Q:Exit->Act->V2->Prop)(a:Act)(w:V2):Option Code->Prop
 |none=>Q .normal a w
 |some c=>JF P f none c Q a w
theorem O6 {gf:Operand}{ps:Array Tmp}{Ut bd:Code}{d:Deferred}{g:FuncId}{args:Array V3}{w1:V2}{l:Nat}{mark:List Deferred}{w2 w3:V2}{v:V3}
 (he:(Instr.enterLoop f a.tmps ps Ut bd none).run P w= .ok (l,mark) w1)
 (hres:(resolve a.eval (rangeCall gf l) 0).run P w1= .ok d w1) (hinv:(invoke d.target d.args).run P w1= .ok (.enter g args) w2)
 (hcall:TR P g args w2 v w3)
 {jump:Option Code} {w4:V2} (hend:(Instr.endLoop l).run P w3= .ok jump w4)
 (hj:RZ P f Q {a with defers:=mark++a.defers} w4 jump):
 JF P f none (.rangeFunc gf ps Ut bd) Q a w:=by
 intro b k cs hb hro
 rw[<-hb,<-hro]at he
 have henter:=stepR_rangeFunc (P:=P) (b:=b) (a:=a) (k:=k) (cs:=cs) (w:=w) he hres hinv
 obtain⟨e,w3',fr,⟨rfl,rfl⟩,hsteps,hfn,hleave⟩:=hcall (b.atR {a with defers:=mark++a.defers} (.inRangeFunc l::k)::cs)
 have sback:StepsIn (IG P) P (lone (b.atR a (.code (.rangeFunc gf ps Ut bd)::k)) cs w) (lone (b.atR {a with defers:=mark++a.defers} ((jump.map Item.code).toList++k)) cs w4):=by
  refine Ch henter (StepsIn.trans (stepsIn_wide.2 hsteps) (Ch (m1:=lone (b.atR {a with defers:=mark++a.defers} (.endRangeFunc l::k)) cs w3') ?_ (yX (stepR_endRangeFunc hend))))
  rw[<-finish_atR_inRangeFunc l v];exact step_leave_returned hleave
 cases jump with
 |none=>exact⟨.normal,_,w4,hj,sback⟩
 |some c=>
  obtain⟨e',a'',w5,hq,harr⟩:=hj b k cs hb hro
  exact⟨e',a'',w5,hq,.of_steps sback harr⟩
def Nc(P:Program)(l:Nat)(R:V3->V2->Prop):Exit->Act->V2->Prop
 | .normal,_,w=>∃v w',(Instr.endRound l none).run P w= .ok v w'/\R v w'
 | .ret,_,w=>∃v w',(Instr.endRound l (some .ret)).run P w= .ok v w'/\R v w'
 | .exit id,_,w=>∃v w',(Instr.endRound l (some (.exit id))).run P w= .ok v w'/\R v w'
 |_,_,_=>False
theorem KR{l:Nat}{tmps:Array V3}{Ut bd:Code}{R:V3->V2->Prop}
 (h:JF P f (some l) Ut (Exit.then (λa1 w1=>∃w2,(Instr.beginRound l).run P w1= .ok () w2/\JF P f (some l) bd (Nc P l R) a1 w2) (λ_ _ _=>False))
   {tmps:=tmps,defers:=[]} w):
 RoundIn Fence.wide 0 P l f tmps Ut bd w λe w'=>∃v,e= .returned v/\R v w':=by
 refine⟨trivial,λc cs _=> ?_⟩
 let b:Frame:={(default:Frame)with fn:=f,kind:= .normal,roundOf:=some l}
 have hb0:Frame.round l f tmps Ut bd .normal=b.atR {tmps:=tmps,defers:=[]} [.code Ut,.beginRound,.code bd]:=by
  simp[Frame.round,Frame.atR,b]
 obtain⟨e,a1,w1,hq,harr⟩:=h b [.beginRound,.code bd] (c::cs) rfl rfl
 rw[<-hb0]at harr
 cases e with
 |normal=>
  obtain⟨w2,hbr,hbody⟩:=hq
  have s1:=yX (stepR_beginRound (P:=P) (b:=b) (a:=a1) (k:=[.code bd]) (cs:=c::cs) rfl hbr)
  obtain⟨e2,a2,w3,hq2,harr2⟩:=hbody b [] (c::cs) rfl rfl
  cases e2 with
  |normal=>
   obtain⟨v,w4,hend,hR⟩:=hq2
   exact⟨.returned v,w4,⟨v,rfl,hR⟩,(StepsIn.trans harr s1).trans (StepsIn.trans harr2 (yX (stepR_round_end rfl rfl hend)))⟩
  |ret=>
   obtain⟨v,w4,hend,hR⟩:=hq2
   obtain⟨k1,hs⟩:=harr2.2 rfl
   exact⟨.returned v,w4,⟨v,rfl,hR⟩,(StepsIn.trans harr s1).trans (StepsIn.trans hs (yX (stepR_round_ret rfl rfl hend)))⟩
  |exit id=>
   obtain⟨v,w4,hend,hR⟩:=hq2
   obtain⟨k1,hk,hs⟩:=harr2.2 rfl rfl
   exact⟨.returned v,w4,⟨v,rfl,hR⟩,(StepsIn.trans harr s1).trans (StepsIn.trans hs (yX (stepR_round_exit rfl rfl hk hend)))⟩
  |goto t=>exact hq2.elim
  |panic chain=>exact hq2.elim
  |outgrown=>exact hq2.elim
 |exit id=>exact hq.elim
 |goto t=>exact hq.elim
 |ret=>exact hq.elim
 |panic chain=>exact hq.elim
 |outgrown=>exact hq.elim
end
def Ks(ops:Array Oper):Nat->Array Bool->List Nat->Prop
 |0,_,L=>L=[]
 |_+1,listed,[]=>Region.ready .any ops listed=[]
 |n+1,listed,i::L=>i∈Region.ready .any ops listed/\Ks ops n (listed.setIfInBounds i true) L
section
variable{P:Program}{ops:Array Oper}{Q:Act->V2->Prop}
theorem Rs:∀(fuel t:Nat) (listed:Array Bool),Ks ops fuel listed (Region.linearise.go .any ops fuel t listed []):=by
 intro fuel
 induction fuel with
 |zero=>intro t listed;simp[Region.linearise.go,Ks]
 |succ fuel ih=>
  intro t listed
  simp only[Region.linearise.go]
  change Ks ops (fuel+1) listed (match(Region.ready .any ops listed)[t%(Region.ready .any ops listed).length]? with
   |some i=>Region.linearise.go .any ops fuel (t/(Region.ready .any ops listed).length) (listed.setIfInBounds i true) [i]
   |none=>[].reverse)
  cases hi:(Region.ready .any ops listed)[t%(Region.ready .any ops listed).length]? with
  |none=>
   have:Region.ready .any ops listed=[]:=by
    cases hr:Region.ready .any ops listed with
    |nil=>rfl
    |cons x xs=>
     rw[hr]at hi
     have hlt:t%(x::xs).length<(x::xs).length:=Nat.mod_lt _ (by simp)
     rw[UG hlt]at hi
     cases hi
   simpa[Ks]using this
  |some i=>
   simp only[]
   rw[linearise_go_acc]
   exact⟨Vu hi,ih _ _⟩
theorem GR:∀(fuel:Nat) (listed:Array Bool) (L:List Nat) (a:Act) (w:V2),JE P ops Q fuel listed a w->Ks ops fuel listed L->uZ P ops Q L a w:=by
 intro fuel
 induction fuel with
 |zero=>intro listed L a w h hL;obtain rfl:L=[]:=hL;exact h.2
 |succ fuel ih=>
  intro listed L a w h hL
  cases L with
  |nil=>exact h.1 hL
  |cons i L=>
   exact Nz (λa w hh=>ih _ _ a w hh hL.2) (h.2 i hL.1)
end
structure Perm(π:List Nat)(ops:Array Oper):Prop where
 len:π.length=ops.size
 to:∀i,i<ops.size->pN π i<ops.size/\π[pN π i]?=some i
 back:∀k,k<ops.size->∃i,π[k]?=some i/\pN π i=k/\i<ops.size
 after:∀(i:Nat) (o:Oper),ops[i]?=some o->∀e∈o.after,e.on<ops.size
 guard:∀(i:Nat) (o:Oper) (j:Nat) (b:Bool),ops[i]?=some o->o.guard=some (j,b)->j<ops.size
theorem Rx{π:List Nat}{ops:Array Oper}(h:MZ π ops=true):Perm π ops:=by
 unfold MZ at h
 simp only[Uz]at h
 obtain⟨⟨⟨h1,h2⟩,h3⟩,h4⟩:=h
 have h1:=UO h1
 have at4:∀(i:Nat) (o:Oper),ops[i]?=some o->(o.after.all λe=>Nat.blt e.on ops.size)=true/\(match o.guard with|some (j,_)=>Nat.blt j ops.size|none=>true)=true:=by
  intro i o ho
  have hi:i<ops.size:=by
   rcases U0 i ops.size with h|h
   .exact h
   .rw [UR h]at ho;cases ho
  have:=UX.1 h4 i (UW.2 hi)
  rw[ho]at this
  simp only[Uz]at this
  refine⟨this.1, ?_⟩
  have h:=this.2
  revert h
  cases o.guard<;>exact id
 refine⟨h1,λi hi=> ?_,λk hk=> ?_,λi o ho e he=> ?_,λi o j b ho hg=> ?_⟩
 .have:=UX.1 h3 i (UW.2 hi)
  cases hp:π[pN π i]? with
  |none=>rw[hp]at this;cases this
  |some j=>
   rw[hp]at this
   obtain rfl:=UO this
   refine⟨?_,rfl⟩
   rcases U0 (pN π j) π.length with h|h
   .omega
   .rw [Ve h]at hp;cases hp
 .have:=UX.1 h2 k (UW.2 hk)
  cases hp:π[k]? with
  |none=>rw[hp]at this;cases this
  |some i=>
   rw[hp]at this
   simp only[Uz]at this
   exact⟨i,rfl,UO this.1,(VE (x:=i) (y:=ops.size))▸this.2⟩
 .have:=U6.1 (at4 i o ho).1 e he
  exact(VE (x:=e.on) (y:=ops.size))▸this
 .have:=(at4 i o ho).2
  rw[hg]at this
  exact(VE (x:=j) (y:=ops.size))▸this
theorem Ki{π:List Nat}{es:List (Nat×Nat)}{l:List Oper}:∀(r:List Nat),(∀i∈r,i<l.length)->(Gv π es l r).length=r.length/\∀k i:Nat,r[k]?=some i->(Gv π es l r)[k]?=(l[i]?).map (AP π es i):=by
 intro r
 induction r with
 |nil=>intro _;exact⟨rfl,λk i h=>by simp at h⟩
 |cons j r ih=>
  intro h
  obtain⟨h1,h2⟩:=ih λi hi=>h i (UC _ hi)
  have hj:j<l.length:=h j (by simp)
  simp only[Gv,UG hj]
  refine⟨by simp[h1],λk i hk=> ?_⟩
  cases k with
  |zero=>simp at hk;subst hk;simp[UG hj]
  |succ k=>simp at hk⊢;exact h2 k i hk
section
variable{P:Program}{ops:Array Oper}{Q:Act->V2->Prop}{π:List Nat}{es:List (Nat×Nat)}
theorem Perm.mem (p:Perm π ops):∀i∈π,i<ops.toList.length:=by
 intro i hi
 obtain⟨k,hk,e⟩:=List.getElem_of_mem hi
 obtain⟨j,h1,_,h2⟩:=p.back k (by rw[<-p.len];exact hk)
 rw[UG hk]at h1
 cases h1
 rw[<-e];simpa using h2
theorem Perm.size (p:Perm π ops):(kX π es ops).size=ops.size:=by
 unfold kX
 rw[VN,(Ki (es:=es) (π:=π) π p.mem).1,p.len]
theorem Perm.get (p:Perm π ops){i:Nat}(hi:i<ops.size):(kX π es ops)[pN π i]?=(ops[i]?).map (AP π es i):=by
 unfold kX
 have:=(Ki (es:=es) (π:=π) π p.mem).2 (pN π i) i (p.to i hi).2
 rw[Vq]at this
 simpa using this
theorem M0 {i:Nat}{o:Oper}{a:Act}{w:V2}{K:Act->V2->Prop}:Ng P (AP π es i o) a w K↔Ng P o a w K:=by
 unfold Ng
 have h1:execOp a.eval (AP π es i o)=execOp a.eval o:=by
  obtain⟨d,op,ty,ps,af,g⟩:=o
  cases op<;>rfl
 have h2:Kb (AP π es i o)=Kb o:=rfl
 rw[h1,h2]
 generalize(execOp a.eval o).run P w=r
 cases r with
 |ok n w=>cases n<;>exact Iff.rfl
 |halt x w=>exact Iff.rfl
theorem L3 (p:Perm π ops){i:Nat}{o:Oper}(ho:ops[i]?=some o)(tmps:Array V3):
 Region.wanted (AP π es i o) (yielded (kX π es ops) tmps)=Region.wanted o (yielded ops tmps):=by
 unfold Region.wanted AP
 simp only
 cases hg:o.guard with
 |none=>rfl
 |some q=>
  obtain⟨j,b⟩:=q
  simp only
  have hj:=p.guard i o j b ho hg
  have:(kX π es ops)[pN π j]?.bind (·.dst)=(ops[j]?).bind (·.dst):=by
   rw[p.get hj]
   cases ops[j]?<;>rfl
  unfold yielded
  rw[this]
theorem NA(p:Perm π ops):∀(L:List Nat),(∀i∈L,i<ops.size)->∀(a:Act) (w:V2),uZ P (kX π es ops) Q (L.map (pN π)) a w->uZ P ops Q L a w:=by
 intro L
 induction L with
 |nil=>intro _ a w h;exact h
 |cons i L ih=>
  intro hL a w h
  rw[UB]at h
  simp only[uZ]at h⊢
  have hi:=hL i (by simp)
  have ih:=ih λi hi=>hL i (UC _ hi)
  unfold DK at h⊢
  rw[p.get hi]at h
  rw[UH hi]at h⊢
  simp only[Vd]at h
  rw[L3 p (UH hi)]at h
  simp only
  split
  .rename_i hw
   rw[if_pos hw,M0]at h
   exact Kl (λa w=>ih a w) h
  .rename_i hw
   rw[if_neg hw]at h
   exact ih _ _ h
theorem DU{ops:Array Oper}{listed:Array Bool}(hsz:listed.size=ops.size)(i:Nat):
 i∈Region.ready .any ops listed↔(i<ops.size/\listed.getD i false=false/\∀o,ops[i]?=some o->∀e∈o.after,Region.binds .any e=true->listed.getD e.on false=true):=by
 unfold Region.ready
 rw[VV,UW]
 constructor
 .rintro ⟨h1,h2⟩
  rw[UH h1]at h2
  simp only[Uz,Vd,Vo]at h2
  refine⟨h1, ?_,λo ho e he hb=> ?_⟩
  .have:=h2.1
   rw[Uy]at this⊢
   rw[UH (by omega)]at this⊢
   simpa using this
  .rw [UH h1]at ho
   cases ho
   have:=U6.1 h2.2 e he
   simpa[hb]using this
 .rintro ⟨h1,h2,h3⟩
  refine⟨h1, ?_⟩
  rw[UH h1]
  simp only[Uz,Vd,Vo]
  refine⟨?_,U6.2 λe he=> ?_⟩
  .rw [Uy]at h2⊢
   rw[UH (by omega)]at h2⊢
   simpa using h2
  .by_cases hb:Region.binds .any e=true
   .simp [hb,h3 _ (UH h1) e he hb]
   .simp [hb]
theorem Qm{π:List Nat}{i:Nat}:∀{es:List (Nat×Nat)} {e:Edge},e∈xS π i es->∃a,(a,i)∈es/\e.on=pN π a:=by
 intro es
 induction es with
 |nil=>intro e h;simp[xS]at h
 |cons q r ih=>
  obtain⟨a,b⟩:=q
  intro e h
  simp only[xS]at h
  cases hb:Nat.beq b i with
  |true=>
   rw[hb]at h
   obtain rfl:=UO hb
   rcases UD.1 h with rfl|h
   .exact ⟨a,by simp,rfl⟩
   .obtain ⟨a,h1,h2⟩:=ih h;exact⟨a,UC _ h1,h2⟩
  |false=>rw[hb]at h;obtain⟨a,h1,h2⟩:=ih h;exact⟨a,UC _ h1,h2⟩
theorem OJ(p:Perm π ops){L0:List Nat}(hes:∀q∈es,L0.idxOf q.1<=L0.idxOf q.2/\q.1≠q.2/\q.1<ops.size):
 ∀(fuel:Nat) (listed listed':Array Bool) (pre L:List Nat),L0=pre++L->listed.size=ops.size->listed'.size=ops.size→
  (∀j,j<ops.size->listed'.getD (pN π j) false=listed.getD j false)->(∀j∈pre,listed.getD j false=true)->(∀j,listed.getD j false=true->j∈pre)→
  Ks ops fuel listed L->Ks (kX π es ops) fuel listed' (L.map (pN π))/\∀i∈L,i<ops.size:=by
 intro fuel
 induction fuel with
 |zero=>intro listed listed' pre L _ _ _ _ _ _ h;obtain rfl:L=[]:=h;exact⟨rfl,by simp⟩
 |succ fuel ih=>
  intro listed listed' pre L hL0 hs hs' hrel hpre hpre' h
  have hsz:(kX π es ops).size=ops.size:=p.size
  cases L with
  |nil=>
   refine⟨?_,by simp⟩
   show Region.ready .any (kX π es ops) listed'=[]
   rw[List.eq_nil_iff_forall_not_mem]
   intro k hk
   obtain⟨h1,h2,h3⟩:=(DU (by omega) k).1 hk
   obtain⟨i,hi1,hi2,hi3⟩:=p.back k (by omega)
   have:i∈Region.ready .any ops listed:=by
    refine(DU hs i).2 ⟨hi3, ?_,λo ho e he hb=> ?_⟩
    .rw [<-hrel i hi3,hi2];exact h2
    .have g:=p.get (es:=es) hi3
     rw[hi2,ho]at g
     have hon:=p.after i o ho e he
     have:=h3 _ g ⟨pN π e.on,e.ground⟩ (by
      simp only[AP,List.mem_toArray,Vc,U1]
      exact .inl ⟨e,by simpa using he,rfl⟩) (by unfold Region.binds at hb⊢;exact hb)
     rw[<-hrel e.on hon];exact this
   rw[show Region.ready .any ops listed=[]from h]at this
   cases this
  |cons i L=>
   obtain⟨h1,h2⟩:=h
   obtain⟨r1,r2,r3⟩:=(DU hs i).1 h1
   have hnot:i∉pre:=λhm=>by rw[hpre i hm]at r2;cases r2
   have hidx:L0.idxOf i=pre.length:=by
    rw[hL0,List.idxOf_append,if_neg hnot];simp
   have ready':pN π i∈Region.ready .any (kX π es ops) listed':=by
    refine(DU (by omega) _).2 ⟨by rw[hsz];exact(p.to i r1).1,by rw[hrel i r1];exact r2,λo' ho' e' he' hb=> ?_⟩
    rw[p.get r1,UH r1]at ho'
    simp only[Vd,VF]at ho'
    subst ho'
    simp only[AP,List.mem_toArray,Vc,U1]at he'
    rcases he' with⟨e,he,rfl⟩|he'
    .have ho:=UH r1
     have he2:e∈ops[i].after:=by simpa using he
     rw[hrel e.on (p.after i _ ho e he2)]
     exact r3 _ ho e he2 (by unfold Region.binds at hb⊢;exact hb)
    .obtain ⟨a,ha,hon⟩:=Qm he'
     obtain⟨q1,q2,q3⟩:=hes _ ha
     simp only at q1 q2 q3
     rw[hon,hrel a q3]
     refine hpre a ?_
     rw[hidx]at q1
     rw[hL0,List.idxOf_append]at q1
     by_cases hm:a∈pre
     .exact hm
     .rw [if_neg hm]at q1
      exfalso
      have hz:(i::L).idxOf a=0:=by omega
      rw[List.idxOf_cons]at hz
      cases hb:(i==a)with
      |true=>exact q2 (by simpa using(beq_iff_eq.1 hb).symm)
      |false=>rw[hb]at hz;simp at hz
   have hlen':listed'.size=ops.size:=hs'
   obtain⟨k1,k2⟩:=ih (listed.setIfInBounds i true) (listed'.setIfInBounds (pN π i) true) (pre++[i]) L (by rw[hL0];simp) (by simp[hs]) (by simp[hs'])
    (λj hj=>by
     by_cases hji:j=i
     .subst hji
      rw[Uy,Uy,UI (by rw[hs'];exact(p.to j hj).1),UI (by omega)]
     .have hne:pN π i≠pN π j:=λe=>by
       have a1:=(p.to i r1).2
       have a2:=(p.to j hj).2
       rw[e]at a1
       rw[a1]at a2
       exact hji (U5 a2).symm
      have:=hrel j hj
      rw[Uy,Uy]at this⊢
      rw[UK hne,UK (λe=>hji e.symm)]
      exact this)
    (λj hj=>by
     rw[Uy]
     rcases Vc.1 hj with hj|hj
     .by_cases hji:j=i
      .subst hji;rw[UI (by omega)]<;>rfl
      .rw [UK (λe=>hji e.symm),<-Uy];exact hpre j hj
     .have:j=i:=by simpa using hj
      subst this
      rw[UI (by omega)]<;>rfl)
    (λj hj=>by
     by_cases hji:j=i
     .subst hji;simp
     .rw [Uy,UK (λe=>hji e.symm),<-Uy]at hj
      exact Vt _ (hpre' j hj))
    h2
   exact⟨⟨ready',k1⟩,λj hj=>(UD.1 hj).elim (λe=>e▸r1) (k2 j)⟩
end
section
variable{P:Program}{ops:Array Oper}
theorem HH{N:Nat}{an:NC}{pl:Ll}(hok:IQ ops an=true)(hpl:I8 ops.size an pl=true)(hd:Fb N ops)(hca:FY P ops)
 {K:Env->V2->Prop} {Q:Act->V2->Prop} (hQ:∀g a w,CM N g a->K g w->Q a w) {g:Env} {a:Act} {w:V2} (hr:CM N g a)
 (h:mL P ops ops.toList pl [] g w K):JE P ops Q ops.size (Array.replicate ops.size false) a w:=by
 have r0:O9 P ops an g w 0 (λ_=>default) (λ_=>g) (λ_=>w) (λ_=>undef):=
  ⟨rfl,rfl,λi hi=>by omega,λi hi=>by omega,λi hi=>by omega,λi hi=>by omega,λi j _ hj=>by omega⟩
 obtain⟨O,G,W,V,r,hk⟩:=Me hpl ops.toList 0 [] _ _ _ _ (λj=>by simp) (by simp) r0 (λi hi=>by omega) h
 simp only[Uw,VL]at r hk
 have st:=OZ hok r.op
 have:=PN (Q:=Q) (n:=ops.size) rfl hd hca r st (λa hra=>hQ _ a _ hra hk) ops.size (Array.replicate ops.size false) g a 0 (by simp) hr (by omega)
  (λj hj hl=>by unfold iB at hl;simp[Uy,hj]at hl)
  (λs=> .inr ⟨λj hj hl=>by unfold iB at hl;simp[Uy,hj]at hl,rfl⟩)
  (λh hh _=>⟨λhl=>by unfold iB at hl;simp[Uy,hh]at hl,λhl=>by omega⟩)
  (Vm (VR _ _) (by simp))
 rw[r.w0]at this
 exact this
theorem GW{N:Nat}{ops:Array Oper}(h:ops.all (NN N)=true):Fb N ops:=by
 intro i o ho t ht
 have:=U6.1 h o (VQ ho)
 unfold NN at this
 rw[ht]at this
 exact(VE (x:=t) (y:=N))▸this
theorem IH{ops:Array Oper}(h:ops.all (tA P)=true):FY P ops:=
 λ_ o ho=>U6.1 h o (VQ ho)
theorem Nr{N:Nat}{f:FuncId}{id:Nat}(hd:Fb N ops)(hca:FY P ops)
 {K:Env->V2->Prop} {Q:Act->V2->Prop} (hQ:∀g a w,CM N g a->K g w->Q a w) {g:Env} {a:Act} {w0 w:V2} (hr:CM N g a):
 ∀(T:HT) (path:List (Nat×Nat)),FQ P N ops path T=true→
  (∀q∈path,(Region.schedule true ops (w0.tape w0.drawn (.order f id))).idxOf q.1<=(Region.schedule true ops (w0.tape w0.drawn (.order f id))).idxOf q.2/\q.1≠q.2)→
  Lu P f id ops T g w0 w K->uZ P ops Q (Region.schedule true ops (w0.tape w0.drawn (.order f id))) a w:=by
 have lin:Ks ops ops.size (Array.replicate ops.size false) (Region.schedule true ops (w0.tape w0.drawn (.order f id))):=by
  unfold Region.schedule
  simp only[Bool.true_or,if_true]
  exact Rs _ _ _
 generalize hL:Region.schedule true ops (w0.tape w0.drawn (.order f id))=L at lin⊢
 intro T
 induction T with
 |leaf an pl=>
  intro path hok _ h
  simp only[FQ,Uz]at hok
  exact GR _ _ _ _ _ (HH hok.1 hok.2 hd hca hQ hr h) lin
 |perm π es an pl=>
  intro path hok hpath h
  simp only[FQ,Uz]at hok
  obtain⟨⟨⟨⟨⟨h1,h2⟩,h3⟩,h4⟩,h5⟩,h6⟩:=hok
  have p:=Rx h2
  have hes:∀q∈es,L.idxOf q.1<=L.idxOf q.2/\q.1≠q.2/\q.1<ops.size:=λq hq=>by
   have:=UX.1 h1 q hq
   simp only[Uz]at this
   have hp:=hpath q (Qc this.1)
   exact⟨hp.1,hp.2,(VE (x:=q.1) (y:=ops.size))▸this.2⟩
  obtain⟨k1,k2⟩:=OJ (es:=es) p hes ops.size (Array.replicate ops.size false) (Array.replicate ops.size false) [] L rfl (by simp) (by simp)
   (λj hj=>by simp[Uy,hj,(p.to j hj).1]) (by simp)
   (λj hj=>by rw[Uy]at hj;by_cases hh:j<ops.size<;>simp[hh]at hj) lin
  have hw:=HH h5 h6 (GW h3) (IH h4) hQ hr h
  rw[p.size]at hw
  exact NA (es:=es) p L k2 a w (GR _ _ _ _ _ hw k1)
 |split x y A B ihA ihB=>
  intro path hok hpath h
  simp only[FQ,Uz]at hok
  have hne:x≠y:=by
   intro e
   have:=hok.1.1
   rw[e]at this
   simp at this
  simp only[Lu]at h
  unfold Ord So at h
  rw[hL]at h
  cases hb:Nat.ble (L.idxOf x) (L.idxOf y)with
  |true=>
   rw[hb]at h
   refine ihA _ hok.1.2 (λq hq=> ?_) h
   rcases UD.1 hq with rfl|hq
   .exact ⟨Vs hb,hne⟩
   .exact hpath q hq
  |false=>
   rw[hb]at h
   refine ihB _ hok.2 (λq hq=> ?_) h
   rcases UD.1 hq with rfl|hq
   .refine ⟨?_,hne.symm⟩
    simp only
    rcases U0 (L.idxOf y) (L.idxOf x)with hh|hh
    .omega
    .have:=Nat.ble_eq_true_of_le hh;rw[this]at hb;cases hb
   .exact hpath q hq
end
section
variable{P:Program}{ann:FA}
def jU:List Oper->List Nat
 |[]=>[]
 |o::r=>match o.dst with|some d=>d::jU r|none=>jU r
def Ek:Code->List Nat
 | .region _ ops _=>jU ops.toList
 | .seq x y=>Ek x++Ek y
 | .cond _ x y=>Ek x++Ek y
 | .block _ c=>Ek c
 | .scope c=>Ek c
 | .loop c=>Ek c
 | .rangeFunc .. =>[DS]
 |_=>[]
def iA(l:List Nat)(g g':Env):Prop:=∀s,s∉l->g' s=g s
theorem iA.refl (l:List Nat)(g:Env):iA l g g:=λ_ _=>rfl
theorem iA.trans {l l1 l2:List Nat}{a b c:Env}(h:iA l1 a b)(k:iA l2 b c)(h1:∀s,s∈l1->s∈l)(h2:∀s,s∈l2->s∈l):iA l a c:=
 λs hs=>(k s λh=>hs (h2 s h)).trans (h s λh=>hs (h1 s h))
theorem iA.mono {l l1:List Nat}{a b:Env}(h:iA l1 a b)(h1:∀s,s∈l1->s∈l):iA l a b:=λs hs=>h s λhh=>hs (h1 s hh)
theorem iA.put {l:List Nat}{a:Env}(d:Option Tmp)(v:V3)(h:∀t,d=some t->t∈l):iA l a (put a d v):=by
 intro s hs
 cases d with
 |none=>rfl
 |some t=>
  rw[By,if_neg (λe=>hs (by rw[e];exact h t rfl))]
theorem MH{ops:Array Oper}{K:Env->V2->Prop}:∀(l:List Oper) (g:Env) (w:V2),IN P ops l g w K→
 ∃g' w',K g' w'/\iA (jU l) g g'/\∀K':Env->V2->Prop,K' g' w'->IN P ops l g w K':=by
 intro l
 induction l with
 |nil=>intro g w h;exact⟨g,w,h,iA.refl _ _,λ_ h=>h⟩
 |cons o l ih=>
  intro g w h
  obtain⟨v,w1,hy,h1⟩:=BS h
  obtain⟨g',w',hk,ha,hall⟩:=ih _ _ h1
  refine⟨g',w',hk, ?_,λK' hk'=>hy _ (hall K' hk')⟩
  refine iA.trans (iA.put o.dst v (l:=jU (o::l)) λt ht=>by simp[jU,ht]) ha (λ_ h=>h) (λs hs=> ?_)
  unfold jU
  split
  .exact UC _ hs
  .exact hs
theorem HF{ops:Array Oper}{K:Env->V2->Prop}:∀(l:List Oper) (pl:Ll) (hist:List Rec) (g:Env) (w:V2),mL P ops l pl hist g w K→
 ∃g' w',K g' w'/\iA (jU l) g g'/\∀K':Env->V2->Prop,K' g' w'->mL P ops l pl hist g w K':=by
 intro l
 induction l with
 |nil=>intro pl hist g w h;unfold mL at h;exact⟨g,w,h,iA.refl _ _,λ_ h=>(by unfold mL;exact h)⟩
 |cons o l ih=>
  intro pl hist g w h
  cases pl with
  |nil=>exact h.elim
  |cons p pl=>
   obtain⟨hv,ks⟩:=p
   obtain⟨v,w1,hy,h1⟩:=BS h
   have tail:∀(w2:V2) (hist':List Rec),mL P ops l pl hist' (put g o.dst v) w2 K→
       ∃g' w',K g' w'/\iA (jU (o::l)) g g'/\∀K':Env->V2->Prop,K' g' w'->mL P ops l pl hist' (put g o.dst v) w2 K':=by
    intro w2 hist' c2
    obtain⟨g',w',hk,ha,hall⟩:=ih _ _ _ _ c2
    refine⟨g',w',hk, ?_,hall⟩
    refine iA.trans (iA.put o.dst v (l:=jU (o::l)) λt ht=>by simp[jU,ht]) ha (λ_ h=>h) (λs hs=> ?_)
    unfold jU
    split
    .exact UC _ hs
    .exact hs
   cases hv with
   |true=>
    cases ks with
    |nil=>
     obtain⟨g',w',hk,ha,hall⟩:=tail w1 _ h1
     exact⟨g',w',hk,ha,λK' hk'=>hy _ (hall K' hk')⟩
    |cons k ks=>
     obtain⟨hc,h1⟩:=h1
     obtain⟨g',w',hk,ha,hall⟩:=tail w1 _ h1
     exact⟨g',w',hk,ha,λK' hk'=>hy _ ⟨hc,hall K' hk'⟩⟩
   |false=>
    cases ks with
    |nil=>
     obtain⟨rfl,h1⟩:=h1
     obtain⟨g',w',hk,ha,hall⟩:=tail w1 _ h1
     exact⟨g',w',hk,ha,λK' hk'=>hy _ ⟨rfl,hall K' hk'⟩⟩
    |cons k ks=>
     obtain⟨rfl,hc,h1⟩:=h1
     obtain⟨g',w',hk,ha,hall⟩:=tail w1 _ h1
     exact⟨g',w',hk,ha,λK' hk'=>hy _ ⟨rfl,hc,hall K' hk'⟩⟩
theorem Ai{l:List Oper}{s:Nat}:s∈jU l↔∃o∈l,o.dst=some s:=by
 induction l with
 |nil=>simp[jU]
 |cons o l ih=>
  unfold jU
  cases hd:o.dst with
  |none=>simp[ih,hd]
  |some d=>simp[ih,hd,eq_comm]
theorem MK{π:List Nat}{es:List (Nat×Nat)}{l:List Oper}{s:Nat}:∀(r:List Nat),s∈jU (Gv π es l r)->s∈jU l:=by
 intro r
 induction r with
 |nil=>intro h;simp[Gv,jU]at h
 |cons i r ih=>
  intro h
  simp only[Gv]at h
  cases ho:l[i]? with
  |none=>rw[ho]at h;exact ih h
  |some o=>
   rw[ho]at h
   obtain⟨o',h1,h2⟩:=Ai.1 h
   rcases UD.1 h1 with rfl|h1
   .exact Ai.2 ⟨o,Vu ho,h2⟩
   .exact ih (Ai.2 ⟨o',h1,h2⟩)
theorem PG{f:FuncId}{id:Nat}{ops:Array Oper}{K:Env->V2->Prop}{g:Env}{w0:V2}:∀(T:HT) (w:V2),Lu P f id ops T g w0 w K→
 ∃g' w',K g' w'/\iA (jU ops.toList) g g'/\∀K':Env->V2->Prop,K' g' w'->Lu P f id ops T g w0 w K':=by
 intro T
 induction T with
 |leaf an pl=>intro w h;exact HF _ _ _ _ _ h
 |perm π es an pl=>
  intro w h
  obtain⟨g',w',a,b,c⟩:=HF _ _ _ _ _ h
  exact⟨g',w',a,b.mono (λs hs=>MK π (by simpa[kX]using hs)),c⟩
 |split x y A B ihA ihB=>
  intro w h
  simp only[Lu,Ord]at h⊢
  cases hb:So f id ops x y w0 with
  |true=>rw[hb]at h;exact ihA w h
  |false=>rw[hb]at h;exact ihB w h
theorem bG.head {α:Type}{F:(α->V2->Prop)->α->V2->Prop}(hmono:∀X Y g w,(∀g w,X g w->Y g w)->F X g w->F Y g w)
 {g:α} {w:V2} (h:F (λg' w'=>bG F g' w') g w) (hdet:∃g' w',bG F g' w'/\∀X:α->V2->Prop,X g' w'->F X g w):bG F g w:=by
 obtain⟨g1,w1,⟨I,⟨n1,h1⟩,hI⟩,hF⟩:=hdet
 refine⟨λn g' w'=>I n g' w'∨(n=n1+1/\g'=g/\w'=w),⟨n1+1,.inr ⟨rfl,rfl,rfl⟩⟩, ?_⟩
 rintro n g' w' (h|⟨rfl,rfl,rfl⟩)
 .exact hmono _ _ _ _ (λ_ _ ⟨m,hm,hh⟩=>⟨m,hm,.inl hh⟩) (hI _ _ _ h)
 .exact hF _ ⟨n1,by omega,.inl h1⟩
theorem R4 {f:FuncId}{gf:Operand}{ps:Array Tmp}{Ut bd:Code}{Q:Exit->Env->V2->Prop}{g:Env}{w:V2}(h:RF P f gf ps Ut bd Q g w):
 ∃e g' w',Q e g' w'/\iA [DS] g g'/\∀Q':Exit->Env->V2->Prop,Q' e g' w'->RF P f gf ps Ut bd Q' g w:=by
 unfold RF at h⊢
 cases hn:noMark (g DS)with
 |false=>rw[hn]at h;exact h.elim
 |true=>
  rw[hn]at h
  simp only at h⊢
  generalize(zF (ev g gf) [zO (w.heap.size+1)]).run P (Ph f (Hc P f) ps Ut bd g w)=r at*
  match r,h with
  | .ok (.enter f2 args) w1,h=>
    obtain⟨v,w3,hret,r,h1,h2,h3⟩:=h
    have ha:iA [DS] g (put g (some DS) (.pointer (some ⟨w.heap.size,0,none⟩))):=iA.put _ _ (λt ht=>by cases ht;simp)
    cases hp:r.pending with
    |none=>
     rw[hp]at h3
     exact⟨.normal,_,_,h3,ha,λQ' h=>⟨v,w3,hret,r,h1,h2,by rw[hp];exact h⟩⟩
    |some c=>
     rw[hp]at h3
     cases c<;>first
      |exact h3.elim
      |exact⟨.ret,_,_,h3,ha,λQ' h=>⟨v,w3,hret,r,h1,h2,by rw[hp];exact h⟩⟩
      |exact⟨.exit _,_,_,h3,ha,λQ' h=>⟨v,w3,hret,r,h1,h2,by rw[hp];exact h⟩⟩
theorem Iq:∀(c:Code) (Q:Exit->Env->V2->Prop) (g:Env) (w:V2),eF P ann c Q g w→
 ∃e g' w',Q e g' w'/\iA (Ek c) g g'/\∀Q':Exit->Env->V2->Prop,Q' e g' w'->eF P ann c Q' g w:=by
 intro c
 induction c with
 |skip=>intro Q g w h;exact⟨_,_,_,h,iA.refl _ _,λ_ h=>h⟩
 |region id ops draw=>
  intro Q g w h
  cases draw with
  |false=>
   obtain⟨g',w',a,b,c⟩:=MH _ _ _ h
   exact⟨.normal,g',w',a,b,λQ' h=>c _ h⟩
  |true=>
   obtain⟨g',w',a,b,c⟩:=PG _ _ h
   exact⟨.normal,g',w',a,b,λQ' h=>c _ h⟩
 |seq x y ihx ihy=>
  intro Q g w h
  obtain⟨e,g1,w1,a,b,c⟩:=ihx _ _ _ h
  cases e with
  |normal=>
   obtain⟨e2,g2,w2,a2,b2,c2⟩:=ihy _ _ _ a
   exact⟨e2,g2,w2,a2,b.trans b2 (λs h=>Vt _ h) (λs h=>VH _ h),λQ' h=>c _ (c2 _ h)⟩
  |_=>exact⟨_,g1,w1,a,b.mono (λs h=>Vt _ h),λQ' h=>c _ h⟩
 |cond c x y ihx ihy=>
  intro Q g w h
  simp only[eF]at h⊢
  unfold eT at h⊢
  cases hc:ev g c with
  |bool b=>
   rw[hc]at h
   cases b with
   |true=>
    obtain⟨e,g',w',a,b,c⟩:=ihx _ _ _ h
    exact⟨e,g',w',a,b.mono (λs h=>Vt _ h),c⟩
   |false=>
    obtain⟨e,g',w',a,b,c⟩:=ihy _ _ _ h
    exact⟨e,g',w',a,b.mono (λs h=>VH _ h),c⟩
  |_=>rw[hc]at h;exact h.elim
 |block id c ih=>
  intro Q g w h
  obtain⟨e,g',w',a,b,c⟩:=ih _ _ _ h
  cases e with
  |exit i=>
   simp only[Rc]at a
   cases hb:Nat.beq i id with
   |true=>
    simp only[hb]at a
    refine⟨.normal,g',w',a,b,λQ' h=>c _ ?_⟩
    simp only[Rc,hb];exact h
   |false=>
    simp only[hb]at a
    refine⟨.exit i,g',w',a,b,λQ' h=>c _ ?_⟩
    simp only[Rc,hb];exact h
  |_=>exact⟨_,g',w',a,b,λQ' h=>c _ h⟩
 |loop c ih=>
  intro Q g w h
  have hmono:∀(Q:Exit->Env->V2->Prop) (X Y:Env->V2->Prop) g w,(∀g w,X g w->Y g w)->eF P ann c (sL X Q) g w->eF P ann c (sL Y Q) g w:=by
   intro Q X Y g w hxy h
   obtain⟨e,g',w',a,_,k⟩:=ih _ _ _ h
   refine k _ ?_
   cases e with
   |normal=>exact hxy _ _ a
   |_=>exact a
  obtain⟨I,⟨n,h0⟩,hI⟩:=h
  have key:∀n g w,I n g w->∃e g' w',Q e g' w'/\iA (Ek c) g g'/\∀Q':Exit->Env->V2->Prop,Q' e g' w'->bG (λX g w=>eF P ann c (sL X Q') g w) g w:=by
   intro n
   induction n using Nat.strongRecOn with
   |_ n ih2=>
    intro g w hg
    obtain⟨e,g1,w1,a,b,k⟩:=ih _ _ _ (hI n g w hg)
    have once:∀(Q':Exit->Env->V2->Prop),(∀X:Env->V2->Prop,eF P ann c (sL X Q') g w)->bG (λX g w=>eF P ann c (sL X Q') g w) g w:=by
     intro Q' h
     refine⟨λn g' w'=>g'=g/\w'=w,⟨0,rfl,rfl⟩, ?_⟩
     rintro _ g' w' ⟨rfl,rfl⟩
     exact h _
    cases e with
    |normal=>
     obtain⟨m,hm,hIm⟩:=a
     obtain⟨e2,g2,w2,a2,b2,k2⟩:=ih2 m hm g1 w1 hIm
     refine⟨e2,g2,w2,a2,b.trans b2 (λ_ h=>h) (λ_ h=>h),λQ' h=> ?_⟩
     have hl:=k2 Q' h
     exact bG.head (hmono Q') (k _ hl) ⟨g1,w1,hl,λX hx=>k _ hx⟩
    |_=>exact⟨_,g1,w1,a,b,λQ' h=>once Q' λX=>k _ h⟩
  exact key n g w h0
 |exit id=>intro Q g w h;exact⟨_,_,_,h,iA.refl _ _,λ_ h=>h⟩
 |label l=>intro Q g w h;exact⟨_,_,_,h,iA.refl _ _,λ_ h=>h⟩
 |scope c ih=>intro Q g w h;exact ih Q g w h
 |ret=>intro Q g w h;exact⟨_,_,_,h,iA.refl _ _,λ_ h=>h⟩
 |rangeFunc gf ps Ut bd=>intro Q g w h;exact R4 h
 |_=>intro Q g w h;exact h.elim
theorem vV{c:Code}{Q Q':Exit->Env->V2->Prop}{g:Env}{w:V2}(h:eF P ann c Q g w)
 (hq:∀e g' w',iA (Ek c) g g'->Q e g' w'->Q' e g' w'):eF P ann c Q' g w:=
 let⟨_,_,_,a,b,k⟩:=Iq c Q g w h
 k _ (hq _ _ _ b a)
def Sn(Q:Exit->Env->V2->Prop):Exit->Env->V2->Prop
 | .goto _,_,_=>False
 |e,g,w=>Q e g w
theorem MI:∀(c:Code) (Q:Exit->Env->V2->Prop) (g:Env) (w:V2),eF P ann c Q g w->eF P ann c (Sn Q) g w:=by
 intro c
 induction c with
 |skip=>intro Q g w h;exact h
 |region id ops draw=>intro Q g w h;cases draw<;>exact h
 |seq x y ihx ihy=>
  intro Q g w h
  show eF P ann x (sL (λg w=>eF P ann y (Sn Q) g w) (Sn Q)) g w
  refine vV (ihx _ _ _ h) (λe g' w' _ hq=> ?_)
  cases e with
  |normal=>exact ihy _ _ _ hq
  |goto l=>exact hq.elim
  |_=>exact hq
 |cond c x y ihx ihy=>
  intro Q g w h
  simp only[eF]at h⊢
  unfold eT at h⊢
  cases hc:ev g c with
  |bool b=>
   rw[hc]at h
   cases b with
   |true=>exact ihx _ _ _ h
   |false=>exact ihy _ _ _ h
  |_=>rw[hc]at h;exact h.elim
 |block id c ih=>
  intro Q g w h
  show eF P ann c (Rc id (Sn Q)) g w
  refine vV (ih _ _ _ h) (λe g' w' _ hq=> ?_)
  cases e with
  |exit i=>
   simp only[Sn,Rc]at hq⊢
   cases hb:Nat.beq i id with
   |true=>rw[hb]at hq;exact hq
   |false=>rw[hb]at hq;exact hq
  |goto l=>exact hq.elim
  |_=>exact hq
 |loop c ih=>
  intro Q g w h
  obtain⟨I,h0,hI⟩:=h
  refine⟨I,h0,λn g w hi=> ?_⟩
  refine vV (ih _ _ _ (hI n g w hi)) (λe g' w' _ hq=> ?_)
  cases e with
  |normal=>exact hq
  |goto l=>exact hq.elim
  |_=>exact hq
 |exit id=>intro Q g w h;exact h
 |label l=>intro Q g w h;exact h
 |scope c ih=>intro Q g w h;exact ih Q g w h
 |ret=>intro Q g w h;exact h
 |rangeFunc gf ps Ut bd=>
  intro Q g w h
  have h:RF P ann.f gf ps Ut bd Q g w:=h
  show RF P ann.f gf ps Ut bd (Sn Q) g w
  unfold RF at h⊢
  cases hn:noMark (g DS)with
  |false=>rw[hn]at h;exact h.elim
  |true=>
   rw[hn]at h
   simp only at h⊢
   generalize(zF (ev g gf) [zO (w.heap.size+1)]).run P (Ph ann.f (Hc P ann.f) ps Ut bd g w)=r at*
   match r,h with
   | .ok (.enter f2 args) w1,h=>
     obtain⟨v,w3,hret,r,h1,h2,h3⟩:=h
     refine⟨v,w3,hret,r,h1,h2, ?_⟩
     cases hp:r.pending with
     |none=>rw[hp]at h3;exact h3
     |some c=>rw[hp]at h3;cases c<;>exact h3
 |_=>intro Q g w h;exact h.elim
theorem JA{N:Nat}{g:Env}{a:Act}(h:CM N g a):a.tmps=tmpsOf N g:=by
 refine Array.ext (by simp[tmpsOf,h.size]) λi h1 h2=> ?_
 have hi:i<N:=by rw[<-h.size];exact h1
 have:=h.at_ i (V0 (UQ hi h.le))
 rw[Uy,UH h1]at this
 simp[tmpsOf]at this⊢
 exact this
theorem PI{v:V3}(h:noMark v=true):Lx v=[]:=by cases v<;>first|rfl|cases h
theorem G2 {N:Nat}(hm:P.follows .mixedOrders=true){ro:Option Nat}(hN:Hc P ann.f=N):∀(c:Code),codeOk P N ann c=true->ro=none∨mP c=true→
 ∀(Q:Exit->Env->V2->Prop) (QA:Exit->Act->V2->Prop) (g:Env) (a:Act) (w:V2),CM N g a→
  (∀e g a w,CM N g a->Q e g w->QA e a w)->eF P ann c Q g w->JF P ann.f ro c QA a w:=by
 intro c
 induction c with
 |skip=>intro _ _ Q QA g a w hr hq h;exact QU (hq _ _ _ _ hr h)
 |region id ops draw=>
  intro hok _ Q QA g a w hr hq h
  simp only[codeOk,Uz,U4,Vj]at hok
  have hd:=GW hok.1.1
  have hca:=IH hok.1.2
  cases draw with
  |false=>
   refine Ny ?_
   have:=OL hd hca (P:=P) (Q:=QA .normal) (K:=Q .normal) (λg a w=>hq .normal g a w) ops.toList 0 g a w (λj=>by simp) hr h
   rw[List.range_eq_range']
   simpa using this
  |true=>
   rcases hok.2 with h1|h1
   .cases h1
   .exact Io hm (Nr hd hca (λg a w=>hq .normal g a w) hr _ [] h1 (by simp) h)
 |seq x y ihx ihy=>
  intro hok hfl Q QA g a w hr hq h
  simp only[codeOk,Uz]at hok
  have hfx:ro=none∨mP x=true:=hfl.imp id λh=>by simp only[mP,Uz]at h;exact h.1
  have hfy:ro=none∨mP y=true:=hfl.imp id λh=>by simp only[mP,Uz]at h;exact h.2
  refine RP (ihx hok.1 hfx _ _ g a w hr (λe g a w hr h=> ?_) h)
  cases e with
  |normal=>exact ihy hok.2 hfy _ _ g a w hr hq h
  |_=>exact hq _ _ _ _ hr h
 |cond c x y ihx ihy=>
  intro hok hfl Q QA g a w hr hq h
  simp only[codeOk,Uz]at hok
  have hfx:ro=none∨mP x=true:=hfl.imp id λh=>by simp only[mP,Uz]at h;exact h.1
  have hfy:ro=none∨mP y=true:=hfl.imp id λh=>by simp only[mP,Uz]at h;exact h.2
  simp only[eF]at h
  unfold eT at h
  have he:=hr.ev c hok.1
  cases hc:ev g c with
  |bool b=>
   rw[hc]at h he
   refine QS he ?_
   cases b with
   |true=>exact ihx hok.2.1 hfx _ _ g a w hr hq h
   |false=>exact ihy hok.2.2 hfy _ _ g a w hr hq h
  |_=>rw[hc]at h;exact h.elim
 |block id c ih=>
  intro hok hfl Q QA g a w hr hq h
  refine O4 (ih hok hfl _ _ g a w hr (λe g a w hr h=> ?_) h)
  cases e with
  |exit i=>
   unfold Exit.inBlock
   simp only[Rc]at h
   by_cases hi:i=id
   .subst hi
    simp only[if_true]
    simp only[Nat.beq_refl]at h
    exact hq _ _ _ _ hr h
   .simp only[hi,if_false]
    have:Nat.beq i id=false:=by
     cases hb:Nat.beq i id
     .rfl
     .exact absurd (UO hb) hi
    simp only[this]at h
    exact hq _ _ _ _ hr h
  |_=>exact hq _ _ _ _ hr h
 |loop c ih=>
  intro hok hfl Q QA g a w hr hq h
  obtain⟨I,h0,hround⟩:=h
  have hex:∀a w,(∃n g,CM N g a/\I n g w)->∃n,(∃g,CM N g a/\I n g w)/\∀m,(∃g,CM N g a/\I m g w)->n<=m:=by
   rintro a w ⟨n,hn⟩
   induction n using Nat.strongRecOn with
   |_ n ih2=>
    by_cases hx:∃m,m<n/\∃g,CM N g a/\I m g w
    .obtain ⟨m,hm,h⟩:=hx;exact ih2 m hm h
    .exact ⟨n,hn,λm hm=>Nat.le_of_not_lt λhlt=>hx ⟨m,hlt,hm⟩⟩
  have hdec:∀a w,Decidable (∃n g,CM N g a/\I n g w):=λa w=>Classical.propDecidable _
  let μ:Act->V2->Nat:=λa w=>if hh:∃n g,CM N g a/\I n g w then Classical.choose (hex a w hh)else 0
  have hμ:∀a w n g,CM N g a->I n g w->μ a w<=n/\∃g,CM N g a/\I (μ a w) g w:=by
   intro a w n g hr hI
   have hh:∃n g,CM N g a/\I n g w:=⟨n,g,hr,hI⟩
   have e:μ a w=Classical.choose (hex a w hh):=dif_pos hh
   have s:=Classical.choose_spec (hex a w hh)
   rw[e]
   exact⟨s.2 n ⟨g,hr,hI⟩,s.1⟩
  obtain⟨n0,h0⟩:=h0
  refine QT (λa w=>∃n g,CM N g a/\I n g w) μ ⟨n0,g,hr,h0⟩ ?_
  rintro a w ⟨n,g,hr,hI⟩
  obtain⟨_,g',hr',hI'⟩:=hμ a w n g hr hI
  refine ih hok hfl _ _ g' a w hr' (λe g1 a1 w1 hr1 h=> ?_) (hround _ _ _ hI')
  cases e with
  |normal=>
   obtain⟨m,hm,hIm⟩:=h
   have:=hμ a1 w1 m g1 hr1 hIm
   exact⟨⟨m,g1,hr1,hIm⟩,by omega⟩
  |_=>exact hq _ _ _ _ hr1 h
 |label l=>intro _ _ Q QA g a w hr hq h;exact O5 (hq _ _ _ _ hr h)
 |scope c ih=>
  intro hok hfl Q QA g a w hr hq h
  refine O7 (ih hok hfl (Sn Q) _ g a w hr (λe g a w hr h=> ?_) (MI c _ g w h))
  cases e with
  |goto l=>exact h.elim
  |_=>exact hq _ _ _ _ hr h
 |exit id=>intro _ _ Q QA g a w hr hq h;exact Mu (hq _ _ _ _ hr h)
 |ret=>intro _ _ Q QA g a w hr hq h;exact Oo (hq _ _ _ _ hr h)
 |rangeFunc gf ps Ut bd=>
  intro hok hfl Q QA g a w hr hq h
  have hro:ro=none:=hfl.resolve_right (by simp[mP])
  subst hro
  have hok:Kg gf=true:=hok
  have h:RF P ann.f gf ps Ut bd Q g w:=h
  unfold RF at h
  cases hn:noMark (g DS)with
  |false=>rw[hn]at h;exact h.elim
  |true=>
   rw[hn]at h
   simp only[hN]at h
   have ed:a.defers=[]:=by rw[hr.defers,PI hn]
   have er:=run_enterLoop_outer (P:=P) (w:=w) ann.f a.tmps ps Ut bd
   rw[JA hr]at er
   have er:(Instr.enterLoop ann.f a.tmps ps Ut bd none).run P w= .ok (w.heap.size+1,[{target:= .collected w.heap.size,args:= #[]}]) (Ph ann.f N ps Ut bd g w):=by rw[JA hr];exact er
   generalize Ph ann.f N ps Ut bd g w=w1 at*
   have ee:=hr.ev gf hok
   unfold zF at h
   have hres:resolve a.eval (rangeCall gf (w.heap.size+1)) 0=Deferred.ofValue (ev g gf) #[zO (w.heap.size+1)]:=by
    have:resolve a.eval (rangeCall gf (w.heap.size+1)) 0=Deferred.ofValue (a.eval gf) #[zO (w.heap.size+1)]:=by
     simp only[resolve,List.map_toArray,UB,List.map_nil];rfl
    rw[this,ee]
   rw[show([zO (w.heap.size+1)]:List V3).toArray= #[zO (w.heap.size+1)]from rfl,<-hres,Sem.run_bind]at h
   cases hv:(resolve a.eval (rangeCall gf (w.heap.size+1)) 0).run P w1 with
   |halt x wx=>rw[hv]at h;exact h.elim
   |ok d wx=>
    have hwx:wx=w1:=by
     rw[hres]at hv
     unfold Deferred.ofValue at hv
     split at hv<;>first|(simp only[Sem.run_pure]at hv;cases hv;rfl)|(simp[stuck]at hv)
    subst hwx
    rw[hv]at h
    simp only[Result.andThen]at h
    cases hi:(invoke d.target d.args).run P wx with
    |halt x w2=>rw[hi]at h;exact h.elim
    |ok nx w2=>
     rw[hi]at h
     cases nx<;>try(exact h.elim)
     obtain⟨v,w3,hret,r,h1,h2,h3⟩:=h
     have hrel:∀w,CM N (put g (some DS) (.pointer (some ⟨w,0,none⟩))) {a with defers:=[{target:= .collected w,args:= #[]}]++a.defers}:=λw=>by
      refine⟨hr.le, ?_,hr.size,λi hi=> ?_⟩
      .rw [By,if_pos rfl,ed]<;>rfl
      .rw [By,if_neg hi];exact hr.at_ i hi
     have key:∀(j:Option Code) (w5:V2),Sd Q (put g (some DS) (.pointer (some ⟨w.heap.size,0,none⟩))) j w5→
         RZ P ann.f QA {a with defers:=[{target:= .collected w.heap.size,args:= #[]}]++a.defers} w5 j:=by
      intro j w5 h
      cases j with
      |none=>exact hq _ _ _ _ (hrel _) h
      |some c=>
       cases c<;>first
        |exact h.elim
        |exact Oo (hq _ _ _ _ (hrel _) h)
        |exact Mu (hq _ _ _ _ (hrel _) h)
     exact O6 er hv hi hret (run_endLoop h1 h2) (key _ _ h3)
 |_=>intro hok;simp[codeOk]at hok
def mM(P:Program):List ResultVar->Env->V2->(List V3->Prop)->Prop
 |[],_,_,K=>K []
 | .tmp t::r,g,w,K=>mM P r g w λvs=>K (g t::vs)
 | .cell a t::r,g,w,K=>∃v,(do loadVar t (<-asAddr (g a)):Sem V3).run P w= .ok v w/\mM P r g w λvs=>K (v::vs)
def J2:List V3->V3
 |[v]=>v
 |vs=> .tuple vs.toArray
def Tm(P:Program)(rs:List ResultVar)(R:V3->V2->Prop):Exit->Env->V2->Prop
 | .normal,g,w=>mM P rs g w λvs=>R (J2 vs) w
 | .ret,g,w=>mM P rs g w λvs=>R (J2 vs) w
 |_,_,_=>False
theorem L8 {N:Nat}{g:Env}{a:Act}{w:V2}(hr:CM N g a):∀(rs:List ResultVar),rs.all Kk=true->∀(K:List V3->Prop),mM P rs g w K→
 ∃vs,K vs/\(rs.mapM λ| .tmp t=>pure (a.tmps.getD t undef)| .cell b t=>do loadVar t (<-asAddr (a.tmps.getD b undef)):Sem (List V3)).run P w= .ok vs w:=by
 have ne:∀t:Nat,Nat.blt t DS=true->a.tmps.getD t undef=g t:=λt h=>hr.at_ t (V0 ((VE (x:=t) (y:=DS))▸h))
 intro rs
 induction rs with
 |nil=>intro _ K h;exact⟨[],h,by simp⟩
 |cons r rs ih=>
  intro hok K h
  simp only[List.all_cons,Uz]at hok
  cases r with
  |tmp t=>
   obtain⟨vs,h1,h2⟩:=ih hok.2 _ h
   refine⟨_,h1, ?_⟩
   rw[List.mapM_cons]
   rw[pure_bind,Sem.run_bind]
   simp only[h2,Result.andThen,Sem.run_pure,ne t hok.1]
  |cell b t=>
   obtain⟨v,hv,h⟩:=h
   obtain⟨vs,h1,h2⟩:=ih hok.2 _ h
   refine⟨_,h1, ?_⟩
   rw[List.mapM_cons]
   rw[<-ne b hok.1]at hv
   rw[Sem.run_bind]
   simp only[hv,Result.andThen]
   rw[Sem.run_bind]
   simp only[h2,Result.andThen]
   rfl
theorem SI(vs:Array V3):(if h:vs.size=1 then vs[0]else Value.tuple vs)=J2 vs.toList:=by
 obtain⟨l⟩:=vs
 match l with
 |[]=>rfl
 |[v]=>rfl
 |a::b::r=>simp[J2]
theorem Mf{N:Nat}{g:Env}{a:Act}{w:V2}(fn:Func){rs:List ResultVar}(hok:rs.all Kk=true)(hrs:fn.results=rs.toArray)(hr:CM N g a){R:V3->V2->Prop}
 (h:mM P rs g w λvs=>R (J2 vs) w):∃v,(results fn a.tmps).run P w= .ok v w/\R v w:=by
 obtain⟨vs,h1,h2⟩:=L8 hr rs hok _ h
 refine⟨J2 vs, ?_,h1⟩
 unfold results
 rw[hrs,Array.mapM_eq_mapM_toList,List.toList_toArray]
 simp only[bind_assoc,map_eq_pure_bind]
 rw[Sem.run_bind]
 refine Eq.trans (congrArg (λr=>Result.andThen r _) h2) ?_
 simp only[Result.andThen]
 simp only[pure_bind,Sem.run_pure,SI]
def HI(args:List V3):Env:=λi=>args.getD i undef
def SC(P:Program)(rs:List ResultVar)(R:V3->V2->Prop):Exit->Env->V2->Prop
 | .normal,g,w=>zG (g DS) w λw=>mM P rs g w λvs=>R (J2 vs) w
 | .ret,g,w=>zG (g DS) w λw=>mM P rs g w λvs=>R (J2 vs) w
 |_,_,_=>False
theorem L7 {g:Env}{w:V2}:∀(rs:List ResultVar) (K:List V3->Prop),mM P rs g w K->∃vs,K vs/\∀K':List V3->Prop,K' vs->mM P rs g w K':=by
 intro rs
 induction rs with
 |nil=>intro K h;exact⟨_,h,λ_ h=>h⟩
 |cons r rs ih=>
  intro K h
  cases r with
  |tmp t=>
   obtain⟨vs,a,b⟩:=ih _ h
   exact⟨_,a,λK' h=>b _ h⟩
  |cell b t=>
   obtain⟨v,hv,h⟩:=h
   obtain⟨vs,a,b⟩:=ih _ h
   exact⟨_,a,λK' h=>⟨v,hv,b _ h⟩⟩
theorem Km{v:V3}{w:V2}{K:V2->Prop}(h:zG v w K):∃w',K w'/\∀K':V2->Prop,K' w'->zG v w K':=by
 cases v with
 |pointer p=>
  cases p with
  |none=>exact⟨_,h,λ_ h=>h⟩
  |some a=>exact⟨_,h.2,λ_ h'=>⟨h.1,h'⟩⟩
 |_=>exact⟨_,h,λ_ h=>h⟩
theorem Nl{v:V3}{w:V2}{K K':V2->Prop}(h:zG v w K)(hk:∀w,K w->K' w):zG v w K':=
 let⟨w',a,b⟩:=Km h;b _ (hk w' a)
theorem LC{args:List V3}{N i:Nat}(hle:args.length<=N)(hi:N<=i):HI args i=undef:=by
 unfold HI
 rw[VK,Ve (by omega)]<;>rfl
theorem Ga{f:FuncId}{fn:Func}{c:Code}{args:List V3}{w:V2}{rs:List ResultVar}{R:V3->V2->Prop}(hm:P.follows .mixedOrders=true)(hAf:ann.f=f)
 (hf:P.funcs[f]?=some fn) (hb:fn.body=some c) (hrs:fn.results=rs.toArray) {N:Nat} (hN:fn.ntmps=N) (hle:args.length<=N)
 (hok:codeOk P N ann c=true) (hro:rs.all Kk=true) (hND:Nat.ble N DS=true) (h:eF P ann c (SC P rs R) (HI args) w):aH P f args.toArray w R:=by
 obtain⟨e,g',w',hq,_,hall⟩:=Iq _ _ _ _ h
 have hND:=Vs hND
 have hNt:Hc P ann.f=N:=by unfold Hc;rw[hAf,hf];exact hN
 have hrv:zG (g' DS) w' λw=>mM P rs g' w λvs=>R (J2 vs) w:=by cases e<;>first|exact hq|exact hq.elim
 obtain⟨w2,hrv2,hsh⟩:=Km hrv
 obtain⟨vs,hv,hrest⟩:=L7 _ _ hrv2
 refine⟨J2 vs,w2, ?_,hv⟩
 have hrel:CM N (HI args) {tmps:=args.toArray++Array.replicate (fn.ntmps-args.toArray.size) undef,defers:=[]}:=by
  refine⟨hND,by rw[LC hle hND]<;>rfl,by simp[hN];omega,λi _=> ?_⟩
  simp only[HI,Uy,VK]
  by_cases hi:i<args.length
  .simp [Array.getElem?_append,hi]
  .simp only[Array.getElem?_append,VN,hi,if_false,Array.getElem?_replicate]
   rw[Ve (by omega)]
   split<;>rfl
 have key:=Ky (P:=P) (f:=f) hf hb (R:=λv3 w3=>v3=J2 vs/\w3=w2) (args:=args.toArray) (w:=w)
  (hAf▸G2 hm hNt c hok (.inl rfl) (SC P rs λv3 w3=>v3=J2 vs/\w3=w2) _ _ _ _ hrel (λe g a w hr h=> ?_) (hall _ ?_))
 .refine Calls.mono key ?_
  rintro e w3 ⟨v,rfl,rfl,rfl⟩
  exact⟨rfl,rfl⟩
 .have hx:∀{w},(zG (g DS) w λw=>mM P rs g w λvs'=>J2 vs'=J2 vs/\w=w2)->∃m,a.defers=Lx m/\zG m w λw'=>∃v,(results fn a.tmps).run P w'= .ok v w'/\(v=J2 vs/\w'=w2):=by
   intro w h
   exact⟨_,hr.defers,Nl h λw h=>Mf fn hro hrs hr (R:=λv3 w3=>v3=J2 vs/\w3=w2) h⟩
  cases e with
  |normal=>exact hx h
  |ret=>exact hx h
  |_=>exact h.elim
 .have:=hsh (λw=>mM P rs g' w λvs'=>J2 vs'=J2 vs/\w=w2) (hrest _ ⟨rfl,rfl⟩)
  cases e<;>first|exact this|exact hq.elim
theorem Rj{N:Nat}:∀(c:Code),codeOk P N ann c=true->mP c=true->∀s∈Ek c,s<N:=by
 intro c
 induction c with
 |region id ops draw=>
  intro hok _ s hs
  simp only[codeOk,Uz]at hok
  obtain⟨o,h1,h2⟩:=Ai.1 hs
  obtain⟨i,hi,rfl⟩:=List.getElem_of_mem h1
  exact GW hok.1.1 i _ (by simp at hi⊢) s h2
 |seq x y ihx ihy=>
  intro hok hfl s hs
  simp only[codeOk,mP,Uz]at hok hfl
  rcases Vc.1 hs with hs|hs
  .exact ihx hok.1 hfl.1 s hs
  .exact ihy hok.2 hfl.2 s hs
 |cond c x y ihx ihy=>
  intro hok hfl s hs
  simp only[codeOk,mP,Uz]at hok hfl
  rcases Vc.1 hs with hs|hs
  .exact ihx hok.2.1 hfl.1 s hs
  .exact ihy hok.2.2 hfl.2 s hs
 |block id c ih=>intro hok hfl s hs;exact ih hok hfl s hs
 |loop c ih=>intro hok hfl s hs;exact ih hok hfl s hs
 |scope c ih=>intro hok hfl s hs;exact ih hok hfl s hs
 |rangeFunc=>intro _ hfl;simp[mP]at hfl
 |_=>intro _ _ s hs;simp[Ek]at hs
theorem Lz{f:FuncId}{fn:Func}{c:Code}{args:List V3}{w:V2}{rs:List ResultVar}{R:V3->V2->Prop}(hm:P.follows .mixedOrders=true)(hAf:ann.f=f)
 (hf:P.funcs[f]?=some fn) (hb:fn.body=some c) (hrs:fn.results=rs.toArray) {N:Nat} (hN:fn.ntmps=N) (hle:args.length<=N)
 (hok:codeOk P N ann c=true) (hro:rs.all Kk=true) (hND:Nat.ble N DS=true) (hfl:mP c=true) (h:eF P ann c (Tm P rs R) (HI args) w):aH P f args.toArray w R:=by
 refine Ga hm hAf hf hb hrs hN hle hok hro hND (vV h λe g' w' ha hq=> ?_)
 have hND:=Vs hND
 have:g' DS=undef:=by
  rw[ha DS (λhd=>absurd (Rj c hok hfl DS hd) (Nat.not_lt.2 hND)),LC hle hND]
 cases e with
 |normal=>show zG (g' DS) w' (λw=>mM P rs g' w λvs=>R (J2 vs) w);rw[this];exact hq
 |ret=>show zG (g' DS) w' (λw=>mM P rs g' w λvs=>R (J2 vs) w);rw[this];exact hq
 |_=>exact hq.elim
def Ft(tmps:Array V3):Env:=λi=>tmps.getD i undef
def KQ(l:Nat)(R:V3->V2->Prop):Exit->Env->V2->Prop
 | .normal,_,w=>∃r:Loop,w.heap[l]?=some (.loop r)/\R (.bool true) (w.putObj l (.loop {r with state:= .ready,pending:=none}))
 | .ret,_,w=>∃r:Loop,w.heap[l]?=some (.loop r)/\R (.bool false) (w.putObj l (.loop {r with state:= .done,pending:=some .ret}))
 | .exit i,_,w=>∃r:Loop,w.heap[l]?=some (.loop r)/\R (.bool false) (w.putObj l (.loop {r with state:= .done,pending:=some (.exit i)}))
 |_,_,_=>False
def TT(P:Program)(ann:FA)(l:Nat)(bd:Code)(R:V3->V2->Prop):Exit->Env->V2->Prop
 | .normal,g,w=>∃r:Loop,w.heap[l]?=some (.loop r)/\r.state= .ready/\eF P ann bd (KQ l R) g (w.putObj l (.loop {r with state:= .busy}))
 |_,_,_=>False
theorem KB{f:FuncId}{l:Nat}{tmps:Array V3}{Ut bd:Code}{w:V2}{R:V3->V2->Prop}(hm:P.follows .mixedOrders=true)(hAf:ann.f=f){N:Nat}(hN:Hc P f=N)(hND:Nat.ble N DS=true)
 (hsz:tmps.size=N) (hok1:codeOk P N ann Ut=true) (hf1:mP Ut=true) (hok2:codeOk P N ann bd=true) (hf2:mP bd=true)
 (h:eF P ann Ut (TT P ann l bd R) (Ft tmps) w):J4 P l f tmps Ut bd w R:=by
 subst hAf
 have hND:=Vs hND
 obtain⟨e,g1,w1,hq,ha,hall⟩:=Iq _ _ _ _ h
 cases e with
 |normal=>
  obtain⟨r,h1,h2,hd⟩:=hq
  obtain⟨e2,g2,w2,hq2,ha2,hall2⟩:=Iq _ _ _ _ hd
  have hx:∃v w4,R v w4/\∀R':V3->V2->Prop,R' v w4->KQ l R' e2 g2 w2:=by
   cases e2 with
   |normal=>obtain⟨r2,k1,k2⟩:=hq2;exact⟨_,_,k2,λR' h=>⟨r2,k1,h⟩⟩
   |ret=>obtain⟨r2,k1,k2⟩:=hq2;exact⟨_,_,k2,λR' h=>⟨r2,k1,h⟩⟩
   |exit i=>obtain⟨r2,k1,k2⟩:=hq2;exact⟨_,_,k2,λR' h=>⟨r2,k1,h⟩⟩
   |_=>exact hq2.elim
  obtain⟨v,w4,hR,hrest⟩:=hx
  refine⟨v,w4, ?_,hR⟩
  have hrel:CM N (Ft tmps) {tmps:=tmps,defers:=[]}:=by
   refine⟨hND, ?_,hsz,λi _=>rfl⟩
   have:Ft tmps DS=undef:=by unfold Ft;rw[Uy,UR (by omega)]<;>rfl
   rw[this]<;>rfl
  have key:RoundIn Fence.wide 0 P l ann.f tmps Ut bd w λe w'=>∃v',e= .returned v'/\(v'=v/\w'=w4):=by
   refine KR (G2 hm hN Ut hok1 (.inr hf1) (λe g w=>e= .normal/\g=g1/\w=w1) _ _ _ _ hrel ?_ (hall _ ⟨rfl,rfl,rfl⟩))
   rintro e g a w hra ⟨rfl,rfl,rfl⟩
   refine⟨_,run_beginRound h1 h2,G2 hm hN bd hok2 (.inr hf2) (KQ l λv' w'=>v'=v/\w'=w4) _ _ _ _ hra ?_ (hall2 _ (hrest _ ⟨rfl,rfl⟩))⟩
   intro e g a w _ h
   cases e with
   |normal=>obtain⟨r,k1,k2⟩:=h;exact⟨_,_,run_endRound none k1,k2⟩
   |ret=>obtain⟨r,k1,k2⟩:=h;exact⟨_,_,run_endRound (some .ret) k1,k2⟩
   |exit i=>obtain⟨r,k1,k2⟩:=h;exact⟨_,_,run_endRound (some (.exit i)) k1,k2⟩
   |_=>exact h.elim
  refine RoundIn.mono key ?_
  rintro e w' ⟨v',rfl,rfl,rfl⟩
  exact⟨rfl,rfl⟩
 |_=>exact hq.elim
theorem JJ{f:FuncId}{args:Array V3}{w:V2}{R:V3->V2->Prop}(h:aH P f args w R):
 Calls P f args w λe w'=>∃v,e= .returned v/\R v w':=by
 obtain⟨v,w',hr,hR⟩:=h
 refine Calls.mono hr ?_
 rintro e w'' ⟨rfl,rfl⟩
 exact⟨v,rfl,hR⟩
end
def sA:Code->Code| .seq a _=>a|c=>c
def cT:Code->Code| .cond _ a _=>a|c=>c
def cE:Code->Code| .cond _ _ b=>b|c=>c
def bI:Code->Code| .block _ c=>c| .loop c=>c| .scope c=>c|c=>c
def bH(f:Func):Code:=match f.body with|some c=>c|none=> .skip
def bJ:Nat->Code->Code
 |0,c=>c
 |1,c=>sA c
 |n+1,.seq a b=> .seq a (bJ n b)
 |_,c=>c
def aM:Nat->Code->Code
 |0,c=>c
 |n+1,.seq _ b=>aM n b
 |_,c=>c
def MQ:Nat->Code->Bool
 |1,.seq _ _=>true
 |n+1,.seq _ b=>MQ n b
 |_,_=>false
def dr(w:V2):V2:={w with drawn:=w.drawn+1}
def HW(P:Program)(t:TypeId)(a:V3)(w:V2)(K:V3->Prop):Prop:=∃v,(do loadVar t (<-asAddr a):Sem V3).run P w= .ok v w/\K v
def TL:List (Nat×(Env->V2->Prop))->Nat->Env->V2->Prop
 |[],_,_,_=>False
 |(j,k)::r,i,g,w=>match Nat.beq i j with|true=>k g w|false=>TL r i g w
def Sf(kn kr:Env->V2->Prop)(l:List (Nat×(Env->V2->Prop))):Exit->Env->V2->Prop
 | .normal,g,w=>kn g w
 | .ret,g,w=>kr g w
 | .exit i,g,w=>TL l i g w
 |_,_,_=>False
def Lj(Q:Exit->Env->V2->Prop):List (Nat×(Env->V2->Prop))->Prop
 |[]=>True
 |(i,k)::r=>(∀g w,k g w->Q (.exit i) g w)/\Lj Q r
def dV(c a b:V3):Sem Next:=do pure (.value (if<-asBool c then a else b))
def lE(t:TypeId):Sem Next:=V (Instr.alloc t true (.tuple #[]))
def zZ(t:TypeId)(x:V3):Sem Next:=V (Instr.box t x)
def aD(t:TypeId)(a:V3):Sem Next:=V (Instr.loadAt t a)
def aO(t:TypeId)(a x:V3):Sem Next:=U (Instr.storeAt t a x)
def lO(x:V3):Sem Next:=execOp (λ_=>x) ⟨none,.nilCheck (.tmp 0),0,default,#[],none⟩
def HU(op:UnOp)(x:V3):Sem Next:=V (Op.unary op x)
def qI(s d:TypeId)(x:V3):Sem Next:=V (convert s d x)
def Hw(t:TypeId)(r:Option V3):Sem Next:=V (Instr.makeMap t r)
def DG(t:TypeId)(l c:V3):Sem Next:=V (Instr.makeSlice t l c)
def uQ(t:TypeId)(x:V3)(lo hi mx:Option V3):Sem Next:=V (Instr.sliceAt t x lo hi mx)
def aF(t:TypeId)(x:V3)(f:Nat):Sem Next:=V (Instr.fieldAt t x f)
def aL(t:TypeId)(x i:V3):Sem Next:=V (Instr.indexAt t x i)
def OX(t:TypeId)(x i:V3):Sem Next:=V (Instr.index t x i)
def tI(t:TypeId)(x i:V3)(ok:Bool):Sem Next:=V (Instr.lookup t x i ok)
def FN(t:TypeId)(m k x:V3):Sem Next:=U (Instr.mapUpdate t m k x)
def Hx(t:TypeId)(x:V3):Sem Next:=V (Instr.range t x)
def KU(it:V3):Sem Next:=V (Instr.entry it)
def Mi(it:V3)(str:Bool)(ty:TypeId):Sem Next:=V (Instr.next it str ty)
def cA(t:V3)(i:Nat):Sem Next:=V (Instr.extract t i)
section
variable{P:Program}{ann:FA}
theorem Se{Q:Exit->Env->V2->Prop}:∀{l:List (Nat×(Env->V2->Prop))},Lj Q l->∀{i:Nat} {g:Env} {w:V2},TL l i g w->Q (.exit i) g w:=by
 intro l
 induction l with
 |nil=>intro _ i g w h;exact h.elim
 |cons p r ih=>
  obtain⟨j,k⟩:=p
  rintro⟨h1,h2⟩ i g w h
  simp only[TL]at h
  cases hb:Nat.beq i j with
  |true=>
   simp only[hb]at h
   obtain rfl:=UO hb
   exact h1 _ _ h
  |false=>simp only[hb]at h;exact ih h2 h
theorem Ri{c:Code}{kn kr:Env->V2->Prop}{l:List (Nat×(Env->V2->Prop))}{Q:Exit->Env->V2->Prop}{g:Env}{w:V2}{A:Prop}
 (e:A=eF P ann c (Sf kn kr l) g w) (h:A) (hn:∀g w,kn g w->Q .normal g w) (hr:∀g w,kr g w->Q .ret g w) (hl:Lj Q l):eF P ann c Q g w:=by
 rw[e]at h
 refine vV h (λe g' w' _ hq=> ?_)
 cases e with
 |normal=>exact hn _ _ hq
 |ret=>exact hr _ _ hq
 |exit i=>exact Se hl hq
 |_=>exact hq.elim
theorem OA{x y z:Code}{Q:Exit->Env->V2->Prop}{g:Env}{w:V2}(h:eF P ann (.seq (.seq x y) z) Q g w):eF P ann (.seq x (.seq y z)) Q g w:=by
 show eF P ann x (sL (λg w=>eF P ann y (sL (λg w=>eF P ann z Q g w) Q) g w) Q) g w
 have h:eF P ann x (sL (λg w=>eF P ann y (sL (λg w=>eF P ann z Q g w) Q) g w) (sL (λg w=>eF P ann z Q g w) Q)) g w:=h
 refine vV h (λe g' w' _ hq=> ?_)
 cases e<;>exact hq
theorem aI{K:Env->V2->Prop}{Q:Exit->Env->V2->Prop}{g:Env}{w:V2}(h:K g w):sL K Q .normal g w:=h
theorem OC{Q:Exit->Env->V2->Prop}:∀(n:Nat) (c:Code) (g:Env) (w:V2),MQ n c=true->eF P ann (.seq (bJ n c) (aM n c)) Q g w->eF P ann c Q g w:=by
 intro n
 induction n with
 |zero=>intro c g w h;simp[MQ]at h
 |succ n ih=>
  intro c g w h hd
  cases c with
  |seq a b=>
   cases n with
   |zero=>exact hd
   |succ n=>
    have hb:MQ (n+1) b=true:=by simpa[MQ]using h
    have hd':eF P ann (.seq (.seq a (bJ (n+1) b)) (aM (n+1) b)) Q g w:=hd
    have:=OA hd'
    show eF P ann a (sL (λg w=>eF P ann b Q g w) Q) g w
    have h2:eF P ann a (sL (λg w=>eF P ann (.seq (bJ (n+1) b) (aM (n+1) b)) Q g w) Q) g w:=this
    refine vV h2 (λe g' w' _ hq=> ?_)
    cases e with
    |normal=>exact ih b g' w' hb hq
    |_=>exact hq
  |_=>cases n<;>simp[MQ]at h
def RY(id:Nat):Code->Bool| .block i _=>Nat.beq i id|_=>false
def PZ:Code->Bool| .loop _=>true|_=>false
def PD:Code->Option Operand| .cond o _ _=>some o|_=>none
theorem Rg{Q:Exit->Env->V2->Prop}(id:Nat)(c:Code)(g:Env)(w:V2)(h:RY id c=true)(hd:eF P ann (bI c) (Rc id Q) g w):eF P ann c Q g w:=by
 cases c with
 |block i c=>
  obtain rfl:=UO (show Nat.beq i id=true from h)
  exact hd
 |_=>cases h
theorem Rh{Q:Exit->Env->V2->Prop}(o:Operand)(c:Code)(g:Env)(w:V2)(h:PD c=some o)
 (hd:eT (ev g o) (eF P ann (cT c) Q g w) (eF P ann (cE c) Q g w)):eF P ann c Q g w:=by
 cases c with
 |cond o' a b=>obtain rfl:=U5 h;exact hd
 |_=>cases h
theorem Pk{v:V3}{A B A' B':Prop}(ha:A->A')(hb:B->B')(h:eT v A B):eT v A' B':=by
 unfold eT at*
 cases v with
 |bool b=>cases b<;>first|exact ha h|exact hb h
 |_=>exact h
theorem PH{T:Type}(proj:Env->T)(F:(T->V2->Prop)->T->V2->Prop){c:Code}{Q:Exit->Env->V2->Prop}{g:Env}{w:V2}
 (hF:∀(X:T->V2->Prop) g' w',iA (Ek c) g g'->F X (proj g') w'->eF P ann c (sL (λg'' w''=>X (proj g'') w'') Q) g' w')
 (h:bG F (proj g) w):eF P ann (.loop c) Q g w:=by
 obtain⟨I,⟨n,h0⟩,hI⟩:=h
 refine⟨λn g' w'=>iA (Ek c) g g'/\I n (proj g') w',⟨n,iA.refl _ _,h0⟩, ?_⟩
 rintro n g' w' ⟨ha,hi⟩
 have:=hF _ g' w' ha (hI n _ _ hi)
 refine vV this (λe g2 w2 ha2 hq=> ?_)
 cases e with
 |normal=>
  obtain⟨m,hm,hh⟩:=hq
  exact⟨m,hm,ha.trans ha2 (λ_ h=>h) (λ_ h=>h),hh⟩
 |_=>exact hq
theorem OB{T:Type}(proj:Env->T)(F:(T->V2->Prop)->T->V2->Prop)(c:Code){Q:Exit->Env->V2->Prop}{g:Env}{w:V2}(hl:PZ c=true)
 (h:bG F (proj g) w)
 (hF:∀(X:T->V2->Prop) g' w',iA (Ek (bI c)) g g'->F X (proj g') w'->eF P ann (bI c) (sL (λg'' w''=>X (proj g'') w'') Q) g' w'):eF P ann c Q g w:=by
 cases c with
 |loop c=>exact PH proj F hF h
 |_=>cases hl
theorem MX{l:List Nat}{s:Nat}(hs:lD s l=false):s∉l:=by
 induction l with
 |nil=>simp
 |cons a r ih=>
  unfold lD at hs
  cases hb:Nat.beq a s with
  |true=>simp only[hb]at hs;cases hs
  |false=>
   simp only[hb]at hs
   intro hm
   rcases UD.1 hm with e|hm
   .subst e;simp at hb
   .exact ih hs hm
theorem Ps{l:List Nat}{g g':Env}(h:iA l g g'){s:Nat}(hs:lD s l=false):g' s=g s:=h s (MX hs)
theorem bG.rule {α:Type}{F:(α->V2->Prop)->α->V2->Prop}(I:Nat->α->V2->Prop){g:α}{w:V2}(n:Nat)(h0:I n g w)
 (hr:∀n g w,I n g w->F (λg' w'=>∃m,m<n/\I m g' w') g w):bG F g w:=⟨I,⟨n,h0⟩,hr⟩
theorem jJ(A B:Prop):eT (.bool true) A B=A:=Eq.trans rfl rfl
theorem eH(A B:Prop):eT (.bool false) A B=B:=Eq.trans rfl rfl
theorem mK(s:(V3->V2->Prop)->Prop)(w:V2)(K:V3->V2->Prop):Gd true s w K=s K:=Eq.trans rfl rfl
theorem lL(s:(V3->V2->Prop)->Prop)(w:V2)(K:V3->V2->Prop):Gd false s w K=K undef w:=Eq.trans rfl rfl
theorem Q5 (p:Prop):Gs true p=p:=Eq.trans rfl rfl
theorem Pm(p:Prop):Gs false p=True:=Eq.trans rfl rfl
theorem wP:bB (.bool true) true=true:=Eq.trans rfl rfl
theorem G6:bB (.bool true) false=false:=Eq.trans rfl rfl
theorem uG:bB (.bool false) true=false:=Eq.trans rfl rfl
theorem uF:bB (.bool false) false=true:=Eq.trans rfl rfl
def aK:Operand:= .tmp 0
theorem S5 {c:Code}{kn kr:Env->V2->Prop}{l:List (Nat×(Env->V2->Prop))}{Q:Exit->Env->V2->Prop}{g:Env}{w:V2}{A:Prop}
 (h:A) (hn:∀g w,kn g w->Q .normal g w) (hr:∀g w,kr g w->Q .ret g w) (hl:Lj Q l) (e:A=eF P ann c (Sf kn kr l) g w:=by kernel_rfl):eF P ann c Q g w:=Ri e h hn hr hl
theorem jS{Q:Exit->Env->V2->Prop}(n:Nat){c:Code}{g:Env}{w:V2}
 (hd:eF P ann (bJ n c) (sL (λg w=>eF P ann (aM n c) Q g w) Q) g w) (h:MQ n c=true:=by kernel_rfl):eF P ann c Q g w:=OC n c g w h hd
theorem B7 {Q:Exit->Env->V2->Prop}(id:Nat){c:Code}{g:Env}{w:V2}(hd:eF P ann (bI c) (Rc id Q) g w)(h:RY id c=true:=by kernel_rfl):eF P ann c Q g w:=Rg id c g w h hd
theorem QY{Q:Exit->Env->V2->Prop}(o:Operand){c:Code}{g:Env}{w:V2}{A B:Prop}(ha:A->eF P ann (cT c) Q g w)(hb:B->eF P ann (cE c) Q g w)(hd:eT (ev g o) A B)(h:PD c=some o:=by kernel_rfl):eF P ann c Q g w:=
 Rh o c g w h (Pk ha hb hd)
theorem FX{T:Type}(proj:Env->T)(F:(T->V2->Prop)->T->V2->Prop){c:Code}{Q:Exit->Env->V2->Prop}{g:Env}{w:V2}
 (h:bG F (proj g) w)
 (hF:∀(X:T->V2->Prop) g' w',iA (Ek (bI c)) g g'->F X (proj g') w'->eF P ann (bI c) (sL (λg'' w''=>X (proj g'') w'') Q) g' w') (hl:PZ c=true:=by kernel_rfl):eF P ann c Q g w:=OB proj F c hl h hF
theorem lT{l:List Nat}{g g':Env}(s:Nat)(h:iA l g g')(hs:lD s l=false:=by kernel_rfl):g' s=g s:=Ps h hs
theorem uE{ann:FA}(fn:Func)(c:Code)(args:List V3)(rs:List ResultVar)(N:Nat){f:FuncId}{w:V2}{R:V3->V2->Prop}(hm:P.follows .mixedOrders=true)
 (hf:P.funcs[f]?=some fn) (h:eF P ann c (Tm P rs R) (HI args) w) (hAf:ann.f=f:=by kernel_rfl) (hb:fn.body=some c:=by kernel_rfl) (hrs:fn.results=rs.toArray:=by kernel_rfl) (hN:fn.ntmps=N:=by kernel_rfl) (hle:Nat.ble args.length N=true:=by kernel_rfl)
 (hok:codeOk P N ann c=true:=by kernel_rfl) (hro:rs.all Kk=true:=by kernel_rfl) (hND:Nat.ble N DS=true:=by kernel_rfl) (hfl:mP c=true:=by kernel_rfl):aH P f args.toArray w R:=
 Lz hm hAf hf hb hrs hN (Vs hle) hok hro hND hfl h
def JT:Code->Option (Operand×Array Tmp×Code×Code)
 | .rangeFunc g ps Ut bd=>some (g,ps,Ut,bd)
 | .seq a b=>(match JT a with|some r=>some r|none=>JT b)
 | .cond _ a b=>(match JT a with|some r=>some r|none=>JT b)
 | .block _ c=>JT c
 | .loop c=>JT c
 | .scope c=>JT c
 |_=>none
def Qw(c:Code):Array Tmp:=match JT c with|some (_,ps,_)=>ps|none=> #[]
def OS(c:Code):Code:=match JT c with|some (_,_,Ut,_)=>Ut|none=> .skip
def M9 (c:Code):Code:=match JT c with|some (_,_,_,bd)=>bd|none=> .skip
def TQ(l:Nat)(w:V2)(K:V2->Prop):Prop:=∃r:Loop,w.heap[l]?=some (.loop r)/\r.state= .ready/\K (w.putObj l (.loop {r with state:= .busy}))
def T8:Option Code->LoopState
 |none=> .ready
 |some _=> .done
def Q7 (l:Nat)(j:Option Code)(R:V3->V2->Prop)(w:V2):Prop:=
 ∃r:Loop,w.heap[l]?=some (.loop r)/\R (.bool j.isNone) (w.putObj l (.loop {r with state:=T8 j,pending:=j}))
theorem Ug{ann:FA}(fn:Func)(c:Code)(args:List V3)(rs:List ResultVar)(N:Nat){f:FuncId}{w:V2}{R:V3->V2->Prop}(hm:P.follows .mixedOrders=true)
 (hf:P.funcs[f]?=some fn) (h:eF P ann c (SC P rs R) (HI args) w) (hAf:ann.f=f:=by kernel_rfl) (hb:fn.body=some c:=by kernel_rfl) (hrs:fn.results=rs.toArray:=by kernel_rfl) (hN:fn.ntmps=N:=by kernel_rfl) (hle:Nat.ble args.length N=true:=by kernel_rfl)
 (hok:codeOk P N ann c=true:=by kernel_rfl) (hro:rs.all Kk=true:=by kernel_rfl) (hND:Nat.ble N DS=true:=by kernel_rfl):aH P f args.toArray w R:=
 Ga hm hAf hf hb hrs hN (Vs hle) hok hro hND h
theorem Uh{ann:FA}(N:Nat){f:FuncId}{l:Nat}{tmps:Array V3}{Ut bd:Code}{w:V2}{R:V3->V2->Prop}(hm:P.follows .mixedOrders=true)(hsz:tmps.size=N)
 (h:eF P ann Ut (TT P ann l bd R) (Ft tmps) w) (hN:Hc P f=N) (hok1:codeOk P N ann Ut=true) (hok2:codeOk P N ann bd=true) (hAf:ann.f=f:=by kernel_rfl) (hND:Nat.ble N DS=true:=by kernel_rfl)
 (hf1:mP Ut=true:=by kernel_rfl) (hf2:mP bd=true:=by kernel_rfl):J4 P l f tmps Ut bd w R:=
 KB hm hAf hN hND hsz hok1 hf1 hok2 hf2 h
end
end Go.En
namespace Go.Proofs.Ytmhokapokchneaa
open Go Go.En
noncomputable abbrev pg:Program:=Try.prog
theorem TryM.mixed:pg.follows .mixedOrders=true:=Try.checked.mixed
abbrev K0:=V2->Prop
abbrev K1:=V3->K0
abbrev K2:=V3->K1
abbrev K3:=V3->K2
abbrev K4:=V3->K3
abbrev K5:=V3->K4
abbrev K6:=V3->K5
abbrev K7:=V3->K6
abbrev K8:=V3->K7
abbrev K9:=V3->K8
abbrev HR(rs:List ResultVar)(R:K1)(Q:Exit->Env->V2->Prop):Prop:=∀g w,(mM pg rs g w λvs=>R (J2 vs) w)->Q .ret g w
abbrev no:Env->V2->Prop:=λ_ _=>False
theorem Gt{Q:Env->V2->Prop}:∀g w,no g w->Q g w:=λ_ _ h=>h.elim
def fz:Nat->List (Bool×List Nat)->List (Bool×List Nat)
 |0,l=>l
 |n+1,l=>(false,[])::fz n l
def ft(a:List Nat)(l:List (Bool×List Nat)):List (Bool×List Nat):=(true,a)::l
def fu(a:List Nat)(l:List (Bool×List Nat)):List (Bool×List Nat):=(false,a)::l
theorem jH{Q:Env->V2->Prop}:∀g w,Q g w->Q g w:=λ_ _ h=>h
section
variable{P:Program}{ann:FA}{c:Code}{kr:Env->V2->Prop}{Q:Exit->Env->V2->Prop}{g:Env}{w:V2}{A:Prop}
theorem FV(l:List (Nat×(Env->V2->Prop)))(kn:Env->V2->Prop)(h:A)(hn:∀g w,kn g w->Q .normal g w)(hr:∀g w,kr g w->Q .ret g w)(hl:Lj Q l)(e:A=eF P ann c (Sf kn kr l) g w:=by kernel_rfl):eF P ann c Q g w:=S5 h hn hr hl e
theorem Pb(kn:Env->V2->Prop)(h:A)(hn:∀g w,kn g w->Q .normal g w)(hr:∀g w,kr g w->Q .ret g w)(e:A=eF P ann c (Sf kn kr []) g w:=by kernel_rfl):eF P ann c Q g w:=S5 (l:=[]) h hn hr trivial e
theorem oT(kn:Env->V2->Prop)(h:A)(hn:∀g w,kn g w->Q .normal g w)(e:A=eF P ann c (Sf kn no []) g w:=by kernel_rfl):eF P ann c Q g w:=S5 (l:=[]) h hn Gt trivial e
theorem wM(h:A)(hr:∀g w,kr g w->Q .ret g w)(e:A=eF P ann c (Sf no kr []) g w:=by kernel_rfl):eF P ann c Q g w:=S5 (l:=[]) h Gt hr trivial e
end
abbrev MA(k:K0):Env->V2->Prop:=λg w=>k w
abbrev SS(k:K1)(x0:Nat):Env->V2->Prop:=λg w=>k (g x0) w
abbrev MB(k:K2)(x0 x1:Nat):Env->V2->Prop:=λg w=>k (g x0) (g x1) w
abbrev Kt(k:K3)(x0 x1 x2:Nat):Env->V2->Prop:=λg w=>k (g x0) (g x1) (g x2) w
abbrev Cq(k:K4)(x0 x1 x2 x3:Nat):Env->V2->Prop:=λg w=>k (g x0) (g x1) (g x2) (g x3) w
abbrev IC(k:K5)(x0 x1 x2 x3 x4:Nat):Env->V2->Prop:=λg w=>k (g x0) (g x1) (g x2) (g x3) (g x4) w
abbrev Lk(k:K6)(x0 x1 x2 x3 x4 x5:Nat):Env->V2->Prop:=λg w=>k (g x0) (g x1) (g x2) (g x3) (g x4) (g x5) w
abbrev TP(k:K7)(x0 x1 x2 x3 x4 x5 x6:Nat):Env->V2->Prop:=λg w=>k (g x0) (g x1) (g x2) (g x3) (g x4) (g x5) (g x6) w
abbrev Ud(k:K8)(x0 x1 x2 x3 x4 x5 x6 x7:Nat):Env->V2->Prop:=λg w=>k (g x0) (g x1) (g x2) (g x3) (g x4) (g x5) (g x6) (g x7) w
abbrev Ue(k:K9)(x0 x1 x2 x3 x4 x5 x6 x7 x8:Nat):Env->V2->Prop:=λg w=>k (g x0) (g x1) (g x2) (g x3) (g x4) (g x5) (g x6) (g x7) (g x8) w
abbrev sV:FuncId:=5
abbrev vA:FuncId:=7
abbrev tX:FuncId:=8
abbrev lH:FuncId:=9
abbrev jK:FuncId:=10
abbrev lG:FuncId:=11
abbrev fS:FuncId:=12
abbrev nP:FuncId:=13
abbrev vP:FuncId:=14
abbrev xB:FuncId:=15
abbrev xA:FuncId:=16
abbrev pT:FuncId:=17
abbrev nQ:FuncId:=18
abbrev mO:FuncId:=19
abbrev oX:FuncId:=20
abbrev iZ:FuncId:=21
abbrev tY:FuncId:=22
abbrev oY:FuncId:=23
abbrev kE:FuncId:=24
abbrev jL:FuncId:=25
abbrev oF:FuncId:=26
abbrev oZ:FuncId:=27
abbrev lJ:FuncId:=28
abbrev sX:FuncId:=29
abbrev qO:FuncId:=30
abbrev sW:FuncId:=31
abbrev nR:FuncId:=32
abbrev lI:FuncId:=33
abbrev lK:FuncId:=34
abbrev pU:FuncId:=35
abbrev Kr:FuncId:=36
abbrev xC:FuncId:=37
abbrev qP:FuncId:=38
abbrev rI:FuncId:=39
abbrev pV:FuncId:=40
abbrev oS:FuncId:=41
abbrev iO:FuncId:=42
abbrev eU:FuncId:=43
abbrev sY:FuncId:=44
abbrev oI:FuncId:=45
abbrev aW:FuncId:=46
abbrev aY:FuncId:=47
abbrev oH:FuncId:=48
abbrev aZ:FuncId:=49
abbrev fC:FuncId:=50
abbrev dS:FuncId:=51
abbrev dZ:FuncId:=52
abbrev dW:FuncId:=53
abbrev bZ:FuncId:=54
abbrev bM:FuncId:=55
abbrev qQ:FuncId:=56
abbrev cX:FuncId:=57
abbrev FZ:FuncId:=58
abbrev pA:FuncId:=59
abbrev dO:FuncId:=60
abbrev jC:FuncId:=61
abbrev jT:FuncId:=62
abbrev fG:FuncId:=63
abbrev fX:FuncId:=64
abbrev mN:FuncId:=65
abbrev cN:FuncId:=66
abbrev N0 (Q : Exit -> Env -> V2 -> Prop) (k : K0) : Prop := ∀ g w, k w -> Q .normal g w
abbrev E0 (Q : Exit -> Env -> V2 -> Prop) (k : K0) (x0 : Nat) : Prop := ∀ g w, k w -> Q (.exit x0) g w
abbrev N1 (Q : Exit -> Env -> V2 -> Prop) (k : K1) (a_ : Nat) : Prop := ∀ g w, k (g a_) w -> Q .normal g w
abbrev E1 (Q : Exit -> Env -> V2 -> Prop) (k : K1) (x0 : Nat) (a_ : Nat) : Prop := ∀ g w, k (g a_) w -> Q (.exit x0) g w
abbrev N2 (Q : Exit -> Env -> V2 -> Prop) (k : K2) (a_ b_ : Nat) : Prop := ∀ g w, k (g a_) (g b_) w -> Q .normal g w
abbrev E2 (Q : Exit -> Env -> V2 -> Prop) (k : K2) (x0 : Nat) (a_ b_ : Nat) : Prop := ∀ g w, k (g a_) (g b_) w -> Q (.exit x0) g w
abbrev N3 (Q : Exit -> Env -> V2 -> Prop) (k : K3) (a_ b_ c_ : Nat) : Prop := ∀ g w, k (g a_) (g b_) (g c_) w -> Q .normal g w
abbrev E3 (Q : Exit -> Env -> V2 -> Prop) (k : K3) (x0 : Nat) (a_ b_ c_ : Nat) : Prop := ∀ g w, k (g a_) (g b_) (g c_) w -> Q (.exit x0) g w
abbrev N4 (Q : Exit -> Env -> V2 -> Prop) (k : K4) (a_ b_ c_ d_ : Nat) : Prop := ∀ g w, k (g a_) (g b_) (g c_) (g d_) w -> Q .normal g w
abbrev E4 (Q : Exit -> Env -> V2 -> Prop) (k : K4) (x0 : Nat) (a_ b_ c_ d_ : Nat) : Prop := ∀ g w, k (g a_) (g b_) (g c_) (g d_) w -> Q (.exit x0) g w
abbrev N5 (Q : Exit -> Env -> V2 -> Prop) (k : K5) (a_ b_ c_ d_ e_ : Nat) : Prop := ∀ g w, k (g a_) (g b_) (g c_) (g d_) (g e_) w -> Q .normal g w
abbrev E5 (Q : Exit -> Env -> V2 -> Prop) (k : K5) (x0 : Nat) (a_ b_ c_ d_ e_ : Nat) : Prop := ∀ g w, k (g a_) (g b_) (g c_) (g d_) (g e_) w -> Q (.exit x0) g w
abbrev N6 (Q : Exit -> Env -> V2 -> Prop) (k : K6) (a_ b_ c_ d_ e_ f_ : Nat) : Prop := ∀ g w, k (g a_) (g b_) (g c_) (g d_) (g e_) (g f_) w -> Q .normal g w
abbrev V4 (n_ : Int) : V3 := .int .i64 n_
end Go.Proofs.Ytmhokapokchneaa
namespace Go.Proofs.Ytmhokapokchneaa
open Go Go.En
set_option maxRecDepth 20000
attribute [local irreducible] Go.En.eF
variable (Q : Exit -> Env -> V2 -> Prop) (g : Env) (w : V2)
def qG:FA:=⟨sV,λi=>match Nat.beq i 14 with|true=> .leaf ([6,10],[(9,10)]) (fz 6 (ft [] (fz 3 (ft [0] (fz 1 [])))))|false=> .leaf ([],[]) []⟩
def rW:List ResultVar:=[.tmp 4]
noncomputable def pH:Code:=bH Try.f5
def kL(R:K1) w:=
 R (.bool true) w
def nU(kn:K5)(k0:K0)(R:K1) gQ PF QZ Nx bE w:=
 aB pg (kY .len #[37] 3 [gQ]) w λe7 w=>
 aB pg (aE .lss 3 aK aK bE e7) w λe8 w=>
 Gd (bB e8 true) (λK=>K bE w) w λf0 w=>
 Gd (bB e8 true) (λK=>aB pg (aE .lss 3 aK aK f0 (V4 30)) w K) w λf1 w=>
 aB pg (dV e8 f1 (.bool false)) w λf2 w=>
 Gd (bB f2 true) (λK=>K QZ w) w λf4 w=>
 Gd (bB f2 true) (λK=>aB pg (aE .eql 26 (.tmp 44) (.const (V4 0)) f4 (V4 0)) w K) w λf5 w=>
 aB pg (dV f2 f5 (.bool false)) w λf6 w=>
 eT f6
  (aB pg (aL 37 gQ bE) w λi1 w=>
  aB pg (aF 45 i1 4) w λi2 w=>
  aB pg (aD 23 i2) w λi3 w=>
  aB pg (kY .len #[23] 3 [i3]) w λi4 w=>
  aB pg (aE .gtr 3 aK aK i4 (V4 200)) w λi5 w=>
  Gd (bB i5 false) (λK=>K gQ w) w λi7 w=>
  Gd (bB i5 false) (λK=>K bE w) w λi8 w=>
  Gd (bB i5 false) (λK=>aB pg (aL 37 i7 i8) w K) w λi9 w=>
  Gd (bB i5 false) (λK=>aB pg (aF 45 i9 1) w K) w λj0 w=>
  Gd (bB i5 false) (λK=>aB pg (aD 9 j0) w K) w λj1 w=>
  Gd (bB i5 false) (λK=>aB pg (kY .len #[9] 3 [j1]) w K) w λj2 w=>
  Gd (bB i5 false) (λK=>aB pg (aE .gtr 3 aK aK j2 (V4 100)) w K) w λj3 w=>
  aB pg (dV i5 (.bool true) j3) w λj4 w=>
  Gd (bB j4 false) (λK=>K gQ w) w λj6 w=>
  Gd (bB j4 false) (λK=>K bE w) w λj7 w=>
  Gd (bB j4 false) (λK=>aB pg (aL 37 j6 j7) w K) w λj8 w=>
  Gd (bB j4 false) (λK=>aB pg (aF 45 j8 2) w K) w λj9 w=>
  Gd (bB j4 false) (λK=>aB pg (aD 9 j9) w K) w λl0 w=>
  Gd (bB j4 false) (λK=>aB pg (kY .len #[9] 3 [l0]) w K) w λl1 w=>
  Gd (bB j4 false) (λK=>aB pg (aE .gtr 3 aK aK l1 (V4 100)) w K) w λl2 w=>
  aB pg (dV j4 (.bool true) l2) w λl3 w=>
  Gd (bB l3 false) (λK=>K gQ w) w λl5 w=>
  Gd (bB l3 false) (λK=>K bE w) w λl6 w=>
  Gd (bB l3 false) (λK=>aB pg (aL 37 l5 l6) w K) w λl7 w=>
  Gd (bB l3 false) (λK=>aB pg (aF 45 l7 3) w K) w λl8 w=>
  Gd (bB l3 false) (λK=>aB pg (aD 3 l8) w K) w λl9 w=>
  Gd (bB l3 false) (λK=>aB pg (aE .gtr 3 aK aK l9 (V4 1099511627776)) w K) w λm0 w=>
  aB pg (dV l3 (.bool true) m0) w λm1 w=>
  eT m1
   (R (.bool true) w)
   ((dr w)=(dr w)/\
   aB pg (aD 41 Nx) (dr w) λm4 w_=>w_=(dr w)/\
   (dr w)=(dr w)/\
   (dr w)=(dr w)/\
   aB pg (aL 37 gQ bE) (dr w) λm7 w_=>w_=(dr w)/\
   aB pg (aD 45 m7) (dr w) λm8 w_=>w_=(dr w)/\
   aH pg xB #[PF,m4,m8] (dr w) λm9 JB=>
   JB=JB/\
   aB pg (cA m9 0) JB λn0 w_=>w_=JB/\
   aB pg (cA m9 1) JB λn1 w_=>w_=JB/\
   aB pg (aO 41 Nx n0) JB λ_u10 La=>
   (tZ pg (cA m9 1) n1 La/\True)/\
   La=La/\
   aB pg (HU .not n1) La λn3 w=>
   Gd (bB n3 false) (λK=>K PF w) w λn5 w=>
   Gd (bB n3 false) (λK=>aB pg (aD 41 Nx) w K) w λn6 w=>
   Gd (bB n3 false) (λK=>aH pg xA #[n5,n6] w K) w λn7 w=>
   Gd (bB n3 false) (λK=>aB pg (HU .not n7) w K) w λn8 w=>
   aB pg (dV n3 (.bool true) n8) w λn9 w=>
   eT n9
    (R (.bool false) w)
    (aB pg (aE .add 3 aK aK bE (V4 1)) w λf8 w=>
    kn gQ PF QZ Nx f8 w)))
  (k0 w)
def kM(k0:K0)(R:K1) gQ PF QZ Nx bE w:=
 bG (λ(X:V3->K0) (t:V3) (w:V2)=>nU (λ_ _ _ _ bE w=>X bE w) k0 R gQ PF QZ Nx t w) bE w
theorem CE(k0:K0)(R:K1)(h0:E0 Q k0 0)(hr:HR rW R Q)(h:kM k0 R (g 1) (g 6) (g 7) (g 8) (g 10) w):eF pg qG (bI (aM 1 (bJ 1 (aM 6 pH)))) Q g w:=by
 refine FX (λg:Env=>g 10) (λX t w=>nU (λ_ _ _ _ bE w=>X bE w) k0 R (g 1) (g 6) (g 7) (g 8) t w) h (λX g1 w1 ha hL=> ?_)
 rw[<-lT 1 ha,<-lT 6 ha,<-lT 7 ha,<-lT 8 ha]at hL
 exact(FV [(0,(MA k0))] (IC (λ_ _ _ _ bE w=>X bE w) 1 6 7 8 10) hL jH hr ⟨h0,trivial⟩)
def rV(kn:K5) gQ PF QZ Nx w:=
 kn gQ PF QZ Nx (V4 0) w
def nV(kn:K0)(R:K1) gQ PF QZ Nx w:=
 rV (kM kn R) gQ PF QZ Nx w
def kN(R:K1) gQ PF QZ Nx w:=
 nV (kL R) R gQ PF QZ Nx w
theorem CF(kn:K0)(R:K1)(hn:N0 Q kn)(hr:HR rW R Q)(h:nV kn R (g 1) (g 6) (g 7) (g 8) w):eF pg qG (bJ 1 (aM 6 pH)) Q g w:=
 jS 1 (oT (IC (kM kn R) 1 6 7 8 10) h (λg w h=>aI (B7 0 (CE _ g w kn R hn hr h))))
def yO(kn:K4)(R:K1) wQ gQ w:=
 aH pg vA #[] w λc2 w=>
 aB pg (HU .not c2) w λc4 w=>
 eT c4
  (R (.bool false) w)
  (aH pg tX #[wQ] w λc7 w=>
  aB pg (cA c7 0) w λc8 w=>
  aB pg (cA c7 1) w λc9 w=>
  aH pg vP #[wQ] w λd2 w=>
  aB pg (cA d2 0) w λd3 w=>
  aB pg (cA d2 1) w λd4 w=>
  aB pg (lE 41) w λNx w=>
  aB pg (aO 41 Nx d3) w λ_u w=>
  aB pg (aE .neq 26 (.tmp 25) (.tmp 26) c9 d4) w λd7 w=>
  Gd (bB d7 false) (λK=>K c8 w) w λd9 w=>
  Gd (bB d7 false) (λK=>aB pg (aE .eql 25 (.tmp 29) (.const (.pointer none)) d9 (.pointer none)) w K) w λe0 w=>
  Gd (bB d7 false) (λK=>K c9 w) w λe1 w=>
  Gd (bB d7 false) (λK=>aB pg (aE .neq 26 (.tmp 31) (.const (V4 0)) e1 (V4 0)) w K) w λe2 w=>
  Gd (bB d7 false) (λK=>aB pg (aE .neq 4 (.tmp 30) (.tmp 32) e0 e2) w K) w λe3 w=>
  aB pg (dV d7 (.bool true) e3) w λe4 w=>
  eT e4
   (R (.bool false) w)
   (kn gQ c8 c9 Nx w))
def yP(R:K1) wQ gQ w:=
 yO (kN R) R wQ gQ w
def Cj a0 a1 w(R:K1):=
 yP R a0 a1 w
theorem Di{a0 a1 w R}(h:Cj a0 a1 w R):aH pg sV #[a0,a1] w R:=
 uE (ann:=qG) Try.f5 pH [a0,a1] rW 100 TryM.mixed Try.func5 (jS 6 (Pb (Cq (kN R) 1 6 7 8) h (λg w h=>aI (jS 1 (CF _ g w (kL R) R (λg w h=>aI (wM h jH)) jH h))) jH))
def HZ:FA:=⟨vA,λi=> .leaf ([],[]) []⟩
def Jq:List ResultVar:=[.tmp 0]
noncomputable def G0:Code:=bH Try.f7
def Dj(R:K1) w:=
 aH pg tX #[(V4 100)] w λc0 w=>
 aB pg (cA c0 0) w λc1 w=>
 aB pg (cA c0 1) w λc2 w=>
 aB pg (aE .neq 26 (.tmp 13) (.const (V4 0)) c2 (V4 0)) w λc4 w=>
 Gd (bB c4 false) (λK=>K c1 w) w λc6 w=>
 Gd (bB c4 false) (λK=>aB pg (aE .eql 25 (.tmp 16) (.const (.pointer none)) c6 (.pointer none)) w K) w λc7 w=>
 aB pg (dV c4 (.bool true) c7) w λc8 w=>
 eT c8
  (R (.bool false) w)
  (aB pg (bY 23 2 [(0,(.int .u8 120)),(1,(.int .u8 121))]) w λd0 w=>
  aB pg (qI 23 23 d0) w λd1 w=>
  aH pg lH #[c1,(.string ⟨#[97]⟩),(V4 0),d1] w λd2 w=>
  aH pg fS #[c1,(.string ⟨#[97]⟩)] w λd5 w=>
  aB pg (cA d5 0) w λd6 w=>
  aB pg (cA d5 1) w λd7 w=>
  aH pg jK #[c1] w λd9 w=>
  aH pg lG #[c1,(.slice none 0 0)] w λe1 w=>
  aH pg fS #[c1,(.string ⟨#[97]⟩)] w λe4 w=>
  aB pg (cA e4 0) w λe5 w=>
  aB pg (cA e4 1) w λe6 w=>
  aB pg (aE .eql 26 (.tmp 37) (.const (V4 0)) d2 (V4 0)) w λe8 w=>
  Gd (bB e8 true) (λK=>K d6 w) w λf0 w=>
  Gd (bB e8 true) (λK=>aB pg (qI 23 9 f0) w K) w λf1 w=>
  Gd (bB e8 true) (λK=>aB pg (aE .eql 9 (.tmp 41) (.const (.string ⟨#[120,121]⟩)) f1 (.string ⟨#[120,121]⟩)) w K) w λf2 w=>
  aB pg (dV e8 f2 (.bool false)) w λf3 w=>
  Gd (bB f3 true) (λK=>K d7 w) w λf5 w=>
  Gd (bB f3 true) (λK=>aB pg (aE .eql 26 (.tmp 45) (.const (V4 0)) f5 (V4 0)) w K) w λf6 w=>
  aB pg (dV f3 f6 (.bool false)) w λf7 w=>
  Gd (bB f7 true) (λK=>K d9 w) w λf9 w=>
  Gd (bB f7 true) (λK=>aB pg (aE .eql 3 (.tmp 49) (.const (V4 1)) f9 (V4 1)) w K) w λi0 w=>
  aB pg (dV f7 i0 (.bool false)) w λi1 w=>
  Gd (bB i1 true) (λK=>K e6 w) w λi3 w=>
  Gd (bB i1 true) (λK=>aB pg (aE .eql 26 (.tmp 53) (.const (V4 21)) i3 (V4 21)) w K) w λi4 w=>
  aB pg (dV i1 i4 (.bool false)) w λi5 w=>
  Gd (bB i5 true) (λK=>K c1 w) w λi7 w=>
  Gd (bB i5 true) (λK=>aH pg mO #[i7] w K) w λi8 w=>
  Gd (bB i5 true) (λK=>aB pg (aE .eql 26 (.tmp 58) (.const (V4 0)) i8 (V4 0)) w K) w λi9 w=>
  aB pg (dV i5 i9 (.bool false)) w λj0 w=>
  R j0 w)
def HK w(R:K1):=
 Dj R w
theorem G8 {w R}(h:HK w R):aH pg vA #[] w R:=
 uE (ann:=HZ) Try.f7 G0 [] Jq 61 TryM.mixed Try.func7 (wM h jH)
def Kv:FA:=⟨tX,λi=> .leaf ([],[]) []⟩
def Ma:List ResultVar:=[.tmp 2,.tmp 3]
noncomputable def JK:Code:=bH Try.f8
def Da(R:K1) wQ w:=
 aB pg (aE .lss 3 aK aK wQ (V4 0)) w λb5 w=>
 Gd (bB b5 false) (λK=>K wQ w) w λb7 w=>
 Gd (bB b5 false) (λK=>aB pg (aE .gtr 3 aK aK b7 (V4 16777216)) w K) w λb8 w=>
 aB pg (dV b5 (.bool true) b8) w λb9 w=>
 eT b9
  (R (.tuple #[(.pointer none),(V4 1)]) w)
  (aB pg (Hw 57 none) w λc1 w=>
  aB pg (Hw 57 none) w λc2 w=>
  aB pg (kS 60 [(0,wQ),(1,c1),(2,c2),(4,(V4 (-1)))]) w λc3 w=>
  aB pg (zZ 60 c3) w λc4 w=>
  R (.tuple #[c4,(V4 0)]) w)
def IP a0 w(R:K1):=
 Da R a0 w
theorem Ew{a0 w R}(h:IP a0 w R):aH pg tX #[a0] w R:=
 uE (ann:=Kv) Try.f8 JK [a0] Ma 15 TryM.mixed Try.func8 (wM h jH)
def D3:FA:=⟨lH,λi=>match Nat.beq i 9 with|true=> .leaf ([4],[(4,7),(4,8),(4,10),(4,11),(4,14),(4,15),(4,16)]) (fz 4 (ft [] (fz 2 (fu [2] (fu [3] (fz 1 (fu [5] (fu [6] (fz 2 (fu [9] (fu [10] (fu [11] (fz 2 [])))))))))))))|false=> .leaf ([],[]) []⟩
def FI:List ResultVar:=[.tmp 8]
noncomputable def CW:Code:=bH Try.f9
def yG(R:K1) cH cK Pv TU w:=
 aH pg iZ #[cH] w λc2 w=>
 aB pg (aE .neq 26 (.tmp 13) (.const (V4 0)) c2 (V4 0)) w λc4 w=>
 eT c4
  (R c2 w)
  (aB pg (lO cH) w λc7 w=>
  aB pg (aF 60 c7 2) w λc8 w=>
  aB pg (aD 57 c8) w λc9 w=>
  aB pg (tI 57 c9 cK false) w λd1 w=>
  aB pg (kY .len #[23] 3 [d1]) w λd2 w=>
  aH pg tY #[cK] w λd5 w=>
  aB pg (HU .not d5) w λd6 w=>
  Gd (bB d6 false) (λK=>K Pv w) w λd8 w=>
  Gd (bB d6 false) (λK=>aB pg (aE .lss 3 aK aK d8 (V4 0)) w K) w λd9 w=>
  aB pg (dV d6 (.bool true) d9) w λe0 w=>
  eT e0
   (R (V4 1) w)
   (aB pg (aE .gtr 3 aK aK Pv d2) w λe4 w=>
   eT e4
    (R (V4 17) w)
    ((dr w)=(dr w)/\
    aB pg (lO cH) (dr w) λe7 w_=>w_=(dr w)/\
    aB pg (aF 60 e7 2) (dr w) λe8 w_=>w_=(dr w)/\
    aB pg (aD 57 e8) (dr w) λe9 w_=>w_=(dr w)/\
    aH pg oY #[e9] (dr w) λf0 sU=>
    sU=sU/\
    sU=sU/\
    aB pg (kY .len #[23] 3 [TU]) sU λf3 w_=>w_=sU/\
    (tZ pg (kY .len #[23] 3 [TU]) f3 (dr w)/\True)/\
    aB pg (aE .add 3 aK aK Pv f3) sU λf4 w_=>w_=sU/\
    (tZ pg (aE .add 3 aK aK Pv f3) f4 (dr w)/\True)/\
    sU=sU/\
    aB pg (aE .sub 3 aK aK f4 d2) sU λf6 w_=>w_=sU/\
    (tZ pg (aE .sub 3 aK aK f4 d2) f6 (dr w)/\True)/\
    aB pg (kY .max #[3,3] 3 [f6,(V4 0)]) sU λf7 w_=>w_=sU/\
    (tZ pg (kY .max #[3,3] 3 [f6,(V4 0)]) f7 (dr w)/\True)/\
    aB pg (aE .add 3 aK aK f0 f7) sU λf8 w_=>w_=sU/\
    sU=sU/\
    aB pg (lO cH) sU λi0 w_=>w_=sU/\
    (tZ pg (lO cH) i0 (dr w)/\True)/\
    aB pg (aF 60 i0 0) sU λi1 w_=>w_=sU/\
    (tZ pg (aF 60 i0 0) i1 (dr w)/\True)/\
    aB pg (aD 3 i1) sU λi2 w_=>w_=sU/\
    (tZ pg (aD 3 i1) i2 (dr w)/\True)/\
    aB pg (aE .gtr 3 aK aK f8 i2) sU λi3 w_=>w_=sU/\
    sU=sU/\
    eT i3
     (R (V4 22) sU)
     (aH pg jL #[TU] sU λi8 w=>
     aB pg (kS 65 [(0,(V4 0)),(1,cK),(3,Pv),(4,i8)]) w λi9 w=>
     aH pg kE #[cH,i9] w λj0 w=>
     R j0 w))))
def Cc a0 a1 a2 a3 w(R:K1):=
 yG R a0 a1 a2 a3 w
theorem C7 {a0 a1 a2 a3 w R}(h:Cc a0 a1 a2 a3 w R):aH pg lH #[a0,a1,a2,a3] w R:=
 uE (ann:=D3) Try.f9 CW [a0,a1,a2,a3] FI 61 TryM.mixed Try.func9 (wM h jH)
def Cr:FA:=⟨jK,λi=> .leaf ([],[]) []⟩
def DE:List ResultVar:=[.tmp 2]
noncomputable def BJ:Code:=bH Try.f10
def vW(R:K1) cH w:=
 aB pg (aE .eql 25 (.tmp 3) (.const (.pointer none)) cH (.pointer none)) w λb4 w=>
 eT b4
  (R (V4 0) w)
  (aB pg (lO cH) w λb6 w=>
  aB pg (aF 60 b6 3) w λb7 w=>
  aB pg (aD 58 b7) w λb8 w=>
  aB pg (kY .len #[58] 3 [b8]) w λb9 w=>
  R b9 w)
def Ad a0 w(R:K1):=
 vW R a0 w
theorem BM{a0 w R}(h:Ad a0 w R):aH pg jK #[a0] w R:=
 uE (ann:=Cr) Try.f10 BJ [a0] DE 10 TryM.mixed Try.func10 (wM h jH)
def qE:FA:=⟨lG,λi=>match Nat.beq i 5 with|true=> .leaf ([5],[]) (fz 5 (ft [] []))|false=> .leaf ([],[]) []⟩
def FG:List ResultVar:=[]
noncomputable def pF:Code:=bH Try.f11
def rK(kn:K0) cH w:=
 aB pg (lO cH) w λf0 w=>
 aB pg (aF 60 f0 1) w λf1 w=>
 aB pg (aD 57 f1) w λf2 w=>
 aH pg oZ #[f2] w λf3 w=>
 aB pg (lO cH) w λf4 w=>
 aB pg (aF 60 f4 2) w λf5 w=>
 aB pg (aO 57 f5 f3) w λ_u w=>
 aB pg (lO cH) w λf6 w=>
 aB pg (aF 60 f6 3) w λf7 w=>
 aB pg (aO 58 f7 (.slice none 0 0)) w λ_u w=>
 aB pg (lO cH) w λf8 w=>
 aB pg (aF 60 f8 4) w λf9 w=>
 aB pg (aO 3 f9 (V4 (-1))) w λ_u w=>
 aB pg (lO cH) w λi0 w=>
 aB pg (aF 60 i0 5) w λi1 w=>
 aB pg (aO 4 i1 (.bool false)) w λ_u w=>
 kn w
def rL(kn:K5) cH cY c1 c2 c3 w:=
 aB pg (aE .add 3 aK aK c3 (V4 1)) w λe4 w=>
 kn cH cY c1 c2 e4 w
def yD(kn:K5)(k0:K1) cH cY c1 c2 c3 w:=
 aB pg (aE .lss 3 aK aK c3 c2) w λc4 w=>
 eT c4
  (aB pg (aL 58 c1 c3) w λc6 w=>
  aB pg (aD 65 c6) w λc7 w=>
  aB pg (lE 65) w λT9 w=>
  aB pg (aO 65 T9 c7) w λ_u w=>
  aB pg (kY .len #[22] 3 [cY]) w λd0 w=>
  aB pg (aE .lss 3 aK aK c3 d0) w λd1 w=>
  Gd (bB d1 true) (λK=>K cY w) w λd3 w=>
  Gd (bB d1 true) (λK=>K c3 w) w λd4 w=>
  Gd (bB d1 true) (λK=>aB pg (aL 22 d3 d4) w K) w λd5 w=>
  Gd (bB d1 true) (λK=>aB pg (aD 4 d5) w K) w λd6 w=>
  aB pg (dV d1 d6 (.bool false)) w λd7 w=>
  eT d7
   ((dr w)=(dr w)/\
   aB pg (lO cH) (dr w) λd9 w_=>w_=(dr w)/\
   aB pg (aF 60 d9 1) (dr w) λe0 w_=>w_=(dr w)/\
   aB pg (aD 57 e0) (dr w) λe1 w_=>w_=(dr w)/\
   aB pg (aD 65 T9) (dr w) λe2 w_=>w_=(dr w)/\
   aH pg oF #[e1,e2] (dr w) λe3 T3=>
   kn cH cY c1 c2 c3 T3)
   (kn cH cY c1 c2 c3 w))
  (k0 cH w)
def rM(kn:K5)(k0:K1) cH cY c1 c2 c3 w:=
 yD (rL kn) k0 cH cY c1 c2 c3 w
def nS(k0:K1) cH cY c1 c2 c3 w:=
 bG (λ(X:V3->K0) (t:V3) (w:V2)=>rM (λ_ _ _ _ c3 w=>X c3 w) k0 cH cY c1 c2 t w) c3 w
theorem Cy(k0:K1)(h0:E1 Q k0 0 0)(h:nS k0 (g 0) (g 1) (g 11) (g 12) (g 13) w):eF pg qE (bI (aM 1 (bJ 1 (aM 1 pF)))) Q g w:=by
 refine FX (λg:Env=>g 13) (λX t w=>rM (λ_ _ _ _ c3 w=>X c3 w) k0 (g 0) (g 1) (g 11) (g 12) t w) h (λX g1 w1 ha hL=> ?_)
 rw[<-lT 0 ha,<-lT 1 ha,<-lT 11 ha,<-lT 12 ha]at hL
 exact(jS 3 (FV [(0,(SS k0 0))] (kr:=no) (IC (rL (λ_ _ _ _ c3 w=>X c3 w)) 0 1 11 12 13) hL (λg w h=>aI (oT (IC (λ_ _ _ _ c3 w=>X c3 w) 0 1 11 12 13) h jH)) Gt ⟨h0,trivial⟩))
def yE(kn:K5) cH cY w:=
 aB pg (lO cH) w λb9 w=>
 aB pg (aF 60 b9 3) w λc0 w=>
 aB pg (aD 58 c0) w λc1 w=>
 aB pg (kY .len #[58] 3 [c1]) w λc2 w=>
 kn cH cY c1 c2 (V4 0) w
def rN(kn:K1) cH cY w:=
 yE (nS kn) cH cY w
def rO(kn:K0) cH cY w:=
 rN (rK kn) cH cY w
theorem Cz(kn:K1)(hn:N1 Q kn 0)(h:rN kn (g 0) (g 1) w):eF pg qE (bJ 1 (aM 1 pF)) Q g w:=
 jS 1 (oT (IC (nS kn) 0 1 11 12 13) h (λg w h=>aI (B7 0 (Cy _ g w kn hn h))))
def wT(kn:K2)(R:K1) cH cY w:=
 aB pg (aE .eql 25 (.tmp 6) (.const (.pointer none)) cH (.pointer none)) w λb7 w=>
 eT b7
  (R (.tuple #[]) w)
  (kn cH cY w)
def wU(kn:K0)(R:K1) cH cY w:=
 wT (rO kn) R cH cY w
def Ca a0 a1 w(R:K1):=
 wU (λw=>R (.tuple #[]) w) R a0 a1 w
theorem C2 {a0 a1 w R}(h:Ca a0 a1 w R):aH pg lG #[a0,a1] w R:=
 uE (ann:=qE) Try.f11 pF [a0,a1] FG 52 TryM.mixed Try.func11 (jS 1 (Pb (MB (rO (λw=>R (.tuple #[]) w)) 0 1) h (λg w h=>aI (jS 1 (Cz _ g w (rK (λw=>R (.tuple #[]) w)) (λg w h=>aI (oT (MA (λw=>R (.tuple #[]) w)) h jH)) h))) jH))
def Ff:FA:=⟨fS,λi=> .leaf ([],[]) []⟩
def GJ:List ResultVar:=[.tmp 4,.tmp 5]
noncomputable def Eb:Code:=bH Try.f12
def Ae(R:K1) cH cK w:=
 aH pg iZ #[cH] w λc0 w=>
 aB pg (aE .neq 26 (.tmp 11) (.const (V4 0)) c0 (V4 0)) w λc2 w=>
 eT c2
  (R (.tuple #[(.slice none 0 0),c0]) w)
  (aB pg (lO cH) w λc6 w=>
  aB pg (aF 60 c6 2) w λc7 w=>
  aB pg (aD 57 c7) w λc8 w=>
  aB pg (tI 57 c8 cK true) w λd0 w=>
  aB pg (cA d0 0) w λd1 w=>
  aB pg (cA d0 1) w λd2 w=>
  aB pg (HU .not d2) w λd4 w=>
  eT d4
   (R (.tuple #[(.slice none 0 0),(V4 21)]) w)
   (aH pg jL #[d1] w λd6 w=>
   R (.tuple #[d6,(V4 0)]) w))
def C4 a0 a1 w(R:K1):=
 Ae R a0 a1 w
theorem Eg{a0 a1 w R}(h:C4 a0 a1 w R):aH pg fS #[a0,a1] w R:=
 uE (ann:=Ff) Try.f12 Eb [a0,a1] GJ 27 TryM.mixed Try.func12 (wM h jH)
def CN:FA:=⟨nP,λi=> .leaf ([],[]) []⟩
def Es:List ResultVar:=[.tmp 4]
noncomputable def Cv:Code:=bH Try.f13
def wV(R:K1) cH cK w:=
 aH pg iZ #[cH] w λb9 w=>
 aB pg (aE .neq 26 (.tmp 10) (.const (V4 0)) b9 (V4 0)) w λc1 w=>
 eT c1
  (R b9 w)
  (aB pg (lO cH) w λc5 w=>
  aB pg (aF 60 c5 2) w λc6 w=>
  aB pg (aD 57 c6) w λc7 w=>
  aB pg (tI 57 c7 cK true) w λc9 w=>
  aB pg (cA c9 0) w λd0 w=>
  aB pg (cA c9 1) w λd1 w=>
  aB pg (HU .not d1) w λd3 w=>
  eT d3
   (R (V4 21) w)
   (aB pg (kS 65 [(0,(V4 2)),(1,cK)]) w λd6 w=>
   aH pg kE #[cH,d6] w λd7 w=>
   R d7 w))
def Be a0 a1 w(R:K1):=
 wV R a0 a1 w
theorem CA{a0 a1 w R}(h:Be a0 a1 w R):aH pg nP #[a0,a1] w R:=
 uE (ann:=CN) Try.f13 Cv [a0,a1] Es 28 TryM.mixed Try.func13 (wM h jH)
def JI:FA:=⟨vP,λi=> .leaf ([],[]) []⟩
def KT:List ResultVar:=[.cell 2 41,.tmp 3]
noncomputable def IM:Code:=bH Try.f14
def BY(R:K1) wQ w:=
 aB pg (lE 41) w λb2 w=>
 aB pg (aE .lss 3 aK aK wQ (V4 0)) w λb5 w=>
 Gd (bB b5 false) (λK=>K wQ w) w λb7 w=>
 Gd (bB b5 false) (λK=>aB pg (aE .gtr 3 aK aK b7 (V4 16777216)) w K) w λb8 w=>
 aB pg (dV b5 (.bool true) b8) w λb9 w=>
 eT b9
  (aB pg (kS 41 []) w λc0 w=>
  aB pg (aO 41 b2 c0) w λ_u w=>
  HW pg 41 b2 w λr0=>R (.tuple #[r0,(V4 1)]) w)
  (aB pg (kS 41 [(0,wQ),(3,(V4 (-1)))]) w λc2 w=>
  aB pg (aO 41 b2 c2) w λ_u w=>
  HW pg 41 b2 w λr0=>R (.tuple #[r0,(V4 0)]) w)
def Hk a0 w(R:K1):=
 BY R a0 w
theorem DB{a0 w R}(h:Hk a0 w R):aH pg vP #[a0] w R:=
 uE (ann:=JI) Try.f14 IM [a0] KT 13 TryM.mixed Try.func14 (wM h jH)
def CP:FA:=⟨xB,λi=> .leaf ([],[]) []⟩
def EZ:List ResultVar:=[.cell 6 41,.tmp 7]
noncomputable def B8:Code:=bH Try.f15
def vD(R:K1) cH qM pE b6 w:=
 aB pg (aF 45 pE 1) w λs4 w=>
 aB pg (aD 9 s4) w λs5 w=>
 aH pg fS #[cH,s5] w λs6 w=>
 aB pg (cA s6 0) w λs7 w=>
 aB pg (cA s6 1) w λs8 w=>
 aB pg (aD 41 qM) w λu0 w=>
 aB pg (aF 45 pE 1) w λu1 w=>
 aB pg (aD 9 u1) w λu2 w=>
 aH pg sW #[u0,u2] w λu3 w=>
 aB pg (cA u3 0) w λu4 w=>
 aB pg (cA u3 1) w λu5 w=>
 aB pg (aD 41 qM) w λu6 w=>
 aB pg (qI 23 9 s7) w λu8 w=>
 aB pg (aE .eql 9 (.tmp 148) (.tmp 149) u8 u4) w λv0 w=>
 Gd (bB v0 true) (λK=>K s8 w) w λv2 w=>
 Gd (bB v0 true) (λK=>K u5 w) w λv3 w=>
 Gd (bB v0 true) (λK=>aB pg (aE .eql 26 (.tmp 152) (.tmp 153) v2 v3) w K) w λv4 w=>
 aB pg (dV v0 v4 (.bool false)) w λv5 w=>
 aB pg (aO 41 b6 u6) w λ_u w=>
 HW pg 41 b6 w λr0=>R (.tuple #[r0,v5]) w
def AK(R:K1) cH qM pE b6 w:=
 aB pg (aF 45 pE 1) w λe1 w=>
 aB pg (aD 9 e1) w λe2 w=>
 aB pg (aF 45 pE 3) w λe3 w=>
 aB pg (aD 3 e3) w λe4 w=>
 aB pg (aF 45 pE 4) w λe5 w=>
 aB pg (aD 23 e5) w λe6 w=>
 aH pg lH #[cH,e2,e4,e6] w λe7 w=>
 aB pg (aD 41 qM) w λe9 w=>
 aB pg (aF 45 pE 1) w λf0 w=>
 aB pg (aD 9 f0) w λf1 w=>
 aB pg (aF 45 pE 3) w λf2 w=>
 aB pg (aD 3 f2) w λf3 w=>
 aB pg (aF 45 pE 4) w λf4 w=>
 aB pg (aD 23 f4) w λf5 w=>
 aB pg (qI 23 9 f5) w λf6 w=>
 aB pg (kS 71 [(0,(V4 0)),(1,f1),(3,f3),(4,f6)]) w λf7 w=>
 aH pg lJ #[e9,f7] w λf8 w=>
 aB pg (cA f8 0) w λf9 w=>
 aB pg (cA f8 1) w λi0 w=>
 aB pg (lE 41) w λUb w=>
 aB pg (aO 41 Ub f9) w λ_u w=>
 aB pg (aD 41 Ub) w λi1 w=>
 aB pg (aE .eql 26 (.tmp 52) (.tmp 53) e7 i0) w λi4 w=>
 aB pg (aO 41 b6 i1) w λ_u w=>
 HW pg 41 b6 w λr0=>R (.tuple #[r0,i4]) w
def AL(R:K1) cH qM pE b6 w:=
 aB pg (aF 45 pE 1) w λi8 w=>
 aB pg (aD 9 i8) w λi9 w=>
 aB pg (aF 45 pE 2) w λj0 w=>
 aB pg (aD 9 j0) w λj1 w=>
 aH pg nQ #[cH,i9,j1] w λj2 w=>
 aB pg (aD 41 qM) w λj4 w=>
 aB pg (aF 45 pE 1) w λj5 w=>
 aB pg (aD 9 j5) w λj6 w=>
 aB pg (aF 45 pE 2) w λj7 w=>
 aB pg (aD 9 j7) w λj8 w=>
 aB pg (kS 71 [(0,(V4 1)),(1,j6),(2,j8)]) w λj9 w=>
 aH pg lJ #[j4,j9] w λl0 w=>
 aB pg (cA l0 0) w λl1 w=>
 aB pg (cA l0 1) w λl2 w=>
 aB pg (lE 41) w λTv w=>
 aB pg (aO 41 Tv l1) w λ_u w=>
 aB pg (aD 41 Tv) w λl3 w=>
 aB pg (aE .eql 26 (.tmp 74) (.tmp 75) j2 l2) w λl6 w=>
 aB pg (aO 41 b6 l3) w λ_u w=>
 HW pg 41 b6 w λr0=>R (.tuple #[r0,l6]) w
def AM(R:K1) cH qM pE b6 w:=
 aB pg (aF 45 pE 1) w λm0 w=>
 aB pg (aD 9 m0) w λm1 w=>
 aH pg nP #[cH,m1] w λm2 w=>
 aB pg (aD 41 qM) w λm4 w=>
 aB pg (aF 45 pE 1) w λm5 w=>
 aB pg (aD 9 m5) w λm6 w=>
 aB pg (kS 71 [(0,(V4 2)),(1,m6)]) w λm7 w=>
 aH pg lJ #[m4,m7] w λm8 w=>
 aB pg (cA m8 0) w λm9 w=>
 aB pg (cA m8 1) w λn0 w=>
 aB pg (lE 41) w λTw w=>
 aB pg (aO 41 Tw m9) w λ_u w=>
 aB pg (aD 41 Tw) w λn1 w=>
 aB pg (aE .eql 26 (.tmp 92) (.tmp 93) m2 n0) w λn4 w=>
 aB pg (aO 41 b6 n1) w λ_u w=>
 HW pg 41 b6 w λr0=>R (.tuple #[r0,n4]) w
def AN(R:K1) cH qM b6 w:=
 aH pg mO #[cH] w λn8 w=>
 aB pg (aD 41 qM) w λo0 w=>
 aH pg sX #[o0] w λo1 w=>
 aB pg (cA o1 0) w λo2 w=>
 aB pg (cA o1 1) w λo3 w=>
 aB pg (lE 41) w λTx w=>
 aB pg (aO 41 Tx o2) w λ_u w=>
 aB pg (aD 41 Tx) w λo4 w=>
 aB pg (aE .eql 26 (.tmp 105) (.tmp 106) n8 o3) w λo7 w=>
 aB pg (aO 41 b6 o4) w λ_u w=>
 HW pg 41 b6 w λr0=>R (.tuple #[r0,o7]) w
def vE(R:K1) qM b6 w:=
 aB pg (aD 41 qM) w λq1 w=>
 aB pg (aO 41 b6 q1) w λ_u w=>
 HW pg 41 b6 w λr0=>R (.tuple #[r0,(.bool true)]) w
def EE(kn:K2) cH qM pE b6 w:=
 aB pg (aF 45 pE 3) w λp1 w=>
 aB pg (aD 3 p1) w λp2 w=>
 aH pg pT #[cH,p2] w λp3 w=>
 aB pg (aF 45 pE 3) w λp4 w=>
 aB pg (aD 3 p4) w λp5 w=>
 aB pg (aF 41 qM 3) w λp6 w=>
 aB pg (aO 3 p6 p5) w λ_u w=>
 aB pg (aF 45 pE 3) w λp7 w=>
 aB pg (aD 3 p7) w λp8 w=>
 aB pg (aE .lss 3 aK aK p8 (V4 0)) w λp9 w=>
 eT p9
  (aB pg (aF 41 qM 3) w λq0 w=>
  aB pg (aO 3 q0 (V4 (-1))) w λ_u w=>
  kn qM b6 w)
  (kn qM b6 w)
def AO(R:K1) cH qM pE b6 w:=
 EE (vE R) cH qM pE b6 w
def vF(kn:K4)(R:K1) cH qM pE b6 d6 w:=
 aB pg (aE .eql 3 (.tmp 26) (.const (V4 6)) d6 (V4 6)) w λq3 w=>
 eT q3
  (aB pg (aF 45 pE 5) w λq5 w=>
  aB pg (aD 22 q5) w λq6 w=>
  aH pg lG #[cH,q6] w λq7 w=>
  aB pg (aD 41 qM) w λq8 w=>
  aB pg (aF 45 pE 5) w λq9 w=>
  aB pg (aD 22 q9) w λs0 w=>
  aH pg qO #[q8,s0] w λs1 w=>
  aB pg (aO 41 b6 s1) w λ_u w=>
  HW pg 41 b6 w λr0=>R (.tuple #[r0,(.bool true)]) w)
  (kn cH qM pE b6 w)
def pJ(kn:K4)(R:K1) cH qM pE b6 d6 o8 w:=
 eT o8 (AO R cH qM pE b6 w) (vF kn R cH qM pE b6 d6 w)
def tC(kn:K6) cH qM pE b6 d6 w:=
 aB pg (aE .eql 3 (.tmp 26) (.const (V4 5)) d6 (V4 5)) w λo9 w=>
 kn cH qM pE b6 d6 o9 w
def tD(kn:K4)(R:K1) cH qM pE b6 d6 w:=
 tC (pJ kn R) cH qM pE b6 d6 w
def mR(kn:K4)(R:K1) cH qM pE b6 d6 n5 w:=
 eT n5 (AN R cH qM b6 w) (tD kn R cH qM pE b6 d6 w)
def pK(kn:K6) cH qM pE b6 d6 w:=
 aB pg (aE .eql 3 (.tmp 26) (.const (V4 4)) d6 (V4 4)) w λn6 w=>
 kn cH qM pE b6 d6 n6 w
def pL(kn:K4)(R:K1) cH qM pE b6 d6 w:=
 pK (mR kn R) cH qM pE b6 d6 w
def kO(kn:K4)(R:K1) cH qM pE b6 d6 l7 w:=
 eT l7 (AM R cH qM pE b6 w) (pL kn R cH qM pE b6 d6 w)
def mS(kn:K6) cH qM pE b6 d6 w:=
 aB pg (aE .eql 3 (.tmp 26) (.const (V4 3)) d6 (V4 3)) w λl8 w=>
 kn cH qM pE b6 d6 l8 w
def mT(kn:K4)(R:K1) cH qM pE b6 d6 w:=
 mS (kO kn R) cH qM pE b6 d6 w
def jA(kn:K4)(R:K1) cH qM pE b6 d6 i5 w:=
 eT i5 (AL R cH qM pE b6 w) (mT kn R cH qM pE b6 d6 w)
def kP(kn:K6) cH qM pE b6 d6 w:=
 aB pg (aE .eql 3 (.tmp 26) (.const (V4 2)) d6 (V4 2)) w λi6 w=>
 kn cH qM pE b6 d6 i6 w
def kQ(kn:K4)(R:K1) cH qM pE b6 d6 w:=
 kP (jA kn R) cH qM pE b6 d6 w
def fH(kn:K4)(R:K1) cH qM pE b6 d6 d7 w:=
 eT d7 (AK R cH qM pE b6 w) (kQ kn R cH qM pE b6 d6 w)
def Dk(kn:K6) cH qM pE b6 d6 w:=
 aB pg (aE .eql 3 (.tmp 26) (.const (V4 0)) d6 (V4 0)) w λd8 w=>
 eT d8
  (kn cH qM pE b6 d6 d8 w)
  (aB pg (aE .eql 3 (.tmp 26) (.const (V4 1)) d6 (V4 1)) w λd9 w=>
  kn cH qM pE b6 d6 d9 w)
def yQ(kn:K4)(R:K1) cH qM pE b6 d6 w:=
 Dk (fH kn R) cH qM pE b6 d6 w
def Dl(kn:K5) cH qM pE b6 w:=
 aB pg (aF 45 pE 0) w λd4 w=>
 aB pg (aD 3 d4) w λd5 w=>
 aB pg (aE .and 3 aK aK d5 (V4 7)) w λd6 w=>
 kn cH qM pE b6 d6 w
def yR(kn:K4)(R:K1) cH qM pE b6 w:=
 Dl (yQ kn R) cH qM pE b6 w
def yS(R:K1) cH qM pE b6 w:=
 yR (vD R) R cH qM pE b6 w
theorem Gl(kn:K4)(R:K1)(hn:N4 Q kn 0 4 5 6)(hr:HR EZ R Q)(h:yR kn R (g 0) (g 4) (g 5) (g 6) w):eF pg CP (bJ 1 (aM 1 B8)) Q g w:=
 jS 1 (oT (IC (yQ kn R) 0 4 5 6 26) h (λg w h=>aI (B7 0 (jS 1 (oT (Lk (fH kn R) 0 4 5 6 26 27) h (λg w h=>aI (QY (.tmp 27) (λh=>(wM h hr)) (λh=>(jS 1 (oT (Lk (jA kn R) 0 4 5 6 26 55) h (λg w h=>aI (QY (.tmp 55) (λh=>(wM h hr)) (λh=>(jS 1 (oT (Lk (kO kn R) 0 4 5 6 26 77) h (λg w h=>aI (QY (.tmp 77) (λh=>(wM h hr)) (λh=>(jS 1 (oT (Lk (mR kn R) 0 4 5 6 26 95) h (λg w h=>aI (QY (.tmp 95) (λh=>(wM h hr)) (λh=>(jS 1 (oT (Lk (pJ kn R) 0 4 5 6 26 108) h (λg w h=>aI (QY (.tmp 108) (λh=>(jS 3 (oT (MB (vE R) 4 6) h (λg w h=>aI (wM h hr))))) (λh=>(Pb _ h hn hr)) h))))) h))))) h))))) h))))) h)))))))
def Dm(kn:K4) cH CK TS w:=
 aB pg (zZ 41 CK) w λqM w=>
 aB pg (zZ 45 TS) w λpE w=>
 aB pg (lE 41) w λb6 w=>
 kn cH qM pE b6 w
def Dn(R:K1) cH CK TS w:=
 Dm (yS R) cH CK TS w
def I3 a0 a1 a2 w(R:K1):=
 Dn R a0 a1 a2 w
theorem H8 {a0 a1 a2 w R}(h:I3 a0 a1 a2 w R):aH pg xB #[a0,a1,a2] w R:=
 uE (ann:=CP) Try.f15 B8 [a0,a1,a2] EZ 156 TryM.mixed Try.func15 (jS 1 (oT (Cq (yS R) 0 4 5 6) h (λg w h=>aI (jS 1 (Gl _ g w (vD R) R (λg w h=>aI (wM h jH)) jH h)))))
def xU:FA:=⟨xA,λi=>match Nat.beq i 3 with|true=> .leaf ([7],[(7,8),(7,9),(7,10)]) (fz 7 (ft [] (fu [0] (fu [1] (fu [2] (fz 2 []))))))|false=>match Nat.beq i 9 with|true=> .leaf ([],[]) (fz 37 [])|false=> .leaf ([],[]) []⟩
def A4:List ResultVar:=[.tmp 4]
noncomputable def wH:Code:=bH Try.f16
def AG(R:K1) w:=
 R (.bool true) w
def AH(kn:K5)(k0:K0)(R:K1) cH Mz Pg I1 iU w:=
 aB pg (kY .len #[53] 3 [Pg]) w λd9 w=>
 aB pg (aE .lss 3 aK aK iU d9) w λe0 w=>
 eT e0
  (aB pg (aL 53 Pg iU) w λe7 w=>
  aB pg (aD 9 e7) w λe8 w=>
  aH pg fS #[cH,e8] w λe9 w=>
  aB pg (cA e9 0) w λf0 w=>
  aB pg (cA e9 1) w λf1 w=>
  (dr w)=(dr w)/\
  (dr w)=(dr w)/\
  aB pg (aL 53 Pg iU) (dr w) λf4 w_=>w_=(dr w)/\
  aB pg (aD 9 f4) (dr w) λf5 w_=>w_=(dr w)/\
  (dr w)=(dr w)/\
  (dr w)=(dr w)/\
  aB pg (aL 38 I1 iU) (dr w) λf8 w_=>w_=(dr w)/\
  aB pg (aF 78 f8 0) (dr w) λf9 w_=>w_=(dr w)/\
  aB pg (aD 9 f9) (dr w) λi0 w_=>w_=(dr w)/\
  aB pg (aE .neq 9 (.tmp 45) (.tmp 50) f5 i0) (dr w) λi1 w_=>w_=(dr w)/\
  (dr w)=(dr w)/\
  Gd (bB i1 false) (λK=>aB pg (aF 41 Mz 4) (dr w) K) (dr w) λi3 w_=>w_=(dr w)/\
  Gd (bB i1 false) (λK=>aB pg (aD 4 i3) (dr w) K) (dr w) λi4 w_=>w_=(dr w)/\
  Gd (bB i1 false) (λK=>aB pg (HU .not i4) (dr w) K) (dr w) λi5 w_=>w_=(dr w)/\
  Gd (bB i1 false) (λK=>K i5 (dr w)) (dr w) λi6 w_=>w_=(dr w)/\
  Gd (bB i6 true) (λK=>K f1 (dr w)) (dr w) λi7 w_=>w_=(dr w)/\
  Gd (bB i6 true) (λK=>aB pg (aE .neq 26 (.tmp 57) (.const (V4 0)) i7 (V4 0)) (dr w) K) (dr w) λi8 w_=>w_=(dr w)/\
  Gd (bB i6 true) (λK=>K i8 (dr w)) (dr w) λi9 w_=>w_=(dr w)/\
  Gd (bB i9 false) (λK=>K f0 (dr w)) (dr w) λj0 w_=>w_=(dr w)/\
  Gd (bB i9 false) (λK=>aB pg (qI 23 9 j0) (dr w) K) (dr w) λj1 w_=>w_=(dr w)/\
  Gd (bB i9 false) (λK=>K I1 (dr w)) (dr w) λj2 w_=>w_=(dr w)/\
  Gd (bB i9 false) (λK=>K iU (dr w)) (dr w) λj3 w_=>w_=(dr w)/\
  Gd (bB i9 false) (λK=>aB pg (aL 38 j2 j3) (dr w) K) (dr w) λj4 w_=>w_=(dr w)/\
  Gd (bB i9 false) (λK=>aB pg (aF 78 j4 1) (dr w) K) (dr w) λj5 w_=>w_=(dr w)/\
  Gd (bB i9 false) (λK=>aB pg (aD 9 j5) (dr w) K) (dr w) λj6 w_=>w_=(dr w)/\
  Gd (bB i9 false) (λK=>aB pg (aE .neq 9 (.tmp 61) (.tmp 66) j1 j6) (dr w) K) (dr w) λj7 w_=>w_=(dr w)/\
  Gd (bB i6 true) (λK=>aB pg (dV i9 (.bool true) j7) (dr w) K) (dr w) λj8 w_=>w_=(dr w)/\
  Gd (bB i1 false) (λK=>aB pg (dV i6 j8 (.bool false)) (dr w) K) (dr w) λj9 w_=>w_=(dr w)/\
  aB pg (dV i1 (.bool true) j9) (dr w) λl0 w_=>w_=(dr w)/\
  (dr w)=(dr w)/\
  Gd (bB l0 false) (λK=>aB pg (aF 41 Mz 4) (dr w) K) (dr w) λl2 w_=>w_=(dr w)/\
  Gd (bB l0 false) (λK=>aB pg (aD 4 l2) (dr w) K) (dr w) λl3 w_=>w_=(dr w)/\
  Gd (bB l0 false) (λK=>K l3 (dr w)) (dr w) λl4 w_=>w_=(dr w)/\
  Gd (bB l4 true) (λK=>K f1 (dr w)) (dr w) λl5 w_=>w_=(dr w)/\
  Gd (bB l4 true) (λK=>aB pg (aE .neq 26 (.tmp 75) (.const (V4 20)) l5 (V4 20)) (dr w) K) (dr w) λl6 w_=>w_=(dr w)/\
  Gd (bB l0 false) (λK=>aB pg (dV l4 l6 (.bool false)) (dr w) K) (dr w) λl7 w_=>w_=(dr w)/\
  aB pg (dV l0 (.bool true) l7) (dr w) λl8 w_=>w_=(dr w)/\
  eT l8
   (R (.bool false) (dr w))
   (aB pg (aE .add 3 aK aK iU (V4 1)) (dr w) λe2 w=>
   kn cH Mz Pg I1 e2 w))
  (k0 w)
def vC(k0:K0)(R:K1) cH Mz Pg I1 iU w:=
 bG (λ(X:V3->K0) (t:V3) (w:V2)=>AH (λ_ _ _ _ iU w=>X iU w) k0 R cH Mz Pg I1 t w) iU w
theorem G9 (k0:K0)(R:K1)(h0:E0 Q k0 0)(hr:HR A4 R Q)(h:vC k0 R (g 0) (g 3) (g 5) (g 6) (g 7) w):eF pg xU (bI (aM 1 (bJ 1 (aM 4 wH)))) Q g w:=by
 refine FX (λg:Env=>g 7) (λX t w=>AH (λ_ _ _ _ iU w=>X iU w) k0 R (g 0) (g 3) (g 5) (g 6) t w) h (λX g1 w1 ha hL=> ?_)
 rw[<-lT 0 ha,<-lT 3 ha,<-lT 5 ha,<-lT 6 ha]at hL
 exact(FV [(0,(MA k0))] (IC (λ_ _ _ _ iU w=>X iU w) 0 3 5 6 7) hL jH hr ⟨h0,trivial⟩)
def EB(kn:K5) cH Mz Pg I1 w:=
 kn cH Mz Pg I1 (V4 0) w
def AI(kn:K0)(R:K1) cH Mz Pg I1 w:=
 EB (vC kn R) cH Mz Pg I1 w
def AJ(R:K1) cH Mz Pg I1 w:=
 AI (AG R) R cH Mz Pg I1 w
theorem Ha(kn:K0)(R:K1)(hn:N0 Q kn)(hr:HR A4 R Q)(h:AI kn R (g 0) (g 3) (g 5) (g 6) w):eF pg xU (bJ 1 (aM 4 wH)) Q g w:=
 jS 1 (oT (IC (vC kn R) 0 3 5 6 7) h (λg w h=>aI (B7 0 (G9 _ g w kn R hn hr h))))
def EC(kn:K4)(R:K1) cH CK w:=
 aB pg (zZ 41 CK) w λMz w=>
 aH pg oX #[cH] w λc1 w=>
 aB pg (aD 41 Mz) w λc2 w=>
 aH pg nR #[c2] w λc3 w=>
 (dr w)=(dr w)/\
 aB pg (kY .len #[53] 3 [c1]) (dr w) λc5 w_=>w_=(dr w)/\
 (dr w)=(dr w)/\
 aB pg (kY .len #[38] 3 [c3]) (dr w) λc7 w_=>w_=(dr w)/\
 aB pg (aE .neq 3 (.tmp 15) (.tmp 17) c5 c7) (dr w) λc8 w_=>w_=(dr w)/\
 (dr w)=(dr w)/\
 Gd (bB c8 false) (λK=>K cH (dr w)) (dr w) λd0 w_=>w_=(dr w)/\
 Gd (bB c8 false) (λK=>aH pg jK #[d0] (dr w) K) (dr w) λd1 Ab=>
 Gd (bB c8 false) (λK=>aB pg (aF 41 Mz 2) Ab K) Ab λd2 w_=>w_=Ab/\
 (Gs (bB c8 false) (tZ pg (aF 41 Mz 2) d2 (dr w))/\True)/\
 Gd (bB c8 false) (λK=>aB pg (aD 39 d2) Ab K) Ab λd3 w_=>w_=Ab/\
 (Gs (bB c8 false) (tZ pg (aD 39 d2) d3 (dr w))/\True)/\
 Gd (bB c8 false) (λK=>aB pg (kY .len #[39] 3 [d3]) Ab K) Ab λd4 w_=>w_=Ab/\
 (Gs (bB c8 false) (tZ pg (kY .len #[39] 3 [d3]) d4 (dr w))/\True)/\
 Gd (bB c8 false) (λK=>aB pg (aE .neq 3 (.tmp 21) (.tmp 24) d1 d4) Ab K) Ab λd5 w_=>w_=Ab/\
 aB pg (dV c8 (.bool true) d5) Ab λd6 w_=>w_=Ab/\
 eT d6
  (R (.bool false) Ab)
  (kn cH Mz c1 c3 Ab)
def ED(R:K1) cH CK w:=
 EC (AJ R) R cH CK w
def I2 a0 a1 w(R:K1):=
 ED R a0 a1 w
theorem H7 {a0 a1 w R}(h:I2 a0 a1 w R):aH pg xA #[a0,a1] w R:=
 uE (ann:=xU) Try.f16 wH [a0,a1] A4 79 TryM.mixed Try.func16 (jS 4 (Pb (Cq (AJ R) 0 3 5 6) h (λg w h=>aI (jS 1 (Ha _ g w (AG R) R (λg w h=>aI (wM h jH)) jH h))) jH))
def Fg:FA:=⟨pT,λi=> .leaf ([],[]) []⟩
def GK:List ResultVar:=[]
noncomputable def Ec:Code:=bH Try.f17
def Af(kn:K0) cH Ra w:=
 aB pg (aE .neq 25 (.tmp 4) (.const (.pointer none)) cH (.pointer none)) w λb5 w=>
 eT b5
  (aB pg (kY .max #[3,3] 3 [Ra,(V4 (-1))]) w λb8 w=>
  aB pg (lO cH) w λb9 w=>
  aB pg (aF 60 b9 4) w λc0 w=>
  aB pg (aO 3 c0 b8) w λ_u w=>
  kn w)
  (kn w)
def C5 a0 a1 w(R:K1):=
 Af (λw=>R (.tuple #[]) w) a0 a1 w
theorem Eh{a0 a1 w R}(h:C5 a0 a1 w R):aH pg pT #[a0,a1] w R:=
 uE (ann:=Fg) Try.f17 Ec [a0,a1] GK 11 TryM.mixed Try.func17 (oT (MA (λw=>R (.tuple #[]) w)) h jH)
def CO:FA:=⟨nQ,λi=> .leaf ([],[]) []⟩
def Et:List ResultVar:=[.tmp 6]
noncomputable def Cw:Code:=bH Try.f18
def wW(R:K1) cH Qi Qf w:=
 aH pg iZ #[cH] w λc1 w=>
 aB pg (aE .neq 26 (.tmp 12) (.const (V4 0)) c1 (V4 0)) w λc3 w=>
 eT c3
  (R c1 w)
  (aH pg tY #[Qi] w λc6 w=>
  aB pg (HU .not c6) w λc7 w=>
  Gd (bB c7 false) (λK=>K Qf w) w λc9 w=>
  Gd (bB c7 false) (λK=>aH pg tY #[c9] w K) w λd0 w=>
  Gd (bB c7 false) (λK=>aB pg (HU .not d0) w K) w λd1 w=>
  aB pg (dV c7 (.bool true) d1) w λd2 w=>
  eT d2
   (R (V4 1) w)
   (aB pg (lO cH) w λd5 w=>
   aB pg (aF 60 d5 2) w λd6 w=>
   aB pg (aD 57 d6) w λd7 w=>
   aB pg (tI 57 d7 Qi true) w λd9 w=>
   aB pg (cA d9 0) w λe0 w=>
   aB pg (cA d9 1) w λe1 w=>
   aB pg (HU .not e1) w λe3 w=>
   eT e3
    (R (V4 21) w)
    (aB pg (kS 65 [(0,(V4 1)),(1,Qi),(2,Qf)]) w λe7 w=>
    aH pg kE #[cH,e7] w λe8 w=>
    R e8 w)))
def Bf a0 a1 a2 w(R:K1):=
 wW R a0 a1 a2 w
theorem CB{a0 a1 a2 w R}(h:Bf a0 a1 a2 w R):aH pg nQ #[a0,a1,a2] w R:=
 uE (ann:=CO) Try.f18 Cw [a0,a1,a2] Et 39 TryM.mixed Try.func18 (wM h jH)
def Fh:FA:=⟨mO,λi=> .leaf ([],[]) []⟩
def GL:List ResultVar:=[.tmp 2]
noncomputable def Ed:Code:=bH Try.f19
def Ag(R:K1) cH w:=
 aH pg iZ #[cH] w λb5 w=>
 aB pg (aE .neq 26 (.tmp 6) (.const (V4 0)) b5 (V4 0)) w λb7 w=>
 eT b7
  (R b5 w)
  (aH pg lI #[cH] w λc0 w=>
  eT c0
   (R (V4 20) w)
   (aB pg (lO cH) w λc4 w=>
   aB pg (aF 60 c4 2) w λc5 w=>
   aB pg (aD 57 c5) w λc6 w=>
   aH pg oZ #[c6] w λc7 w=>
   aB pg (lO cH) w λc8 w=>
   aB pg (aF 60 c8 1) w λc9 w=>
   aB pg (aO 57 c9 c7) w λ_u w=>
   aB pg (lO cH) w λd0 w=>
   aB pg (aF 60 d0 3) w λd1 w=>
   aB pg (aO 58 d1 (.slice none 0 0)) w λ_u w=>
   R (V4 0) w))
def C6 a0 w(R:K1):=
 Ag R a0 w
theorem Ei{a0 w R}(h:C6 a0 w R):aH pg mO #[a0] w R:=
 uE (ann:=Fh) Try.f19 Ed [a0] GL 22 TryM.mixed Try.func19 (wM h jH)
def DZ:FA:=⟨oX,λi=> .leaf ([],[]) []⟩
def FH:List ResultVar:=[.tmp 2]
noncomputable def CV:Code:=bH Try.f20
def yF(R:K1) cH w:=
 aB pg (aE .eql 25 (.tmp 3) (.const (.pointer none)) cH (.pointer none)) w λb4 w=>
 eT b4
  (R (.slice none 0 0) w)
  (aB pg (lO cH) w λb6 w=>
  aB pg (aF 60 b6 2) w λb7 w=>
  aB pg (aD 57 b7) w λb8 w=>
  aH pg pU #[b8] w λb9 w=>
  aH pg lK #[b9] w λc0 w=>
  R c0 w)
def Cb a0 w(R:K1):=
 yF R a0 w
theorem C3 {a0 w R}(h:Cb a0 w R):aH pg oX #[a0] w R:=
 uE (ann:=DZ) Try.f20 CV [a0] FH 11 TryM.mixed Try.func20 (wM h jH)
def GX:FA:=⟨iZ,λi=> .leaf ([],[]) []⟩
def Il:List ResultVar:=[.tmp 2]
noncomputable def F6:Code:=bH Try.f21
def Ce(R:K1) cH w:=
 aB pg (aE .eql 25 (.tmp 4) (.const (.pointer none)) cH (.pointer none)) w λb5 w=>
 eT b5
  (R (V4 1) w)
  (aB pg (lO cH) w λb8 w=>
  aB pg (aF 60 b8 5) w λb9 w=>
  aB pg (aD 4 b9) w λc0 w=>
  eT c0
   (R (V4 20) w)
   (R (V4 0) w))
def F8 a0 w(R:K1):=
 Ce R a0 w
theorem F9 {a0 w R}(h:F8 a0 w R):aH pg iZ #[a0] w R:=
 uE (ann:=GX) Try.f21 F6 [a0] Il 11 TryM.mixed Try.func21 (wM h jH)
def Kw:FA:=⟨tY,λi=> .leaf ([],[]) []⟩
def Mb:List ResultVar:=[.tmp 2]
noncomputable def JL:Code:=bH Try.f22
def HG(R:K1) Qe w:=
 aB pg (kY .len #[9] 3 [Qe]) w λb4 w=>
 aB pg (aE .geq 3 aK aK b4 (V4 1)) w λb5 w=>
 Gd (bB b5 true) (λK=>K Qe w) w λb7 w=>
 Gd (bB b5 true) (λK=>aB pg (kY .len #[9] 3 [b7]) w K) w λb8 w=>
 Gd (bB b5 true) (λK=>aB pg (aE .leq 3 aK aK b8 (V4 32)) w K) w λb9 w=>
 aB pg (dV b5 b9 (.bool false)) w λc0 w=>
 R c0 w
def Lw a0 w(R:K1):=
 HG R a0 w
theorem JM{a0 w R}(h:Lw a0 w R):aH pg tY #[a0] w R:=
 uE (ann:=Kw) Try.f22 JL [a0] Mb 11 TryM.mixed Try.func22 (wM h jH)
def qF:FA:=⟨oY,λi=> .leaf ([],[]) []⟩
def FK:List ResultVar:=[.tmp 2]
noncomputable def pG:Code:=bH Try.f23
def rP(R:K1) Lf w:=
 R Lf w
def rQ(kn:K2)(k0:K1) Lf b7 w:=
 aB pg (Mi b7 false 0) w λb8 w=>
 aB pg (cA b8 0) w λb9 w=>
 eT b9
  (aB pg (KU b7) w λc0 w=>
  aB pg (cA c0 1) w λc1 w=>
  aB pg (kY .len #[23] 3 [c1]) w λc4 w=>
  aB pg (aE .add 3 aK aK Lf c4) w λc5 w=>
  kn c5 b7 w)
  (k0 Lf w)
def nT(k0:K1) Lf b7 w:=
 bG (λ(X:V3->K0) (t:V3) (w:V2)=>rQ (λLf _ w=>X Lf w) k0 t b7 w) Lf w
theorem CC(k0:K1)(h0:E1 Q k0 0 3)(h:nT k0 (g 3) (g 7) w):eF pg qF (bI (aM 1 (bJ 1 (aM 2 pG)))) Q g w:=by
 refine FX (λg:Env=>g 3) (λX t w=>rQ (λLf _ w=>X Lf w) k0 t (g 7) w) h (λX g1 w1 ha hL=> ?_)
 rw[<-lT 7 ha]at hL
 exact(FV [(0,(SS k0 3))] (kr:=no) (MB (λLf _ w=>X Lf w) 3 7) hL jH Gt ⟨h0,trivial⟩)
def yJ(kn:K2) ML Lf w:=
 aB pg (Hx 57 ML) w λb7 w=>
 kn Lf b7 w
def rR(kn:K1) ML Lf w:=
 yJ (nT kn) ML Lf w
def rS(R:K1) ML Lf w:=
 rR (rP R) ML Lf w
theorem CD(kn:K1)(hn:N1 Q kn 3)(h:rR kn (g 0) (g 3) w):eF pg qF (bJ 1 (aM 2 pG)) Q g w:=
 jS 1 (oT (MB (nT kn) 3 7) h (λg w h=>aI (B7 0 (CC _ g w kn hn h))))
def yK(kn:K2) ML w:=
 kn ML (V4 0) w
def yL(R:K1) ML w:=
 yK (rS R) ML w
def Cf a0 w(R:K1):=
 yL R a0 w
theorem Db{a0 w R}(h:Cf a0 w R):aH pg oY #[a0] w R:=
 uE (ann:=qF) Try.f23 pG [a0] FK 17 TryM.mixed Try.func23 (jS 2 (oT (MB (rS R) 0 3) h (λg w h=>aI (jS 1 (CD _ g w (rP R) (λg w h=>aI (wM h jH)) h)))))
def Fi:FA:=⟨kE,λi=>match Nat.beq i 3 with|true=> .leaf ([6,7,10],[(2,6),(3,6),(4,6)]) (fz 6 (ft [1,2,3] (ft [] (fz 2 (ft [] [])))))|false=>match Nat.beq i 4 with|true=> .leaf ([5],[]) (fz 5 (ft [] []))|false=> .leaf ([],[]) []⟩
def GM:List ResultVar:=[.tmp 4]
noncomputable def Ee:Code:=bH Try.f24
def Ah(R:K1) cH OK w:=
 aB pg (zZ 65 OK) w λnH w=>
 aH pg lI #[cH] w λb6 w=>
 eT b6
  (R (V4 20) w)
  ((dr w)=(dr w)/\
  (dr w)=(dr w)/\
  aB pg (lO cH) (dr w) λb9 w_=>w_=(dr w)/\
  aB pg (aF 60 b9 3) (dr w) λc0 w_=>w_=(dr w)/\
  aB pg (aD 58 c0) (dr w) λc1 w_=>w_=(dr w)/\
  aB pg (aD 65 nH) (dr w) λc2 w_=>w_=(dr w)/\
  aB pg (bY 58 1 [(0,c2)]) (dr w) λc3 RO=>
  (tZ pg (aD 58 c0) c1 RO/\tZ pg (aF 60 b9 3) c0 RO/\tZ pg (lO cH) b9 RO/\True)/\
  aB pg (kY .append #[58,58] 58 [c1,c3]) RO λc4 Ab=>
  aB pg (lO cH) Ab λc5 w_=>w_=Ab/\
  aB pg (aF 60 c5 3) Ab λc6 w_=>w_=Ab/\
  aB pg (aO 58 c6 c4) Ab λ_u10 DJ=>
  (dr DJ)=(dr DJ)/\
  aB pg (lO cH) (dr DJ) λc8 w_=>w_=(dr DJ)/\
  aB pg (aF 60 c8 2) (dr DJ) λc9 w_=>w_=(dr DJ)/\
  aB pg (aD 57 c9) (dr DJ) λd0 w_=>w_=(dr DJ)/\
  aB pg (aD 65 nH) (dr DJ) λd1 w_=>w_=(dr DJ)/\
  aH pg oF #[d0,d1] (dr DJ) λd2 T2=>
  R (V4 0) T2)
def C8 a0 a1 w(R:K1):=
 Ah R a0 a1 w
theorem Ej{a0 a1 w R}(h:C8 a0 a1 w R):aH pg kE #[a0,a1] w R:=
 uE (ann:=Fi) Try.f24 Ee [a0,a1] GM 23 TryM.mixed Try.func24 (wM h jH)
def Cs:FA:=⟨jL,λi=> .leaf ([],[]) []⟩
def DF:List ResultVar:=[.tmp 2]
noncomputable def BK:Code:=bH Try.f25
def wD(R:K1) SU w:=
 aB pg (aE .eql 23 (.tmp 3) (.const (.slice none 0 0)) SU (.slice none 0 0)) w λb4 w=>
 eT b4
  (R (.slice none 0 0) w)
  (aB pg (bY 23 0 []) w λb5 w=>
  aB pg (kY .append #[23,23] 23 [b5,SU]) w λb7 w=>
  R b7 w)
def Av a0 w(R:K1):=
 wD R a0 w
theorem B1 {a0 w R}(h:Av a0 w R):aH pg jL #[a0] w R:=
 uE (ann:=Cs) Try.f25 BK [a0] DF 8 TryM.mixed Try.func25 (wM h jH)
def F2:FA:=⟨oF,λi=>match Nat.beq i 6 with|true=> .leaf ([6],[]) (fz 6 (ft [] []))|false=> .leaf ([],[]) []⟩
def Ht:List ResultVar:=[]
noncomputable def Fo:Code:=bH Try.f26
def Bg(kn:K0) ML OK w:=
 aB pg (zZ 65 OK) w λnH w=>
 aB pg (aF 65 nH 1) w λb9 w=>
 aB pg (aD 9 b9) w λc0 w=>
 aB pg (tI 57 ML c0 true) w λc1 w=>
 aB pg (cA c1 0) w λc2 w=>
 aB pg (cA c1 1) w λc3 w=>
 aB pg (aF 65 nH 0) w λc4 w=>
 aB pg (aD 3 c4) w λc5 w=>
 aB pg (aE .eql 3 (.tmp 15) (.const (V4 0)) c5 (V4 0)) w λc7 w=>
 eT c7
  (aB pg (kY .len #[23] 3 [c2]) w λc9 w=>
  aB pg (aF 65 nH 3) w λd0 w=>
  aB pg (aD 3 d0) w λd1 w=>
  aB pg (aF 65 nH 4) w λd2 w=>
  aB pg (aD 23 d2) w λd3 w=>
  aB pg (kY .len #[23] 3 [d3]) w λd4 w=>
  aB pg (aE .add 3 aK aK d1 d4) w λd5 w=>
  aB pg (kY .max #[3,3] 3 [c9,d5]) w λd6 w=>
  aB pg (DG 23 d6 d6) w λd7 w=>
  aB pg (kY .copy #[23,23] 3 [d7,c2]) w λe0 w=>
  (dr w)=(dr w)/\
  aB pg (aF 65 nH 3) (dr w) λe2 w_=>w_=(dr w)/\
  aB pg (aD 3 e2) (dr w) λe3 w_=>w_=(dr w)/\
  aB pg (uQ 23 d7 (some e3) none none) (dr w) λe4 w_=>w_=(dr w)/\
  aB pg (aF 65 nH 4) (dr w) λe5 w_=>w_=(dr w)/\
  aB pg (aD 23 e5) (dr w) λe6 w_=>w_=(dr w)/\
  aB pg (kY .copy #[23,23] 3 [e4,e6]) (dr w) λe7 T5=>
  aB pg (aF 65 nH 1) T5 λe9 w=>
  aB pg (aD 9 e9) w λf0 w=>
  aB pg (FN 57 ML f0 d7) w λ_u w=>
  kn w)
  (aB pg (aE .eql 3 (.tmp 15) (.const (V4 1)) c5 (V4 1)) w λf3 w=>
  eT f3
   (eT c3
    (aB pg (aF 65 nH 1) w λf6 w=>
    aB pg (aD 9 f6) w λf7 w=>
    aB pg (kY .delete #[57,9] 0 [ML,f7]) w λ_u w=>
    aB pg (aF 65 nH 2) w λf9 w=>
    aB pg (aD 9 f9) w λi0 w=>
    aB pg (FN 57 ML i0 c2) w λ_u w=>
    kn w)
    (kn w))
   (aB pg (aE .eql 3 (.tmp 15) (.const (V4 2)) c5 (V4 2)) w λi3 w=>
   eT i3
    (aB pg (aF 65 nH 1) w λi5 w=>
    aB pg (aD 9 i5) w λi6 w=>
    aB pg (kY .delete #[57,9] 0 [ML,i6]) w λ_u w=>
    kn w)
    (kn w)))
def Ex a0 a1 w(R:K1):=
 Bg (λw=>R (.tuple #[]) w) a0 a1 w
theorem Fs{a0 a1 w R}(h:Ex a0 a1 w R):aH pg oF #[a0,a1] w R:=
 uE (ann:=F2) Try.f26 Fo [a0,a1] Ht 57 TryM.mixed Try.func26 (oT (MA (λw=>R (.tuple #[]) w)) h jH)
def JH:FA:=⟨lJ,λi=> .leaf ([],[]) []⟩
def KS:List ResultVar:=[.cell 4 41,.tmp 5]
noncomputable def IL:Code:=bH Try.f28
def Gw(R:K1) cH OK w:=
 aB pg (zZ 41 cH) w λuD w=>
 aB pg (zZ 71 OK) w λnH w=>
 aB pg (lE 41) w λb4 w=>
 aB pg (aD 41 uD) w λb9 w=>
 aB pg (aD 71 nH) w λc0 w=>
 aH pg xC #[b9,c0] w λc1 w=>
 aB pg (aE .neq 26 (.tmp 12) (.const (V4 0)) c1 (V4 0)) w λc3 w=>
 eT c3
  (aB pg (aD 41 uD) w λc4 w=>
  aB pg (aO 41 b4 c4) w λ_u w=>
  HW pg 41 b4 w λr0=>R (.tuple #[r0,c1]) w)
  (aB pg (aD 41 uD) w λc7 w=>
  aH pg qP #[c7] w λc8 w=>
  aB pg (cA c8 0) w λc9 w=>
  aB pg (cA c8 1) w λd0 w=>
  aB pg (aO 41 uD c9) w λ_u w=>
  eT d0
   (aB pg (aD 41 uD) w λd2 w=>
   aB pg (aO 41 b4 d2) w λ_u w=>
   HW pg 41 b4 w λr0=>R (.tuple #[r0,(V4 20)]) w)
   (aB pg (aF 41 uD 2) w λd4 w=>
   aB pg (aD 39 d4) w λd5 w=>
   aB pg (kY .append #[39,39] 39 [(.slice none 0 0),d5]) w λd6 w=>
   aB pg (aD 71 nH) w λd8 w=>
   aB pg (bY 39 1 [(0,d8)]) w λd9 w=>
   aB pg (kY .append #[39,39] 39 [d6,d9]) w λe0 w=>
   aB pg (aF 41 uD 2) w λe1 w=>
   aB pg (aO 39 e1 e0) w λ_u w=>
   aB pg (aD 41 uD) w λe2 w=>
   aB pg (aO 41 b4 e2) w λ_u w=>
   HW pg 41 b4 w λr0=>R (.tuple #[r0,(V4 0)]) w))
def Kj a0 a1 w(R:K1):=
 Gw R a0 a1 w
theorem Jf{a0 a1 w R}(h:Kj a0 a1 w R):aH pg lJ #[a0,a1] w R:=
 uE (ann:=JH) Try.f28 IL [a0,a1] KS 33 TryM.mixed Try.func28 (wM h jH)
def IJ:FA:=⟨sX,λi=> .leaf ([],[]) []⟩
def JW:List ResultVar:=[.cell 2 41,.tmp 3]
noncomputable def H3:Code:=bH Try.f29
def ER(R:K1) cH w:=
 aB pg (zZ 41 cH) w λC1 w=>
 aB pg (lE 41) w λb2 w=>
 aB pg (aF 41 C1 4) w λb5 w=>
 aB pg (aD 4 b5) w λb6 w=>
 eT b6
  (aB pg (aD 41 C1) w λb7 w=>
  aB pg (aO 41 b2 b7) w λ_u w=>
  HW pg 41 b2 w λr0=>R (.tuple #[r0,(V4 20)]) w)
  (aB pg (aD 41 C1) w λb9 w=>
  aH pg qP #[b9] w λc0 w=>
  aB pg (cA c0 0) w λc1 w=>
  aB pg (cA c0 1) w λc2 w=>
  aB pg (aO 41 C1 c1) w λ_u w=>
  eT c2
   (aB pg (aD 41 C1) w λc4 w=>
   aB pg (aO 41 b2 c4) w λ_u w=>
   HW pg 41 b2 w λr0=>R (.tuple #[r0,(V4 20)]) w)
   (aB pg (aD 41 C1) w λc5 w=>
   aH pg nR #[c5] w λc6 w=>
   aB pg (aF 41 C1 1) w λc7 w=>
   aB pg (aO 38 c7 c6) w λ_u w=>
   aB pg (aF 41 C1 2) w λc8 w=>
   aB pg (aO 39 c8 (.slice none 0 0)) w λ_u w=>
   aB pg (aD 41 C1) w λc9 w=>
   aB pg (aO 41 b2 c9) w λ_u w=>
   HW pg 41 b2 w λr0=>R (.tuple #[r0,(V4 0)]) w))
def Jl a0 w(R:K1):=
 ER R a0 w
theorem Ii{a0 w R}(h:Jl a0 w R):aH pg sX #[a0] w R:=
 uE (ann:=IJ) Try.f29 H3 [a0] JW 20 TryM.mixed Try.func29 (wM h jH)
def wF:FA:=⟨qO,λi=>match Nat.beq i 5 with|true=> .leaf ([7,9],[]) (fz 7 (ft [] (fz 1 (ft [] []))))|false=> .leaf ([],[]) []⟩
def Jr:List ResultVar:=[.cell 4 41]
noncomputable def uA:Code:=bH Try.f30
def tG(R:K1) uD b4 w:=
 aB pg (aF 41 uD 2) w λe2 w=>
 aB pg (aO 39 e2 (.slice none 0 0)) w λ_u w=>
 aB pg (aF 41 uD 4) w λe3 w=>
 aB pg (aO 4 e3 (.bool false)) w λ_u w=>
 aB pg (aF 41 uD 3) w λe4 w=>
 aB pg (aO 3 e4 (V4 (-1))) w λ_u w=>
 aB pg (aD 41 uD) w λe5 w=>
 aB pg (aO 41 b4 e5) w λ_u w=>
 HW pg 41 b4 w λr0=>R r0 w
def zA(kn:K4) cY uD b4 yN w:=
 aB pg (aE .add 3 aK aK yN (V4 1)) w λc8 w=>
 kn cY uD b4 c8 w
def Du(kn:K4)(k0:K2) cY uD b4 yN w:=
 aB pg (aF 41 uD 2) w λb7 w=>
 aB pg (aD 39 b7) w λb8 w=>
 aB pg (kY .len #[39] 3 [b8]) w λb9 w=>
 aB pg (aE .lss 3 aK aK yN b9) w λc0 w=>
 Gd (bB c0 true) (λK=>K yN w) w λc2 w=>
 Gd (bB c0 true) (λK=>K cY w) w λc3 w=>
 Gd (bB c0 true) (λK=>aB pg (kY .len #[22] 3 [c3]) w K) w λc4 w=>
 Gd (bB c0 true) (λK=>aB pg (aE .lss 3 aK aK c2 c4) w K) w λc5 w=>
 aB pg (dV c0 c5 (.bool false)) w λc6 w=>
 eT c6
  (aB pg (aL 22 cY yN) w λd1 w=>
  aB pg (aD 4 d1) w λd2 w=>
  eT d2
   (aB pg (aF 41 uD 1) (dr w) λd3 w_=>w_=(dr w)/\
   aB pg (aD 38 d3) (dr w) λd4 w_=>w_=(dr w)/\
   aB pg (aF 41 uD 2) (dr w) λd5 w_=>w_=(dr w)/\
   aB pg (aD 39 d5) (dr w) λd6 w_=>w_=(dr w)/\
   (dr w)=(dr w)/\
   aB pg (aL 39 d6 yN) (dr w) λd8 w_=>w_=(dr w)/\
   aB pg (aD 71 d8) (dr w) λd9 w_=>w_=(dr w)/\
   aH pg rI #[d4,d9] (dr w) λe0 SQ=>
   aB pg (aF 41 uD 1) SQ λe1 w_=>w_=SQ/\
   aB pg (aO 38 e1 e0) SQ λ_u9 T4=>
   kn cY uD b4 yN T4)
   (kn cY uD b4 yN w))
  (k0 uD b4 w)
def zB(kn:K4)(k0:K2) cY uD b4 yN w:=
 Du (zA kn) k0 cY uD b4 yN w
def tH(k0:K2) cY uD b4 yN w:=
 bG (λ(X:V3->K0) (t:V3) (w:V2)=>zB (λ_ _ _ yN w=>X yN w) k0 cY uD b4 t w) yN w
theorem Gx(k0:K2)(h0:E2 Q k0 0 2 4)(h:tH k0 (g 1) (g 2) (g 4) (g 5) w):eF pg wF (bI (aM 1 (bJ 1 (aM 1 uA)))) Q g w:=by
 refine FX (λg:Env=>g 5) (λX t w=>zB (λ_ _ _ yN w=>X yN w) k0 (g 1) (g 2) (g 4) t w) h (λX g1 w1 ha hL=> ?_)
 rw[<-lT 1 ha,<-lT 2 ha,<-lT 4 ha]at hL
 exact(jS 2 (FV [(0,(MB k0 2 4))] (kr:=no) (Cq (zA (λ_ _ _ yN w=>X yN w)) 1 2 4 5) hL (λg w h=>aI (oT (Cq (λ_ _ _ yN w=>X yN w) 1 2 4 5) h jH)) Gt ⟨h0,trivial⟩))
def Dv(kn:K4) cY uD b4 w:=
 kn cY uD b4 (V4 0) w
def zC(kn:K2) cY uD b4 w:=
 Dv (tH kn) cY uD b4 w
def zD(R:K1) cY uD b4 w:=
 zC (tG R) cY uD b4 w
theorem Gy(kn:K2)(hn:N2 Q kn 2 4)(h:zC kn (g 1) (g 2) (g 4) w):eF pg wF (bJ 1 (aM 1 uA)) Q g w:=
 jS 1 (oT (Cq (tH kn) 1 2 4 5) h (λg w h=>aI (B7 0 (Gx _ g w kn hn h))))
def Cn(kn:K3) cH cY w:=
 aB pg (zZ 41 cH) w λuD w=>
 aB pg (lE 41) w λb4 w=>
 kn cY uD b4 w
def Co(R:K1) cH cY w:=
 Cn (zD R) cH cY w
def HN a0 a1 w(R:K1):=
 Co R a0 a1 w
theorem Hh{a0 a1 w R}(h:HN a0 a1 w R):aH pg qO #[a0,a1] w R:=
 uE (ann:=wF) Try.f30 uA [a0,a1] Jr 36 TryM.mixed Try.func30 (jS 1 (oT (Kt (zD R) 1 2 4) h (λg w h=>aI (jS 1 (Gy _ g w (tG R) (λg w h=>aI (wM h jH)) h)))))
def II:FA:=⟨sW,λi=> .leaf ([],[]) []⟩
def JU:List ResultVar:=[.tmp 4,.tmp 5]
noncomputable def H2:Code:=bH Try.f31
def EM(R:K1) cH cK w:=
 aB pg (zZ 41 cH) w λuD w=>
 aB pg (aF 41 uD 4) w λb8 w=>
 aB pg (aD 4 b8) w λb9 w=>
 eT b9
  (R (.tuple #[(.string ⟨#[]⟩),(V4 20)]) w)
  (aB pg (aD 41 uD) w λc0 w=>
  aH pg nR #[c0] w λc1 w=>
  aH pg pV #[c1,cK] w λc4 w=>
  aB pg (aE .lss 3 aK aK c4 (V4 0)) w λc6 w=>
  eT c6
   (R (.tuple #[(.string ⟨#[]⟩),(V4 21)]) w)
   (aB pg (aL 38 c1 c4) w λc9 w=>
   aB pg (aF 78 c9 1) w λd0 w=>
   aB pg (aD 9 d0) w λd1 w=>
   R (.tuple #[d1,(V4 0)]) w))
def Jj a0 a1 w(R:K1):=
 EM R a0 a1 w
theorem Ig{a0 a1 w R}(h:Jj a0 a1 w R):aH pg sW #[a0,a1] w R:=
 uE (ann:=II) Try.f31 H2 [a0,a1] JU 22 TryM.mixed Try.func31 (wM h jH)
def xY:FA:=⟨nR,λi=> .leaf ([],[]) []⟩
def JV:List ResultVar:=[.tmp 2]
noncomputable def wJ:Code:=bH Try.f32
def AV(R:K1) Le w:=
 R Le w
def AW(kn:K3)(k0:K1) C1 Le PT w:=
 aB pg (aF 41 C1 2) w λb8 w=>
 aB pg (aD 39 b8) w λb9 w=>
 aB pg (kY .len #[39] 3 [b9]) w λc0 w=>
 aB pg (aE .lss 3 aK aK PT c0) w λc1 w=>
 eT c1
  (aB pg (aF 41 C1 2) w λc5 w=>
  aB pg (aD 39 c5) w λc6 w=>
  aB pg (aL 39 c6 PT) w λc8 w=>
  aB pg (aD 71 c8) w λc9 w=>
  aH pg rI #[Le,c9] w λd0 w=>
  aB pg (aE .add 3 aK aK PT (V4 1)) w λc3 w=>
  kn C1 d0 c3 w)
  (k0 Le w)
def vJ(k0:K1) C1 Le PT w:=
 bG (λ(X:(V3×V3)->K0) (t:V3×V3) (w:V2)=>AW (λ_ Le PT w=>X (Le,PT) w) k0 C1 t.1 t.2 w) (Le,PT) w
theorem Hl(k0:K1)(h0:E1 Q k0 0 3)(h:vJ k0 (g 1) (g 3) (g 4) w):eF pg xY (bI (aM 1 (bJ 1 (aM 2 wJ)))) Q g w:=by
 refine FX (λg:Env=>(g 3,g 4)) (λX t w=>AW (λ_ Le PT w=>X (Le,PT) w) k0 (g 1) t.1 t.2 w) h (λX g1 w1 ha hL=> ?_)
 rw[<-lT 1 ha]at hL
 exact(FV [(0,(SS k0 3))] (kr:=no) (Kt (λ_ Le PT w=>X (Le,PT) w) 1 3 4) hL jH Gt ⟨h0,trivial⟩)
def EN(kn:K3) C1 Le w:=
 kn C1 Le (V4 0) w
def AX(kn:K1) C1 Le w:=
 EN (vJ kn) C1 Le w
def AY(R:K1) C1 Le w:=
 AX (AV R) C1 Le w
theorem Hm(kn:K1)(hn:N1 Q kn 3)(h:AX kn (g 1) (g 3) w):eF pg xY (bJ 1 (aM 2 wJ)) Q g w:=
 jS 1 (oT (Kt (vJ kn) 1 3 4) h (λg w h=>aI (B7 0 (Hl _ g w kn hn h))))
def EO(kn:K2) cH w:=
 aB pg (zZ 41 cH) w λC1 w=>
 aB pg (aF 41 C1 1) w λb5 w=>
 aB pg (aD 38 b5) w λb6 w=>
 kn C1 b6 w
def EP(R:K1) cH w:=
 EO (AY R) cH w
def Jk a0 w(R:K1):=
 EP R a0 w
theorem Ih{a0 w R}(h:Jk a0 w R):aH pg nR #[a0] w R:=
 uE (ann:=xY) Try.f32 wJ [a0] JV 22 TryM.mixed Try.func32 (jS 2 (oT (MB (AY R) 1 3) h (λg w h=>aI (jS 1 (Hm _ g w (AV R) (λg w h=>aI (wM h jH)) h)))))
def D5:FA:=⟨lI,λi=> .leaf ([],[]) []⟩
def FJ:List ResultVar:=[.tmp 2]
noncomputable def CX:Code:=bH Try.f33
def kH(R:K1) cH w:=
 aB pg (lO cH) w λd6 w=>
 aB pg (aF 60 d6 5) w λd7 w=>
 aB pg (aD 4 d7) w λd8 w=>
 R d8 w
def yH(kn:K1) cH w:=
 aB pg (lO cH) w λb5 w=>
 aB pg (aF 60 b5 4) w λb6 w=>
 aB pg (aD 3 b6) w λb7 w=>
 aB pg (aE .eql 3 (.tmp 7) (.const (V4 0)) b7 (V4 0)) w λb8 w=>
 eT b8
  (aB pg (lO cH) w λc0 w=>
  aB pg (aF 60 c0 5) w λc1 w=>
  aB pg (aO 4 c1 (.bool true)) w λ_u w=>
  kn cH w)
  (aB pg (lO cH) w λc4 w=>
  aB pg (aF 60 c4 4) w λc5 w=>
  aB pg (aD 3 c5) w λc6 w=>
  aB pg (aE .gtr 3 aK aK c6 (V4 0)) w λc7 w=>
  eT c7
   (aB pg (lO cH) w λc9 w=>
   aB pg (aF 60 c9 4) w λd0 w=>
   aB pg (aD 3 d0) w λd1 w=>
   aB pg (aE .sub 3 aK aK d1 (V4 1)) w λd2 w=>
   aB pg (lO cH) w λd3 w=>
   aB pg (aF 60 d3 4) w λd4 w=>
   aB pg (aO 3 d4 d2) w λ_u w=>
   kn cH w)
   (kn cH w))
def yI(R:K1) cH w:=
 yH (kH R) cH w
def Cd a0 w(R:K1):=
 yI R a0 w
theorem C9 {a0 w R}(h:Cd a0 w R):aH pg lI #[a0] w R:=
 uE (ann:=D5) Try.f33 CX [a0] FJ 29 TryM.mixed Try.func33 (jS 2 (oT (SS (kH R) 0) h (λg w h=>aI (wM h jH))))
def BI:FA:=⟨lK,λi=> .leaf ([],[]) []⟩
def CJ:List ResultVar:=[.tmp 2]
noncomputable def Bd:Code:=bH Try.f34
def tU(R:K1) QC w:=
 aH pg oS #[QC] w λb5 w=>
 aH pg iO #[b5] w λb7 w=>
 R b5 w
def zK a0 w(R:K1):=
 tU R a0 w
theorem BC{a0 w R}(h:zK a0 w R):aH pg lK #[a0] w R:=
 uE (ann:=BI) Try.f34 Bd [a0] CJ 9 TryM.mixed Try.func34 (wM h jH)
def Fj:FA:=⟨pU,λi=> .leaf ([],[]) []⟩
def GN:List ResultVar:=[.tmp 2]
noncomputable def Ef:Code:=bH Try.f35
def Ap(R:K1) Ui w:=
 aB pg (zZ 57 Ui) w λUj w=>
 aB pg (Mh (.func 43) [] [Uj]) w λb3 w=>
 R b3 w
def Dr a0 w(R:K1):=
 Ap R a0 w
theorem Em{a0 w R}(h:Dr a0 w R):aH pg pU #[a0] w R:=
 uE (ann:=Fj) Try.f35 Ef [a0] GN 4 TryM.mixed Try.func35 (wM h jH)
def xZ:FA:=⟨xC,λi=>match Nat.beq i 12 with|true=> .leaf ([],[]) (fz 22 [])|false=> .leaf ([],[]) []⟩
def JX:List ResultVar:=[.tmp 4]
noncomputable def wK:Code:=bH Try.f37
def AZ(R:K1) uD Lg w:=
 aB pg (aF 41 uD 0) w λo4 w=>
 aB pg (aD 3 o4) w λo5 w=>
 aB pg (aE .gtr 3 aK aK Lg o5) w λo6 w=>
 eT o6
  (R (V4 22) w)
  (R (V4 0) w)
def A0 (kn:K4)(k0:K2) uD I1 Lg P1 w:=
 aB pg (kY .len #[38] 3 [I1]) w λn1 w=>
 aB pg (aE .lss 3 aK aK P1 n1) w λn2 w=>
 eT n2
  (aB pg (aL 38 I1 P1) w λn8 w=>
  aB pg (aF 78 n8 1) w λn9 w=>
  aB pg (aD 9 n9) w λo0 w=>
  aB pg (kY .len #[9] 3 [o0]) w λo1 w=>
  aB pg (aE .add 3 aK aK Lg o1) w λo2 w=>
  aB pg (aE .add 3 aK aK P1 (V4 1)) w λn4 w=>
  kn uD I1 o2 n4 w)
  (k0 uD Lg w)
def vK(k0:K2) uD I1 Lg P1 w:=
 bG (λ(X:(V3×V3)->K0) (t:V3×V3) (w:V2)=>A0 (λ_ _ Lg P1 w=>X (Lg,P1) w) k0 uD I1 t.1 t.2 w) (Lg,P1) w
theorem Hn(k0:K2)(h0:E2 Q k0 0 2 8)(h:vK k0 (g 2) (g 6) (g 8) (g 9) w):eF pg xZ (bI (aM 1 (bJ 1 (aM 10 wK)))) Q g w:=by
 refine FX (λg:Env=>(g 8,g 9)) (λX t w=>A0 (λ_ _ Lg P1 w=>X (Lg,P1) w) k0 (g 2) (g 6) t.1 t.2 w) h (λX g1 w1 ha hL=> ?_)
 rw[<-lT 2 ha,<-lT 6 ha]at hL
 exact(FV [(0,(MB k0 2 8))] (kr:=no) (Cq (λ_ _ Lg P1 w=>X (Lg,P1) w) 2 6 8 9) hL jH Gt ⟨h0,trivial⟩)
def ES(kn:K4) uD I1 Lg w:=
 kn uD I1 Lg (V4 0) w
def A1 (kn:K2) uD I1 Lg w:=
 ES (vK kn) uD I1 Lg w
def qS(R:K1) uD I1 Lg w:=
 A1 (AZ R) uD I1 Lg w
theorem Ho(kn:K2)(hn:N2 Q kn 2 8)(h:A1 kn (g 2) (g 6) (g 8) w):eF pg xZ (bJ 1 (aM 10 wK)) Q g w:=
 jS 1 (oT (Cq (vK kn) 2 6 8 9) h (λg w h=>aI (B7 0 (Hn _ g w kn hn h))))
def ET(kn:K3)(R:K1) cH OK w:=
 aB pg (zZ 41 cH) w λuD w=>
 aB pg (zZ 71 OK) w λnH w=>
 aB pg (aF 41 uD 4) w λc0 w=>
 aB pg (aD 4 c0) w λc1 w=>
 eT c1
  (R (V4 20) w)
  (aB pg (aF 71 nH 1) w λc2 w=>
  aB pg (aD 9 c2) w λc3 w=>
  aB pg (aE .eql 9 (.tmp 13) (.const (.string ⟨#[]⟩)) c3 (.string ⟨#[]⟩)) w λc4 w=>
  Gd (bB c4 false) (λK=>aB pg (aF 71 nH 1) w K) w λc6 w=>
  Gd (bB c4 false) (λK=>aB pg (aD 9 c6) w K) w λc7 w=>
  Gd (bB c4 false) (λK=>aB pg (kY .len #[9] 3 [c7]) w K) w λc8 w=>
  Gd (bB c4 false) (λK=>aB pg (aE .gtr 3 aK aK c8 (V4 32)) w K) w λc9 w=>
  aB pg (dV c4 (.bool true) c9) w λd0 w=>
  aB pg (aF 71 nH 0) w λd1 w=>
  aB pg (aD 3 d1) w λd2 w=>
  aB pg (aE .eql 3 (.tmp 22) (.const (V4 1)) d2 (V4 1)) w λd3 w=>
  Gd (bB d3 true) (λK=>aB pg (aF 71 nH 2) w K) w λd5 w=>
  Gd (bB d3 true) (λK=>aB pg (aD 9 d5) w K) w λd6 w=>
  Gd (bB d3 true) (λK=>aB pg (aE .eql 9 (.tmp 26) (.const (.string ⟨#[]⟩)) d6 (.string ⟨#[]⟩)) w K) w λd7 w=>
  Gd (bB d3 true) (λK=>K d7 w) w λd8 w=>
  Gd (bB d8 false) (λK=>aB pg (aF 71 nH 2) w K) w λd9 w=>
  Gd (bB d8 false) (λK=>aB pg (aD 9 d9) w K) w λe0 w=>
  Gd (bB d8 false) (λK=>aB pg (kY .len #[9] 3 [e0]) w K) w λe1 w=>
  Gd (bB d8 false) (λK=>aB pg (aE .gtr 3 aK aK e1 (V4 32)) w K) w λe2 w=>
  Gd (bB d3 true) (λK=>aB pg (dV d8 (.bool true) e2) w K) w λe3 w=>
  aB pg (dV d3 e3 (.bool false)) w λe4 w=>
  Gd (bB e4 false) (λK=>aB pg (aF 71 nH 0) w K) w λe6 w=>
  Gd (bB e4 false) (λK=>aB pg (aD 3 e6) w K) w λe7 w=>
  Gd (bB e4 false) (λK=>aB pg (aE .eql 3 (.tmp 37) (.const (V4 0)) e7 (V4 0)) w K) w λe8 w=>
  Gd (bB e4 false) (λK=>K e8 w) w λe9 w=>
  Gd (bB e9 true) (λK=>aB pg (aF 71 nH 3) w K) w λf0 w=>
  Gd (bB e9 true) (λK=>aB pg (aD 3 f0) w K) w λf1 w=>
  Gd (bB e9 true) (λK=>aB pg (aE .lss 3 aK aK f1 (V4 0)) w K) w λf2 w=>
  Gd (bB e4 false) (λK=>aB pg (dV e9 f2 (.bool false)) w K) w λf3 w=>
  aB pg (dV e4 (.bool true) f3) w λf4 w=>
  Gd (bB f4 false) (λK=>aB pg (aF 71 nH 0) w K) w λf6 w=>
  Gd (bB f4 false) (λK=>aB pg (aD 3 f6) w K) w λf7 w=>
  Gd (bB f4 false) (λK=>aB pg (aE .lss 3 aK aK f7 (V4 2)) w K) w λf8 w=>
  Gd (bB f4 false) (λK=>K f8 w) w λf9 w=>
  Gd (bB f9 true) (λK=>K d0 w) w λi0 w=>
  Gd (bB f4 false) (λK=>aB pg (dV f9 i0 (.bool false)) w K) w λi1 w=>
  aB pg (dV f4 (.bool true) i1) w λi2 w=>
  eT i2
   (R (V4 1) w)
   (aB pg (aD 41 uD) w λi3 w=>
   aH pg nR #[i3] w λi4 w=>
   aB pg (aF 71 nH 1) w λi6 w=>
   aB pg (aD 9 i6) w λi7 w=>
   aH pg pV #[i4,i7] w λi8 w=>
   aB pg (aF 71 nH 0) w λi9 w=>
   aB pg (aD 3 i9) w λj0 w=>
   aB pg (aE .gtr 3 aK aK j0 (V4 0)) w λj1 w=>
   eT j1
    (aB pg (aE .lss 3 aK aK i8 (V4 0)) w λj3 w=>
    eT j3
     (R (V4 21) w)
     (R (V4 0) w))
    ((dr w)=(dr w)/\
    aB pg (aE .lss 3 aK aK i8 (V4 0)) (dr w) λj5 w_=>w_=(dr w)/\
    (dr w)=(dr w)/\
    Gd (bB j5 true) (λK=>aB pg (aF 71 nH 3) (dr w) K) (dr w) λj7 w_=>w_=(dr w)/\
    Gd (bB j5 true) (λK=>aB pg (aD 3 j7) (dr w) K) (dr w) λj8 w_=>w_=(dr w)/\
    Gd (bB j5 true) (λK=>aB pg (aE .gtr 3 aK aK j8 (V4 0)) (dr w) K) (dr w) λj9 w_=>w_=(dr w)/\
    aB pg (dV j5 j9 (.bool false)) (dr w) λl0 w_=>w_=(dr w)/\
    (dr w)=(dr w)/\
    Gd (bB l0 false) (λK=>K i8 (dr w)) (dr w) λl2 w_=>w_=(dr w)/\
    Gd (bB l0 false) (λK=>aB pg (aE .geq 3 aK aK l2 (V4 0)) (dr w) K) (dr w) λl3 w_=>w_=(dr w)/\
    Gd (bB l0 false) (λK=>K l3 (dr w)) (dr w) λl4 w_=>w_=(dr w)/\
    Gd (bB l4 true) (λK=>aB pg (aF 71 nH 3) (dr w) K) (dr w) λl5 w_=>w_=(dr w)/\
    Gd (bB l4 true) (λK=>aB pg (aD 3 l5) (dr w) K) (dr w) λl6 w_=>w_=(dr w)/\
    Gd (bB l4 true) (λK=>K i4 (dr w)) (dr w) λl7 w_=>w_=(dr w)/\
    Gd (bB l4 true) (λK=>K i8 (dr w)) (dr w) λl8 w_=>w_=(dr w)/\
    Gd (bB l4 true) (λK=>aB pg (aL 38 l7 l8) (dr w) K) (dr w) λl9 w_=>w_=(dr w)/\
    Gd (bB l4 true) (λK=>aB pg (aF 78 l9 1) (dr w) K) (dr w) λm0 w_=>w_=(dr w)/\
    Gd (bB l4 true) (λK=>aB pg (aD 9 m0) (dr w) K) (dr w) λm1 w_=>w_=(dr w)/\
    Gd (bB l4 true) (λK=>aB pg (kY .len #[9] 3 [m1]) (dr w) K) (dr w) λm2 w_=>w_=(dr w)/\
    Gd (bB l4 true) (λK=>aB pg (aE .gtr 3 aK aK l6 m2) (dr w) K) (dr w) λm3 w_=>w_=(dr w)/\
    Gd (bB l0 false) (λK=>aB pg (dV l4 m3 (.bool false)) (dr w) K) (dr w) λm4 w_=>w_=(dr w)/\
    aB pg (dV l0 (.bool true) m4) (dr w) λm5 w_=>w_=(dr w)/\
    eT m5
     (R (V4 17) (dr w))
     (aB pg (aD 71 nH) (dr w) λm7 w=>
     aH pg rI #[i4,m7] w λm8 w=>
     kn uD m8 (V4 0) w))))
def EU(R:K1) cH OK w:=
 ET (qS R) R cH OK w
def Jm a0 a1 w(R:K1):=
 EU R a0 a1 w
theorem Ij{a0 a1 w R}(h:Jm a0 a1 w R):aH pg xC #[a0,a1] w R:=
 uE (ann:=xZ) Try.f37 wK [a0,a1] JX 107 TryM.mixed Try.func37 (jS 10 (Pb (Kt (qS R) 2 6 8) h (λg w h=>aI (jS 1 (Ho _ g w (AZ R) (λg w h=>aI (wM h jH)) h))) jH))
def H0:FA:=⟨qP,λi=> .leaf ([],[]) []⟩
def Js:List ResultVar:=[.cell 2 41,.tmp 3]
noncomputable def G1:Code:=bH Try.f38
def zE(R:K1) C1 b2 w:=
 aB pg (aD 41 C1) w λc6 w=>
 aB pg (aO 41 b2 c6) w λ_u w=>
 HW pg 41 b2 w λr0=>R (.tuple #[r0,(.bool false)]) w
def DC(kn:K2)(R:K1) cH w:=
 aB pg (zZ 41 cH) w λC1 w=>
 aB pg (lE 41) w λb2 w=>
 aB pg (aF 41 C1 3) w λb4 w=>
 aB pg (aD 3 b4) w λb5 w=>
 aB pg (aE .eql 3 (.tmp 5) (.const (V4 0)) b5 (V4 0)) w λb6 w=>
 eT b6
  (aB pg (aF 41 C1 4) w λb7 w=>
  aB pg (aO 4 b7 (.bool true)) w λ_u w=>
  aB pg (aD 41 C1) w λb8 w=>
  aB pg (aO 41 b2 b8) w λ_u w=>
  HW pg 41 b2 w λr0=>R (.tuple #[r0,(.bool true)]) w)
  (aB pg (aF 41 C1 3) w λb9 w=>
  aB pg (aD 3 b9) w λc0 w=>
  aB pg (aE .gtr 3 aK aK c0 (V4 0)) w λc1 w=>
  eT c1
   (aB pg (aF 41 C1 3) w λc2 w=>
   aB pg (aD 3 c2) w λc3 w=>
   aB pg (aE .sub 3 aK aK c3 (V4 1)) w λc4 w=>
   aB pg (aF 41 C1 3) w λc5 w=>
   aB pg (aO 3 c5 c4) w λ_u w=>
   kn C1 b2 w)
   (kn C1 b2 w))
def DD(R:K1) cH w:=
 DC (zE R) R cH w
def HQ a0 w(R:K1):=
 DD R a0 w
theorem Hp{a0 w R}(h:HQ a0 w R):aH pg qP #[a0] w R:=
 uE (ann:=H0) Try.f38 G1 [a0] Js 17 TryM.mixed Try.func38 (jS 3 (Pb (MB (zE R) 1 2) h (λg w h=>aI (wM h jH)) jH))
def pW:FA:=⟨rI,λi=>match Nat.beq i 12 with|true=> .leaf ([10],[]) (fz 10 (ft [] []))|false=> .leaf ([],[]) []⟩
def HS:List ResultVar:=[.tmp 4]
noncomputable def oP:Code:=bH Try.f39
def Dw(R:K1) jI w:=
 R jI w
def HO(kn:K1)(R:K1) jI nH yN tR w:=
 aB pg (aE .lss 3 aK aK yN (V4 0)) w λj2 w=>
 eT j2
  (R jI w)
  (aB pg (aF 71 nH 1) w λj5 w=>
  aB pg (aD 9 j5) w λj6 w=>
  aH pg oI #[jI,j6] w λj7 w=>
  aB pg (aF 71 nH 0) w λj8 w=>
  aB pg (aD 3 j8) w λj9 w=>
  aB pg (aE .eql 3 (.tmp 69) (.const (V4 1)) j9 (V4 1)) w λl0 w=>
  eT l0
   (aB pg (aF 71 nH 2) w λl2 w=>
   aB pg (aD 9 l2) w λl3 w=>
   aB pg (kS 78 [(0,l3),(1,tR)]) w λl5 w=>
   aH pg sY #[j7,l5] w λl6 w=>
   kn l6 w)
   (kn j7 w))
def Dx(R:K1) jI nH yN tR w:=
 HO (Dw R) R jI nH yN tR w
def Dy(R:K1) jI nH GY w:=
 aB pg (aF 71 nH 1) w λi5 w=>
 aB pg (aD 9 i5) w λi6 w=>
 aB pg (qI 23 9 GY) w λi8 w=>
 aB pg (kS 78 [(0,i6),(1,i8)]) w λi9 w=>
 aH pg sY #[jI,i9] w λj0 w=>
 R j0 w
def Dz(kn:K4)(k2:K3) jI nH GY Pd w:=
 aB pg (aF 71 nH 4) w λe8 w=>
 aB pg (aD 9 e8) w λe9 w=>
 aB pg (kY .len #[9] 3 [e9]) w λf0 w=>
 aB pg (aE .lss 3 aK aK Pd f0) w λf1 w=>
 eT f1
  ((dr w)=(dr w)/\
  aB pg (aF 71 nH 3) (dr w) λf5 w_=>w_=(dr w)/\
  aB pg (aD 3 f5) (dr w) λf6 w_=>w_=(dr w)/\
  (dr w)=(dr w)/\
  aB pg (aE .add 3 aK aK f6 Pd) (dr w) λf8 w_=>w_=(dr w)/\
  aB pg (aF 71 nH 4) (dr w) λf9 w_=>w_=(dr w)/\
  aB pg (aD 9 f9) (dr w) λi0 w_=>w_=(dr w)/\
  (dr w)=(dr w)/\
  aB pg (OX 9 i0 Pd) (dr w) λi2 w_=>w_=(dr w)/\
  aB pg (aL 23 GY f8) (dr w) λi3 w_=>w_=(dr w)/\
  aB pg (aO 5 i3 i2) (dr w) λ_u10 SL=>
  aB pg (aE .add 3 aK aK Pd (V4 1)) SL λf3 w=>
  kn jI nH GY f3 w)
  (k2 jI nH GY w)
def Ar(k2:K3) jI nH GY Pd w:=
 bG (λ(X:V3->K0) (t:V3) (w:V2)=>Dz (λ_ _ _ Pd w=>X Pd w) k2 jI nH GY t w) Pd w
theorem Jg(k2:K3)(h2:E3 Q k2 2 0 3 7)(h:Ar k2 (g 0) (g 3) (g 7) (g 8) w):eF pg pW (bI (aM 1 (bJ 1 (aM 1 (aM 1 (cT (aM 1 (bJ 1 (aM 4 oP))))))))) Q g w:=by
 refine FX (λg:Env=>g 8) (λX t w=>Dz (λ_ _ _ Pd w=>X Pd w) k2 (g 0) (g 3) (g 7) t w) h (λX g1 w1 ha hL=> ?_)
 rw[<-lT 0 ha,<-lT 3 ha,<-lT 7 ha]at hL
 exact(FV [(2,(Kt k2 0 3 7))] (kr:=no) (Cq (λ_ _ _ Pd w=>X Pd w) 0 3 7 8) hL jH Gt ⟨h2,trivial⟩)
def HP(kn:K4) jI nH GY w:=
 kn jI nH GY (V4 0) w
def DA(kn:K3) jI nH GY w:=
 HP (Ar kn) jI nH GY w
def BT(R:K1) jI nH GY w:=
 DA (Dy R) jI nH GY w
theorem Jh(kn:K3)(hn:N3 Q kn 0 3 7)(h:DA kn (g 0) (g 3) (g 7) w):eF pg pW (bJ 1 (aM 1 (aM 1 (cT (aM 1 (bJ 1 (aM 4 oP))))))) Q g w:=
 jS 1 (oT (Cq (Ar kn) 0 3 7 8) h (λg w h=>aI (B7 2 (Jg _ g w kn hn h))))
def BU(kn:K3)(k0:K3) jI nH GY w:=
 aB pg (kY .len #[23] 3 [GY]) w λd6 w=>
 aB pg (aF 71 nH 3) w λd7 w=>
 aB pg (aD 3 d7) w λd8 w=>
 aB pg (aF 71 nH 4) w λd9 w=>
 aB pg (aD 9 d9) w λe0 w=>
 aB pg (kY .len #[9] 3 [e0]) w λe1 w=>
 aB pg (aE .add 3 aK aK d8 e1) w λe2 w=>
 aB pg (aE .lss 3 aK aK d6 e2) w λe3 w=>
 eT e3
  (aB pg (bY 23 1 [(0,(.int .u8 0))]) w λe5 w=>
  aB pg (kY .append #[23,23] 23 [GY,e5]) w λe6 w=>
  kn jI nH e6 w)
  (k0 jI nH GY w)
def xL(k0:K3) jI nH GY w:=
 bG (λ(X:V3->K0) (t:V3) (w:V2)=>BU (λ_ _ GY w=>X GY w) k0 jI nH t w) GY w
theorem Ia(k0:K3)(h0:E3 Q k0 0 0 3 7)(h:xL k0 (g 0) (g 3) (g 7) w):eF pg pW (bI (bJ 1 (aM 1 (cT (aM 1 (bJ 1 (aM 4 oP))))))) Q g w:=by
 refine FX (λg:Env=>g 7) (λX t w=>BU (λ_ _ GY w=>X GY w) k0 (g 0) (g 3) t w) h (λX g1 w1 ha hL=> ?_)
 rw[<-lT 0 ha,<-lT 3 ha]at hL
 exact(FV [(0,(Kt k0 0 3 7))] (kr:=no) (Kt (λ_ _ GY w=>X GY w) 0 3 7) hL jH Gt ⟨h0,trivial⟩)
def BV(R:K1) jI nH GY w:=
 xL (BT R) jI nH GY w
theorem Ib(kn:K3)(hn:N3 Q kn 0 3 7)(h:xL kn (g 0) (g 3) (g 7) w):eF pg pW (bJ 1 (aM 1 (cT (aM 1 (bJ 1 (aM 4 oP)))))) Q g w:=
 B7 0 (Ia _ g w kn hn h)
def Gz(kn:K3) jI nH tR w:=
 aB pg (qI 9 23 tR) w λd4 w=>
 kn jI nH d4 w
def GA(R:K1) jI nH tR w:=
 Gz (BV R) jI nH tR w
def GB(kn:K4) jI nH yN tR w:=
 kn jI nH yN tR w
def BW(kn:K4)(R:K1) jI nH yN tR d2 w:=
 eT d2 (GA R jI nH tR w) (GB kn jI nH yN tR w)
def GC(kn:K5) jI nH yN tR w:=
 aB pg (aF 71 nH 0) w λd0 w=>
 aB pg (aD 3 d0) w λd1 w=>
 aB pg (aE .eql 3 (.tmp 21) (.const (V4 0)) d1 (V4 0)) w λd2 w=>
 kn jI nH yN tR d2 w
def BX(kn:K4)(R:K1) jI nH yN tR w:=
 GC (BW kn R) jI nH yN tR w
def xM(R:K1) jI nH yN tR w:=
 BX (Dx R) R jI nH yN tR w
theorem Ic(kn:K4)(R:K1)(hn:N4 Q kn 0 3 5 6)(hr:HR HS R Q)(h:BX kn R (g 0) (g 3) (g 5) (g 6) w):eF pg pW (bJ 1 (aM 4 oP)) Q g w:=
 jS 1 (oT (IC (BW kn R) 0 3 5 6 22) h (λg w h=>aI (QY (.tmp 22) (λh=>(jS 1 (oT (Kt (BV R) 0 3 7) h (λg w h=>aI (jS 1 (Ib _ g w (BT R) (λg w h=>aI (jS 1 (Jh _ g w (Dy R) (λg w h=>aI (wM h hr)) h))) h)))))) (λh=>(oT _ h hn)) h)))
def GD(kn:K4) jI OK w:=
 aB pg (zZ 71 OK) w λnH w=>
 aB pg (aF 71 nH 1) w λc0 w=>
 aB pg (aD 9 c0) w λc1 w=>
 aH pg pV #[jI,c1] w λc2 w=>
 aB pg (aE .geq 3 aK aK c2 (V4 0)) w λc4 w=>
 eT c4
  (aB pg (aL 38 jI c2) w λc7 w=>
  aB pg (aF 78 c7 1) w λc8 w=>
  aB pg (aD 9 c8) w λc9 w=>
  kn jI nH c2 c9 w)
  (kn jI nH c2 (.string ⟨#[]⟩) w)
def GF(R:K1) jI OK w:=
 GD (xM R) jI OK w
def L6 a0 a1 w(R:K1):=
 GF R a0 a1 w
theorem JR{a0 a1 w R}(h:L6 a0 a1 w R):aH pg rI #[a0,a1] w R:=
 uE (ann:=pW) Try.f39 oP [a0,a1] HS 78 TryM.mixed Try.func39 (jS 4 (oT (Cq (xM R) 0 3 5 6) h (λg w h=>aI (jS 1 (Ic _ g w (Dx R) R (λg w h=>aI (jS 3 (Pb (SS (Dw R) 0) h (λg w h=>aI (wM h jH)) jH))) jH h)))))
def xV:FA:=⟨pV,λi=> .leaf ([],[]) []⟩
def A5:List ResultVar:=[.tmp 4]
noncomputable def wI:Code:=bH Try.f40
def AR(R:K1) w:=
 R (V4 (-1)) w
def AS(kn:K3)(k0:K0)(R:K1) jI cK yN w:=
 aB pg (kY .len #[38] 3 [jI]) w λb8 w=>
 aB pg (aE .lss 3 aK aK yN b8) w λb9 w=>
 eT b9
  (aB pg (aL 38 jI yN) w λc4 w=>
  aB pg (aF 78 c4 0) w λc5 w=>
  aB pg (aD 9 c5) w λc6 w=>
  aB pg (aE .eql 9 (.tmp 16) (.tmp 17) c6 cK) w λc8 w=>
  eT c8
   (R yN w)
   (aB pg (aE .add 3 aK aK yN (V4 1)) w λc1 w=>
   kn jI cK c1 w))
  (k0 w)
def vI(k0:K0)(R:K1) jI cK yN w:=
 bG (λ(X:V3->K0) (t:V3) (w:V2)=>AS (λ_ _ yN w=>X yN w) k0 R jI cK t w) yN w
theorem Hi(k0:K0)(R:K1)(h0:E0 Q k0 0)(hr:HR A5 R Q)(h:vI k0 R (g 0) (g 1) (g 5) w):eF pg xV (bI (aM 1 (bJ 1 (aM 1 wI)))) Q g w:=by
 refine FX (λg:Env=>g 5) (λX t w=>AS (λ_ _ yN w=>X yN w) k0 R (g 0) (g 1) t w) h (λX g1 w1 ha hL=> ?_)
 rw[<-lT 0 ha,<-lT 1 ha]at hL
 exact(FV [(0,(MA k0))] (Kt (λ_ _ yN w=>X yN w) 0 1 5) hL jH hr ⟨h0,trivial⟩)
def EJ(kn:K3) jI cK w:=
 kn jI cK (V4 0) w
def AT(kn:K0)(R:K1) jI cK w:=
 EJ (vI kn R) jI cK w
def AU(R:K1) jI cK w:=
 AT (AR R) R jI cK w
theorem Hj(kn:K0)(R:K1)(hn:N0 Q kn)(hr:HR A5 R Q)(h:AT kn R (g 0) (g 1) w):eF pg xV (bJ 1 (aM 1 wI)) Q g w:=
 jS 1 (oT (Kt (vI kn R) 0 1 5) h (λg w h=>aI (B7 0 (Hi _ g w kn R hn hr h))))
def EK(kn:K2) jI cK w:=
 kn jI cK w
def EL(R:K1) jI cK w:=
 EK (AU R) jI cK w
def Ji a0 a1 w(R:K1):=
 EL R a0 a1 w
theorem Ie{a0 a1 w R}(h:Ji a0 a1 w R):aH pg pV #[a0,a1] w R:=
 uE (ann:=xV) Try.f40 wI [a0,a1] A5 20 TryM.mixed Try.func40 (jS 1 (oT (MB (AU R) 0 1) h (λg w h=>aI (jS 1 (Hj _ g w (AR R) R (λg w h=>aI (wM h jH)) jH h)))))
def A9:FA:=⟨oS,λi=> .leaf ([],[]) []⟩
def BZ:List ResultVar:=[.tmp 2]
noncomputable def AE:Code:=bH Try.f41
def tJ(R:K1) QC w:=
 aH pg aW #[(.slice none 0 0),QC] w λb4 w=>
 R b4 w
def wZ a0 w(R:K1):=
 tJ R a0 w
theorem A8 {a0 w R}(h:wZ a0 w R):aH pg oS #[a0] w R:=
 uE (ann:=A9) Try.f41 AE [a0] BZ 5 TryM.mixed Try.func41 (wM h jH)
def CQ:FA:=⟨iO,λi=> .leaf ([],[]) []⟩
def Eu:List ResultVar:=[]
noncomputable def Cx:Code:=bH Try.f42
def qJ(kn:K0) FU w:=
 aB pg (kY .len #[53] 3 [FU]) w λb4 w=>
 aB pg (qI 3 94 b4) w λb8 w=>
 aH pg oH #[b8] w λb9 w=>
 aH pg aY #[FU,(V4 0),b4,b9] w λc0 w=>
 kn w
def uU a0 w(R:K1):=
 qJ (λw=>R (.tuple #[]) w) a0 w
theorem tT{a0 w R}(h:uU a0 w R):aH pg iO #[a0] w R:=
 uE (ann:=CQ) Try.f42 Cx [a0] Eu 11 TryM.mixed Try.func42 (oT (MA (λw=>R (.tuple #[]) w)) h jH)
def tQ:FA:=⟨eU,λi=> .leaf ([],[]) []⟩
def wB:List ResultVar:=[]
noncomputable def tB:Code:=bH Try.f43
def pM(kn:K2)(k0:K0)(R:K1) Aw b5 w:=
 aB pg (Mi b5 false 0) w λb6 w=>
 aB pg (cA b6 0) w λb7 w=>
 eT b7
  (aB pg (KU b5) w λb8 w=>
  aB pg (cA b8 0) w λb9 w=>
  aB pg (zF Aw [b9]) w λc2 w=>
  aB pg (HU .not c2) w λc3 w=>
  eT c3
   (R (.tuple #[]) w)
   (kn Aw b5 w))
  (k0 w)
def lN(k0:K0)(R:K1) Aw b5 w:=
 bG (λ(X:Unit->K0) (t:Unit) (w:V2)=>pM (λ_ _ w=>X () w) k0 R Aw b5 w) () w
theorem Bv(k0:K0)(R:K1)(h0:E0 Q k0 0)(hr:HR wB R Q)(h:lN k0 R (g 0) (g 5) w):eF pg tQ (bI (aM 1 tB)) Q g w:=by
 refine FX (λ_:Env=>()) (λX t w=>pM (λ_ _ w=>X () w) k0 R (g 0) (g 5) w) h (λX g1 w1 ha hL=> ?_)
 rw[<-lT 0 ha,<-lT 5 ha]at hL
 exact(FV [(0,(MA k0))] (MB (λ_ _ w=>X () w) 0 5) hL jH hr ⟨h0,trivial⟩)
def vY(kn:K2) Aw b1 w:=
 aB pg (aD 57 b1) w λb4 w=>
 aB pg (Hx 57 b4) w λb5 w=>
 kn Aw b5 w
def vZ(kn:K0)(R:K1) Aw b1 w:=
 vY (lN kn R) Aw b1 w
def Ao a0 a1 w(R:K1):=
 vZ (λw=>R (.tuple #[]) w) R a0 a1 w
theorem BR{a0 a1 w R}(h:Ao a0 a1 w R):aH pg eU #[a0,a1] w R:=
 uE (ann:=tQ) Try.f43 tB [a0,a1] wB 14 TryM.mixed Try.func43 (jS 1 (oT (MB (lN (λw=>R (.tuple #[]) w) R) 0 5) h (λg w h=>aI (B7 0 (Bv _ g w (λw=>R (.tuple #[]) w) R jH jH h)))))
def yA:FA:=⟨sY,λi=>match Nat.beq i 3 with|true=> .leaf ([],[]) (fz 14 [])|false=> .leaf ([],[]) []⟩
def JY:List ResultVar:=[.tmp 4]
noncomputable def wL:Code:=bH Try.f44
def vL(R:K1) jI Pc CR w:=
 aB pg (uQ 38 jI none (some CR) none) w λe0 w=>
 aB pg (kY .append #[38,38] 38 [(.slice none 0 0),e0]) w λe1 w=>
 aB pg (aD 78 Pc) w λe3 w=>
 aB pg (bY 38 1 [(0,e3)]) w λe4 w=>
 aB pg (kY .append #[38,38] 38 [e1,e4]) w λe5 w=>
 aB pg (uQ 38 jI (some CR) none none) w λe9 w=>
 aB pg (kY .append #[38,38] 38 [e5,e9]) w λf0 w=>
 R f0 w
def A2 (kn:K3)(k0:K3) jI Pc CR w:=
 (dr w)=(dr w)/\
 (dr w)=(dr w)/\
 aB pg (kY .len #[38] 3 [jI]) (dr w) λc3 w_=>w_=(dr w)/\
 aB pg (aE .lss 3 aK aK CR c3) (dr w) λc4 w_=>w_=(dr w)/\
 (dr w)=(dr w)/\
 Gd (bB c4 true) (λK=>K jI (dr w)) (dr w) λc6 w_=>w_=(dr w)/\
 Gd (bB c4 true) (λK=>K CR (dr w)) (dr w) λc7 w_=>w_=(dr w)/\
 Gd (bB c4 true) (λK=>aB pg (aL 38 c6 c7) (dr w) K) (dr w) λc8 w_=>w_=(dr w)/\
 Gd (bB c4 true) (λK=>aB pg (aF 78 c8 0) (dr w) K) (dr w) λc9 w_=>w_=(dr w)/\
 Gd (bB c4 true) (λK=>aB pg (aD 9 c9) (dr w) K) (dr w) λd0 w_=>w_=(dr w)/\
 Gd (bB c4 true) (λK=>aB pg (aF 78 Pc 0) (dr w) K) (dr w) λd1 w_=>w_=(dr w)/\
 Gd (bB c4 true) (λK=>aB pg (aD 9 d1) (dr w) K) (dr w) λd2 w_=>w_=(dr w)/\
 Gd (bB c4 true) (λK=>aB pg (aE .lss 9 aK aK d0 d2) (dr w) K) (dr w) λd3 w_=>w_=(dr w)/\
 aB pg (dV c4 d3 (.bool false)) (dr w) λd4 w_=>w_=(dr w)/\
 eT d4
  (aB pg (aE .add 3 aK aK CR (V4 1)) (dr w) λd6 w=>
  kn jI Pc d6 w)
  (k0 jI Pc CR (dr w))
def vM(k0:K3) jI Pc CR w:=
 bG (λ(X:V3->K0) (t:V3) (w:V2)=>A2 (λ_ _ CR w=>X CR w) k0 jI Pc t w) CR w
theorem Hq(k0:K3)(h0:E3 Q k0 0 0 3 5)(h:vM k0 (g 0) (g 3) (g 5) w):eF pg yA (bI (bJ 1 (aM 3 wL))) Q g w:=by
 refine FX (λg:Env=>g 5) (λX t w=>A2 (λ_ _ CR w=>X CR w) k0 (g 0) (g 3) t w) h (λX g1 w1 ha hL=> ?_)
 rw[<-lT 0 ha,<-lT 3 ha]at hL
 exact(FV [(0,(Kt k0 0 3 5))] (kr:=no) (Kt (λ_ _ CR w=>X CR w) 0 3 5) hL jH Gt ⟨h0,trivial⟩)
def A3 (R:K1) jI Pc CR w:=
 vM (vL R) jI Pc CR w
theorem Hr(kn:K3)(hn:N3 Q kn 0 3 5)(h:vM kn (g 0) (g 3) (g 5) w):eF pg yA (bJ 1 (aM 3 wL)) Q g w:=
 B7 0 (Hq _ g w kn hn h)
def EV(kn:K3) jI TW w:=
 aB pg (zZ 78 TW) w λPc w=>
 aB pg (aF 78 Pc 0) w λb8 w=>
 aB pg (aD 9 b8) w λb9 w=>
 aH pg oI #[jI,b9] w λc0 w=>
 kn c0 Pc (V4 0) w
def EW(R:K1) jI TW w:=
 EV (A3 R) jI TW w
def Jn a0 a1 w(R:K1):=
 EW R a0 a1 w
theorem Ik{a0 a1 w R}(h:Jn a0 a1 w R):aH pg sY #[a0,a1] w R:=
 uE (ann:=yA) Try.f44 wL [a0,a1] JY 41 TryM.mixed Try.func44 (jS 3 (oT (Kt (A3 R) 0 3 5) h (λg w h=>aI (jS 1 (Hr _ g w (vL R) (λg w h=>aI (wM h jH)) h)))))
def sZ:FA:=⟨oI,λi=> .leaf ([],[]) []⟩
def Hv:List ResultVar:=[.tmp 4]
noncomputable def rJ:Code:=bH Try.f45
def uK(R:K1) oJ w:=
 R oJ w
def uL(kn:K4) jI cK oJ qR w:=
 aB pg (aE .add 3 aK aK qR (V4 1)) w λc2 w=>
 kn jI cK oJ c2 w
def Bz(kn:K4)(k0:K1) jI cK oJ qR w:=
 aB pg (kY .len #[38] 3 [jI]) w λb9 w=>
 aB pg (aE .lss 3 aK aK qR b9) w λc0 w=>
 eT c0
  (aB pg (aL 38 jI qR) w λc5 w=>
  aB pg (aF 78 c5 0) w λc6 w=>
  aB pg (aD 9 c6) w λc7 w=>
  aB pg (aE .neq 9 (.tmp 17) (.tmp 18) c7 cK) w λc9 w=>
  eT c9
   (aB pg (aL 38 jI qR) w λd3 w=>
   aB pg (aD 78 d3) w λd4 w=>
   aB pg (bY 38 1 [(0,d4)]) w λd5 w=>
   aB pg (kY .append #[38,38] 38 [oJ,d5]) w λd6 w=>
   kn jI cK d6 qR w)
   (kn jI cK oJ qR w))
  (k0 oJ w)
def uM(kn:K4)(k0:K1) jI cK oJ qR w:=
 Bz (uL kn) k0 jI cK oJ qR w
def pY(k0:K1) jI cK oJ qR w:=
 bG (λ(X:(V3×V3)->K0) (t:V3×V3) (w:V2)=>uM (λ_ _ oJ qR w=>X (oJ,qR) w) k0 jI cK t.1 t.2 w) (oJ,qR) w
theorem Ep(k0:K1)(h0:E1 Q k0 0 5)(h:pY k0 (g 0) (g 1) (g 5) (g 6) w):eF pg sZ (bI (aM 1 (bJ 1 (aM 2 rJ)))) Q g w:=by
 refine FX (λg:Env=>(g 5,g 6)) (λX t w=>uM (λ_ _ oJ qR w=>X (oJ,qR) w) k0 (g 0) (g 1) t.1 t.2 w) h (λX g1 w1 ha hL=> ?_)
 rw[<-lT 0 ha,<-lT 1 ha]at hL
 exact(jS 2 (FV [(0,(SS k0 5))] (kr:=no) (Cq (uL (λ_ _ oJ qR w=>X (oJ,qR) w)) 0 1 5 6) hL (λg w h=>aI (oT (Cq (λ_ _ oJ qR w=>X (oJ,qR) w) 0 1 5 6) h jH)) Gt ⟨h0,trivial⟩))
def BA(kn:K4) jI cK oJ w:=
 kn jI cK oJ (V4 0) w
def uN(kn:K1) jI cK oJ w:=
 BA (pY kn) jI cK oJ w
def uO(R:K1) jI cK oJ w:=
 uN (uK R) jI cK oJ w
theorem Er(kn:K1)(hn:N1 Q kn 5)(h:uN kn (g 0) (g 1) (g 5) w):eF pg sZ (bJ 1 (aM 2 rJ)) Q g w:=
 jS 1 (oT (Cq (pY kn) 0 1 5 6) h (λg w h=>aI (B7 0 (Ep _ g w kn hn h))))
def As(kn:K3) jI cK w:=
 kn jI cK (.slice none 0 0) w
def Au(R:K1) jI cK w:=
 As (uO R) jI cK w
def EX a0 a1 w(R:K1):=
 Au R a0 a1 w
theorem FF{a0 a1 w R}(h:EX a0 a1 w R):aH pg oI #[a0,a1] w R:=
 uE (ann:=sZ) Try.f45 rJ [a0,a1] Hv 28 TryM.mixed Try.func45 (jS 2 (oT (Kt (uO R) 0 1 5) h (λg w h=>aI (jS 1 (Er _ g w (uK R) (λg w h=>aI (wM h jH)) h)))))
def cJ:FA:=⟨aW,λi=> .leaf ([],[]) []⟩
def A6:List ResultVar:=[.tmp 4]
noncomputable def aG:Code:=bH Try.f46
def fY(kn:K0) JG Ty w:=
 aB pg (aD 53 JG) w λb8 w=>
 aB pg (bY 53 1 [(0,Ty)]) w λc0 w=>
 aB pg (kY .append #[53,53] 53 [b8,c0]) w λc1 w=>
 aB pg (aO 53 JG c1) w λ_u w=>
 kn w
theorem uT(kn:K0)(hn:N0 Q kn)(h:fY kn (g 2) (g 5) w):eF pg cJ (M9 aG) Q g w:=
 oT _ h hn
def jX(kn:K2) JG b7 w:=
 kn JG b7 w
theorem uS(kn:K2)(hn:N2 Q kn 2 5)(h:jX kn (g 2) (g 7) w):eF pg cJ (OS aG) Q g w:=
 oT _ h hn
def qB(l:Nat)(R:K1)(JG b7:V3)(w:V2):Prop:=
 jX (λJG Ty w=>TQ l w λw=>fY (λw=>Q7 l none R w) JG Ty w) JG b7 w
theorem xP{l:Nat}{tmps:Array V3}{w:V2}{R:K1}(hsz:tmps.size=13)(h:qB l R (Ft tmps 2) (Ft tmps 7) w):J4 pg l aW tmps (OS aG) (M9 aG) w R:=
 Uh (ann:=cJ) 13 TryM.mixed hsz (uS (TT pg cJ l (M9 aG) R) (Ft tmps) w (λJG Ty w=>TQ l w λw=>fY (Q7 l none R) JG Ty w) (λg w h=>let⟨r,h1,h2,h3⟩:=h;⟨r,h1,h2,(uT (KQ l R) g _ (Q7 l none R) (λ_ _ h=>h) h3)⟩) h) (by kernel_rfl) (by kernel_rfl) (by kernel_rfl)
def iX(R:K1) JG t1000003 w:=
 aB pg (aD 53 JG) w λc2 w=>
 zG t1000003 w λw=>R c2 w
def iY(kn:K2) JG b6 t1000003 w:=
 ∀g:Env,g 2=JG->g 6=b6->g 1000003=t1000003->RF pg aW (.tmp 6) (Qw aG) (OS aG) (M9 aG) (Sf (λg w=>kn (g 2) (g 1000003) w) no []) g w
theorem xN(kn:K2)(hn:N2 Q kn 2 1000003)(h:iY kn (g 2) (g 6) (g 1000003) w):eF pg cJ (bI (aM 1 (bJ 1 (aM 1 aG)))) Q g w:=
 S5 (kr:=no) (l:=[]) (h g rfl rfl rfl) hn Gt trivial
def qW(kn:K3) GP JG t1000003 w:=
 kn JG GP t1000003 w
def lV(kn:K2) GP JG t1000003 w:=
 qW (iY kn) GP JG t1000003 w
def lW(R:K1) GP JG t1000003 w:=
 lV (iX R) GP JG t1000003 w
theorem xO(kn:K2)(hn:N2 Q kn 2 1000003)(h:lV kn (g 1) (g 2) (g 1000003) w):eF pg cJ (bJ 1 (aM 1 aG)) Q g w:=
 jS 1 (oT (Kt (iY kn) 2 6 1000003) h (λg w h=>aI (B7 0 (xN _ g w kn hn h))))
def qX(kn:K3) SU GP t1000003 w:=
 aB pg (zZ 53 SU) w λJG w=>
 kn GP JG t1000003 w
def qY(R:K1) SU GP t1000003 w:=
 qX (lW R) SU GP t1000003 w
def tS a0 a1 w(R:K1):=
 qY R a0 a1 undef w
theorem zJ{a0 a1 w R}(h:tS a0 a1 w R):aH pg aW #[a0,a1] w R:=
 Ug (ann:=cJ) Try.f46 aG [a0,a1] A6 13 TryM.mixed Try.func46 (jS 1 (oT (Kt (lW R) 1 2 1000003) h (λg w h=>aI (jS 1 (xO _ g w (iX R) (λg w h=>aI (wM h jH)) h)))))
def iP:FA:=⟨aY,λi=>match Nat.beq i 17 with|true=> .leaf ([12],[]) (fz 12 (ft [] (fz 2 [])))|false=> .leaf ([],[]) []⟩
def jB:List ResultVar:=[]
noncomputable def iC:Code:=bH Try.f47
def dQ(kn:K6)(k1:K6) aA bA cS cC aU aR mU wA w:=
 (dr w)=(dr w)/\
 aB pg (aE .gtr 3 aK aK bA (V4 0)) (dr w) λl4 w_=>w_=(dr w)/\
 (dr w)=(dr w)/\
 Gd (bB l4 true) (λK=>K aA (dr w)) (dr w) λl6 w_=>w_=(dr w)/\
 Gd (bB l4 true) (λK=>K bA (dr w)) (dr w) λl7 w_=>w_=(dr w)/\
 Gd (bB l4 true) (λK=>aB pg (aE .sub 3 aK aK l7 (V4 1)) (dr w) K) (dr w) λl8 w_=>w_=(dr w)/\
 Gd (bB l4 true) (λK=>aB pg (aL 53 l6 l8) (dr w) K) (dr w) λl9 w_=>w_=(dr w)/\
 Gd (bB l4 true) (λK=>aB pg (aD 9 l9) (dr w) K) (dr w) λm0 w_=>w_=(dr w)/\
 Gd (bB l4 true) (λK=>K aA (dr w)) (dr w) λm1 w_=>w_=(dr w)/\
 Gd (bB l4 true) (λK=>K wA (dr w)) (dr w) λm2 w_=>w_=(dr w)/\
 Gd (bB l4 true) (λK=>aB pg (aL 53 m1 m2) (dr w) K) (dr w) λm3 w_=>w_=(dr w)/\
 Gd (bB l4 true) (λK=>aB pg (aD 9 m3) (dr w) K) (dr w) λm4 w_=>w_=(dr w)/\
 Gd (bB l4 true) (λK=>aH pg bM #[m0,m4] (dr w) K) (dr w) λm5 FT=>
 Gd (bB l4 true) (λK=>aB pg (HU .not m5) FT K) FT λm6 w_=>w_=FT/\
 aB pg (dV l4 m6 (.bool false)) FT λm7 w_=>w_=FT/\
 eT m7
  (aH pg qQ #[aA,bA,cS,wA] FT λn2 w=>
  k1 aA n2 cS cC aU aR w)
  (aH pg cX #[aA,bA,cS,wA] FT λn9 w=>
  aB pg (cA n9 0) w λo0 w=>
  aB pg (cA n9 1) w λo1 w=>
  aB pg (aE .sub 3 aK aK o0 bA) w λo5 w=>
  aB pg (aE .sub 3 aK aK cS o0) w λo8 w=>
  aB pg (aE .quo 3 aK aK mU (V4 8)) w λp0 w=>
  aB pg (aE .lss 3 aK aK o5 o8) w λp3 w=>
  eT p3
   (aB pg (aE .geq 3 aK aK o5 p0) w λp6 w=>
   aH pg aY #[aA,bA,o0,cC] w λq1 w=>
   aB pg (aE .add 3 aK aK o0 (V4 1)) w λq3 w=>
   kn aA q3 cS cC p6 o1 w)
   (aB pg (aE .geq 3 aK aK o8 p0) w λq6 w=>
   aB pg (aE .add 3 aK aK o0 (V4 1)) w λq9 w=>
   aH pg aY #[aA,q9,cS,cC] w λs2 w=>
   kn aA bA o0 cC q6 o1 w))
def nN(kn:K8)(R:K1) aA bA cS cC aU aR mU wA KE w:=
 Gd (bB aU true) (λK=>K aR w) w λj3 w=>
 aB pg (dV aU j3 (.bool false)) w λj4 w=>
 Gd (bB j4 true) (λK=>K KE w) w λj6 w=>
 Gd (bB j4 true) (λK=>aB pg (aE .eql 96 (.tmp 66) (.const (V4 1)) j6 (V4 1)) w K) w λj7 w=>
 aB pg (dV j4 j7 (.bool false)) w λj8 w=>
 eT j8
  (aH pg bZ #[aA,bA,cS] w λl2 w=>
  eT l2
   (R (.tuple #[]) w)
   (kn aA bA cS cC aU aR mU wA w))
  (kn aA bA cS cC aU aR mU wA w)
def fD(kn:K6)(k1:K6)(R:K1) aA bA cS cC aU aR mU wA KE w:=
 nN (dQ kn k1) R aA bA cS cC aU aR mU wA KE w
def nO(kn:K9) aA bA cS cC aU aR mU w:=
 aH pg dZ #[aA,bA,cS] w λf6 w=>
 aB pg (cA f6 0) w λf7 w=>
 aB pg (cA f6 1) w λf8 w=>
 aB pg (aE .eql 96 (.tmp 49) (.const (V4 2)) f8 (V4 2)) w λi0 w=>
 eT i0
  (aH pg dW #[aA,bA,cS] w λi4 w=>
  aB pg (aE .sub 3 aK aK cS (V4 1)) w λi6 w=>
  aB pg (aE .sub 3 aK aK f7 bA) w λi9 w=>
  aB pg (aE .sub 3 aK aK i6 i9) w λj0 w=>
  kn aA bA cS cC aU aR mU j0 (V4 1) w)
  (kn aA bA cS cC aU aR mU f7 f8 w)
def dR(kn:K6)(k1:K6)(R:K1) aA bA cS cC aU aR mU w:=
 nO (fD kn k1 R) aA bA cS cC aU aR mU w
def fE(kn:K7)(R:K1) aA bA cS cC aU aR w:=
 aB pg (aE .sub 3 aK aK cS bA) w λd1 w=>
 aB pg (aE .leq 3 aK aK d1 (V4 12)) w λd3 w=>
 eT d3
  (aH pg aZ #[aA,bA,cS] w λd7 w=>
  R (.tuple #[]) w)
  (aB pg (aE .eql 3 (.tmp 28) (.const (V4 0)) cC (V4 0)) w λd9 w=>
  eT d9
   (aH pg fC #[aA,bA,cS] w λe3 w=>
   R (.tuple #[]) w)
   (aB pg (HU .not aU) w λe5 w=>
   eT e5
    (aH pg dS #[aA,bA,cS] w λe9 w=>
    aB pg (aE .sub 3 aK aK cC (V4 1)) w λf1 w=>
    kn aA bA cS f1 aU aR d1 w)
    (kn aA bA cS cC aU aR d1 w)))
def fF(kn:K6)(k1:K6)(R:K1) aA bA cS cC aU aR w:=
 fE (dR kn k1 R) R aA bA cS cC aU aR w
def cF(kn:K6)(R:K1) aA bA cS cC aU aR w:=
 fF kn kn R aA bA cS cC aU aR w
def cG(R:K1) aA bA cS cC aU aR w:=
 bG (λ(X:(V3×V3×V3×V3×V3)->K0) (t:V3×V3×V3×V3×V3) (w:V2)=>cF (λ_ bA cS cC aU aR w=>X (bA,cS,cC,aU,aR) w) R aA t.1 t.2.1 t.2.2.1 t.2.2.2.1 t.2.2.2.2 w) (bA,cS,cC,aU,aR) w
theorem tL(kn:K6)(R:K1)(hn:N6 Q kn 0 1 2 3 8 9)(hr:HR jB R Q)(h:cF kn R (g 0) (g 1) (g 2) (g 3) (g 8) (g 9) w):eF pg iP (bI (bI (aM 2 iC))) Q g w:=
 B7 1 (jS 4 (Pb (TP (dR kn kn R) 0 1 2 3 8 9 10) h (λg w h=>aI (jS 2 (oT (Ue (fD kn kn R) 0 1 2 3 8 9 10 11 12) h (λg w h=>aI (jS 1 (Pb (Ud (dQ kn kn) 0 1 2 3 8 9 10 11) h (λg w h=>aI (FV [(1,(Lk kn 0 1 2 3 8 9))] (kr:=no) _ h hn Gt ⟨hn,trivial⟩)) hr)))))) hr))
theorem tM(R:K1)(hr:HR jB R Q)(h:cG R (g 0) (g 1) (g 2) (g 3) (g 8) (g 9) w):eF pg iP (bI (aM 2 iC)) Q g w:=by
 refine FX (λg:Env=>(g 1,g 2,g 3,g 8,g 9)) (λX t w=>cF (λ_ bA cS cC aU aR w=>X (bA,cS,cC,aU,aR) w) R (g 0) t.1 t.2.1 t.2.2.1 t.2.2.2.1 t.2.2.2.2 w) h (λX g1 w1 ha hL=> ?_)
 rw[<-lT 0 ha]at hL
 exact(tL _ g1 w1 (λ_ bA cS cC aU aR w=>X (bA,cS,cC,aU,aR) w) R jH hr hL)
def eL(kn:K6) aA bA cS cC w:=
 kn aA bA cS cC (.bool true) (.bool true) w
def eP(R:K1) aA bA cS cC w:=
 eL (cG R) aA bA cS cC w
def hJ a0 a1 a2 a3 w(R:K1):=
 eP R a0 a1 a2 a3 w
theorem iK{a0 a1 a2 a3 w R}(h:hJ a0 a1 a2 a3 w R):aH pg aY #[a0,a1,a2,a3] w R:=
 uE (ann:=iP) Try.f47 iC [a0,a1,a2,a3] jB 134 TryM.mixed Try.func47 (jS 2 (oT (Lk (cG R) 0 1 2 3 8 9) h (λg w h=>aI (B7 0 (tM _ g w R jH h)))))
def F3:FA:=⟨oH,λi=> .leaf ([],[]) []⟩
def Hu:List ResultVar:=[.tmp 2]
noncomputable def Fp:Code:=bH Try.f48
def Bw(R:K1) FU w:=
 eT (.bool false)
  (aB pg (qI 94 105 FU) w λb4 w=>
  aH pg FZ #[b4] w λb5 w=>
  R b5 w)
  (aH pg pA #[FU] w λb7 w=>
  R b7 w)
def EG a0 w(R:K1):=
 Bw R a0 w
theorem Fz{a0 w R}(h:EG a0 w R):aH pg oH #[a0] w R:=
 uE (ann:=F3) Try.f48 Fp [a0] Hu 8 TryM.mixed Try.func48 (wM h jH)
def cU:FA:=⟨aZ,λi=>match Nat.beq i 4 with|true=> .leaf ([13],[]) (fz 13 (ft [] (fz 1 [])))|false=>match Nat.beq i 6 with|true=> .leaf ([15,17],[(4,15)]) (fz 15 (ft [10] (fz 1 (ft [] []))))|false=> .leaf ([],[]) []⟩
def qV:List ResultVar:=[]
noncomputable def cO:Code:=bH Try.f49
def dC(kn:K4) aA bA cS qR w:=
 aB pg (aE .add 3 aK aK qR (V4 1)) w λc4 w=>
 kn aA bA cS c4 w
def fL(kn:K5)(k2:K4) aA bA cS qR FW w:=
 (dr w)=(dr w)/\
 (dr w)=(dr w)/\
 aB pg (aE .gtr 3 aK aK FW bA) (dr w) λc8 w_=>w_=(dr w)/\
 (dr w)=(dr w)/\
 Gd (bB c8 true) (λK=>K aA (dr w)) (dr w) λd0 w_=>w_=(dr w)/\
 Gd (bB c8 true) (λK=>K FW (dr w)) (dr w) λd1 w_=>w_=(dr w)/\
 Gd (bB c8 true) (λK=>aB pg (aL 53 d0 d1) (dr w) K) (dr w) λd2 w_=>w_=(dr w)/\
 Gd (bB c8 true) (λK=>aB pg (aD 9 d2) (dr w) K) (dr w) λd3 w_=>w_=(dr w)/\
 Gd (bB c8 true) (λK=>K aA (dr w)) (dr w) λd4 w_=>w_=(dr w)/\
 Gd (bB c8 true) (λK=>K FW (dr w)) (dr w) λd5 w_=>w_=(dr w)/\
 Gd (bB c8 true) (λK=>aB pg (aE .sub 3 aK aK d5 (V4 1)) (dr w) K) (dr w) λd6 w_=>w_=(dr w)/\
 Gd (bB c8 true) (λK=>aB pg (aL 53 d4 d6) (dr w) K) (dr w) λd7 w_=>w_=(dr w)/\
 Gd (bB c8 true) (λK=>aB pg (aD 9 d7) (dr w) K) (dr w) λd8 w_=>w_=(dr w)/\
 Gd (bB c8 true) (λK=>aH pg bM #[d3,d8] (dr w) K) (dr w) λd9 jG=>
 aB pg (dV c8 d9 (.bool false)) jG λe0 w_=>w_=jG/\
 eT e0
  ((dr jG)=(dr jG)/\
  (dr jG)=(dr jG)/\
  (dr jG)=(dr jG)/\
  (dr jG)=(dr jG)/\
  aB pg (aE .sub 3 aK aK FW (V4 1)) (dr jG) λe7 w_=>w_=(dr jG)/\
  (dr jG)=(dr jG)/\
  (dr jG)=(dr jG)/\
  aB pg (aE .sub 3 aK aK FW (V4 1)) (dr jG) λf0 w_=>w_=(dr jG)/\
  aB pg (aL 53 aA f0) (dr jG) λf1 w_=>w_=(dr jG)/\
  aB pg (aD 9 f1) (dr jG) λf2 w_=>w_=(dr jG)/\
  (dr jG)=(dr jG)/\
  (dr jG)=(dr jG)/\
  aB pg (aL 53 aA FW) (dr jG) λf5 w_=>w_=(dr jG)/\
  aB pg (aD 9 f5) (dr jG) λf6 w_=>w_=(dr jG)/\
  aB pg (aL 53 aA FW) (dr jG) λf7 w_=>w_=(dr jG)/\
  aB pg (aO 9 f7 f2) (dr jG) λ_u15 Ol=>
  (tZ pg (aE .sub 3 aK aK FW (V4 1)) e7 Ol/\True)/\
  aB pg (aL 53 aA e7) Ol λf8 w_=>w_=Ol/\
  aB pg (aO 9 f8 f6) Ol λ_u17 TC=>
  aB pg (aE .sub 3 aK aK FW (V4 1)) TC λe2 w=>
  kn aA bA cS qR e2 w)
  (k2 aA bA cS qR jG)
def dD(k2:K4) aA bA cS qR FW w:=
 bG (λ(X:V3->K0) (t:V3) (w:V2)=>fL (λ_ _ _ _ FW w=>X FW w) k2 aA bA cS qR t w) FW w
theorem pQ(k2:K4)(h2:E4 Q k2 2 0 1 2 6)(h:dD k2 (g 0) (g 1) (g 2) (g 6) (g 7) w):eF pg cU (bI (aM 1 (bI (bJ 1 (aM 1 (bI (bI (aM 1 cO)))))))) Q g w:=by
 refine FX (λg:Env=>g 7) (λX t w=>fL (λ_ _ _ _ FW w=>X FW w) k2 (g 0) (g 1) (g 2) (g 6) t w) h (λX g1 w1 ha hL=> ?_)
 rw[<-lT 0 ha,<-lT 1 ha,<-lT 2 ha,<-lT 6 ha]at hL
 exact(FV [(2,(Cq k2 0 1 2 6))] (kr:=no) (IC (λ_ _ _ _ FW w=>X FW w) 0 1 2 6 7) hL jH Gt ⟨h2,trivial⟩)
def kD(kn:K5) aA bA cS qR w:=
 kn aA bA cS qR qR w
def fM(kn:K4) aA bA cS qR w:=
 kD (dD kn) aA bA cS qR w
def fN(kn:K4) aA bA cS qR w:=
 fM (dC kn) aA bA cS qR w
theorem pR(kn:K4)(hn:N4 Q kn 0 1 2 6)(h:fM kn (g 0) (g 1) (g 2) (g 6) w):eF pg cU (bJ 1 (aM 1 (bI (bI (aM 1 cO))))) Q g w:=
 B7 1 (jS 1 (oT (IC (dD kn) 0 1 2 6 7) h (λg w h=>aI (B7 2 (pQ _ g w kn hn h)))))
def fO(kn:K4)(k0:K0) aA bA cS qR w:=
 aB pg (aE .lss 3 aK aK qR cS) w λc2 w=>
 eT c2
  (kn aA bA cS qR w)
  (k0 w)
def cW(kn:K4)(k0:K0) aA bA cS qR w:=
 fO (fN kn) k0 aA bA cS qR w
def bV(k0:K0) aA bA cS qR w:=
 bG (λ(X:V3->K0) (t:V3) (w:V2)=>cW (λ_ _ _ qR w=>X qR w) k0 aA bA cS t w) qR w
theorem pD(k0:K0)(h0:E0 Q k0 0)(h:bV k0 (g 0) (g 1) (g 2) (g 6) w):eF pg cU (bI (aM 1 cO)) Q g w:=by
 refine FX (λg:Env=>g 6) (λX t w=>cW (λ_ _ _ qR w=>X qR w) k0 (g 0) (g 1) (g 2) t w) h (λX g1 w1 ha hL=> ?_)
 rw[<-lT 0 ha,<-lT 1 ha,<-lT 2 ha]at hL
 exact(jS 1 (FV [(0,(MA k0))] (kr:=no) (Cq (fN (λ_ _ _ qR w=>X qR w)) 0 1 2 6) hL (λg w h=>aI (jS 1 (pR _ g w (dC (λ_ _ _ qR w=>X qR w)) (λg w h=>aI (oT (Cq (λ_ _ _ qR w=>X qR w) 0 1 2 6) h jH)) h))) Gt ⟨h0,trivial⟩))
def eZ(kn:K4) aA bA cS w:=
 aB pg (aE .add 3 aK aK bA (V4 1)) w λb9 w=>
 kn aA bA cS b9 w
def fA(kn:K0) aA bA cS w:=
 eZ (bV kn) aA bA cS w
def gR a0 a1 a2 w(R:K1):=
 fA (λw=>R (.tuple #[]) w) a0 a1 a2 w
theorem jD{a0 a1 a2 w R}(h:gR a0 a1 a2 w R):aH pg aZ #[a0,a1,a2] w R:=
 uE (ann:=cU) Try.f49 cO [a0,a1,a2] qV 49 TryM.mixed Try.func49 (jS 1 (oT (Cq (bV (λw=>R (.tuple #[]) w)) 0 1 2 6) h (λg w h=>aI (B7 0 (pD _ g w (λw=>R (.tuple #[]) w) jH h)))))
def eE:FA:=⟨fC,λi=>match Nat.beq i 10 with|true=> .leaf ([17,19],[(5,17)]) (fz 17 (ft [11] (fz 1 (ft [] []))))|false=> .leaf ([],[]) []⟩
def uP:List ResultVar:=[]
noncomputable def eA:Code:=bH Try.f50
def iQ(kn:K4)(k2:K0) aA fP BQ bE w:=
 aB pg (aE .geq 3 aK aK bE (V4 0)) w λe0 w=>
 eT e0
  ((dr w)=(dr w)/\
  (dr w)=(dr w)/\
  (dr w)=(dr w)/\
  (dr w)=(dr w)/\
  (dr w)=(dr w)/\
  aB pg (aE .add 3 aK aK fP bE) (dr w) λe8 w_=>w_=(dr w)/\
  (dr w)=(dr w)/\
  (dr w)=(dr w)/\
  (dr w)=(dr w)/\
  aB pg (aE .add 3 aK aK fP bE) (dr w) λf2 w_=>w_=(dr w)/\
  aB pg (aL 53 aA f2) (dr w) λf3 w_=>w_=(dr w)/\
  aB pg (aD 9 f3) (dr w) λf4 w_=>w_=(dr w)/\
  (dr w)=(dr w)/\
  (dr w)=(dr w)/\
  aB pg (aL 53 aA fP) (dr w) λf7 w_=>w_=(dr w)/\
  aB pg (aD 9 f7) (dr w) λf8 w_=>w_=(dr w)/\
  aB pg (aL 53 aA fP) (dr w) λf9 w_=>w_=(dr w)/\
  aB pg (aO 9 f9 f4) (dr w) λ_u17 B2=>
  (tZ pg (aE .add 3 aK aK fP bE) e8 B2/\True)/\
  aB pg (aL 53 aA e8) B2 λi0 w_=>w_=B2/\
  aB pg (aO 9 i0 f8) B2 λ_u19 Nu=>
  aH pg dO #[aA,BQ,bE,fP] Nu λi5 w=>
  aB pg (aE .sub 3 aK aK bE (V4 1)) w λe2 w=>
  kn aA fP BQ e2 w)
  (k2 w)
def eJ(k2:K0) aA fP BQ bE w:=
 bG (λ(X:V3->K0) (t:V3) (w:V2)=>iQ (λ_ _ _ bE w=>X bE w) k2 aA fP BQ t w) bE w
theorem sQ(k2:K0)(h2:E0 Q k2 2)(h:eJ k2 (g 0) (g 6) (g 7) (g 10) w):eF pg eE (bI (aM 1 (aM 1 (aM 3 eA)))) Q g w:=by
 refine FX (λg:Env=>g 10) (λX t w=>iQ (λ_ _ _ bE w=>X bE w) k2 (g 0) (g 6) (g 7) t w) h (λX g1 w1 ha hL=> ?_)
 rw[<-lT 0 ha,<-lT 6 ha,<-lT 7 ha]at hL
 exact(FV [(2,(MA k2))] (kr:=no) (Cq (λ_ _ _ bE w=>X bE w) 0 6 7 10) hL jH Gt ⟨h2,trivial⟩)
def mY(kn:K4) aA fP BQ El w:=
 aB pg (aE .sub 3 aK aK El (V4 1)) w λd8 w=>
 kn aA fP BQ d8 w
def iR(kn:K0) aA fP BQ El w:=
 mY (eJ kn) aA fP BQ El w
def iS(kn:K5)(k0:K4) aA fP BQ El PU w:=
 aB pg (aE .geq 3 aK aK PU (V4 0)) w λc9 w=>
 eT c9
  (aH pg dO #[aA,PU,El,fP] w λd6 w=>
  aB pg (aE .sub 3 aK aK PU (V4 1)) w λd1 w=>
  kn aA fP BQ El d1 w)
  (k0 aA fP BQ El w)
def eK(k0:K4) aA fP BQ El PU w:=
 bG (λ(X:V3->K0) (t:V3) (w:V2)=>iS (λ_ _ _ _ PU w=>X PU w) k0 aA fP BQ El t w) PU w
theorem sR(k0:K4)(h0:E4 Q k0 0 0 6 7 8)(h:eK k0 (g 0) (g 6) (g 7) (g 8) (g 9) w):eF pg eE (bI (aM 1 (bJ 1 (aM 3 eA)))) Q g w:=by
 refine FX (λg:Env=>g 9) (λX t w=>iS (λ_ _ _ _ PU w=>X PU w) k0 (g 0) (g 6) (g 7) (g 8) t w) h (λX g1 w1 ha hL=> ?_)
 rw[<-lT 0 ha,<-lT 6 ha,<-lT 7 ha,<-lT 8 ha]at hL
 exact(FV [(0,(Cq k0 0 6 7 8))] (kr:=no) (IC (λ_ _ _ _ PU w=>X PU w) 0 6 7 8 9) hL jH Gt ⟨h0,trivial⟩)
def mZ(kn:K5) aA fP BQ El w:=
 aB pg (aE .sub 3 aK aK El (V4 1)) w λc6 w=>
 aB pg (aE .quo 3 aK aK c6 (V4 2)) w λc7 w=>
 kn aA fP BQ El c7 w
def iD(kn:K4) aA fP BQ El w:=
 mZ (eK kn) aA fP BQ El w
def iE(kn:K0) aA fP BQ El w:=
 iD (iR kn) aA fP BQ El w
theorem rY(kn:K4)(hn:N4 Q kn 0 6 7 8)(h:iD kn (g 0) (g 6) (g 7) (g 8) w):eF pg eE (bJ 1 (aM 3 eA)) Q g w:=
 jS 1 (oT (IC (eK kn) 0 6 7 8 9) h (λg w h=>aI (B7 0 (sR _ g w kn hn h))))
def mG(kn:K4) aA bA cS w:=
 aB pg (aE .sub 3 aK aK cS bA) w λc4 w=>
 kn aA bA (V4 0) c4 w
def mH(kn:K0) aA bA cS w:=
 mG (iE kn) aA bA cS w
def pB a0 a1 a2 w(R:K1):=
 mH (λw=>R (.tuple #[]) w) a0 a1 a2 w
theorem tK{a0 a1 a2 w R}(h:pB a0 a1 a2 w R):aH pg fC #[a0,a1,a2] w R:=
 uE (ann:=eE) Try.f50 eA [a0,a1,a2] uP 56 TryM.mixed Try.func50 (jS 3 (oT (Cq (iE (λw=>R (.tuple #[]) w)) 0 6 7 8) h (λg w h=>aI (jS 1 (rY _ g w (iR (λw=>R (.tuple #[]) w)) (λg w h=>aI (jS 1 (oT (Cq (eJ (λw=>R (.tuple #[]) w)) 0 6 7 10) h (λg w h=>aI (B7 2 (sQ _ g w (λw=>R (.tuple #[]) w) jH h)))))) h)))))
def eX:FA:=⟨dS,λi=>match Nat.beq i 10 with|true=> .leaf ([17,19],[(5,17)]) (fz 17 (ft [11] (fz 1 (ft [] []))))|false=> .leaf ([],[]) []⟩
def qU:List ResultVar:=[]
noncomputable def eI:Code:=bH Try.f51
def cZ(kn:K6) aA bA cP fW fV kJ w:=
 aB pg (aE .add 3 aK aK kJ (V4 1)) w λe5 w=>
 kn aA bA cP fW fV e5 w
def dA(kn:K6) aA bA cP fW fV kJ I7 w:=
 (dr w)=(dr w)/\
 (dr w)=(dr w)/\
 (dr w)=(dr w)/\
 (dr w)=(dr w)/\
 (dr w)=(dr w)/\
 aB pg (aE .add 3 aK aK bA I7) (dr w) λi2 w_=>w_=(dr w)/\
 (dr w)=(dr w)/\
 (dr w)=(dr w)/\
 (dr w)=(dr w)/\
 aB pg (aE .add 3 aK aK bA I7) (dr w) λi6 w_=>w_=(dr w)/\
 aB pg (aL 53 aA i6) (dr w) λi7 w_=>w_=(dr w)/\
 aB pg (aD 9 i7) (dr w) λi8 w_=>w_=(dr w)/\
 (dr w)=(dr w)/\
 (dr w)=(dr w)/\
 aB pg (aL 53 aA kJ) (dr w) λj1 w_=>w_=(dr w)/\
 aB pg (aD 9 j1) (dr w) λj2 w_=>w_=(dr w)/\
 aB pg (aL 53 aA kJ) (dr w) λj3 w_=>w_=(dr w)/\
 aB pg (aO 9 j3 i8) (dr w) λ_u17 B2=>
 (tZ pg (aE .add 3 aK aK bA I7) i2 B2/\True)/\
 aB pg (aL 53 aA i2) B2 λj4 w_=>w_=B2/\
 aB pg (aO 9 j4 j2) B2 λ_u19 Nu=>
 kn aA bA cP fW fV kJ Nu
def kB(kn:K7) aA bA cP fW fV kJ w:=
 aH pg jT #[fW] w λe6 w=>
 aB pg (aE .sub 94 aK aK fV (.int .u64 1)) w λe8 w=>
 aB pg (aE .and 94 aK aK e6 e8) w λe9 w=>
 aB pg (qI 94 3 e9) w λf0 w=>
 aB pg (aE .geq 3 aK aK f0 cP) w λf3 w=>
 eT f3
  (aB pg (aE .sub 3 aK aK f0 cP) w λf6 w=>
  kn aA bA cP fW fV kJ f6 w)
  (kn aA bA cP fW fV kJ f0 w)
def fI(kn:K6) aA bA cP fW fV kJ w:=
 kB (dA kn) aA bA cP fW fV kJ w
def fJ(kn:K6) aA bA cP fW fV kJ w:=
 fI (cZ kn) aA bA cP fW fV kJ w
theorem pO(kn:K6)(hn:N6 Q kn 0 1 6 7 8 9)(h:fI kn (g 0) (g 1) (g 6) (g 7) (g 8) (g 9) w):eF pg eX (bJ 1 (aM 1 (bI (bI (aM 3 (cT (aM 2 eI))))))) Q g w:=
 B7 1 (jS 2 (oT (TP (dA kn) 0 1 6 7 8 9 10) h (λg w h=>aI (oT _ h hn))))
def kC(kn:K6)(k0:K0) aA bA cP fW fV kJ w:=
 aB pg (aE .quo 3 aK aK cP (V4 4)) w λd9 w=>
 aB pg (aE .mul 3 aK aK d9 (V4 2)) w λe0 w=>
 aB pg (aE .add 3 aK aK bA e0) w λe1 w=>
 aB pg (aE .add 3 aK aK e1 (V4 1)) w λe2 w=>
 aB pg (aE .leq 3 aK aK kJ e2) w λe3 w=>
 eT e3
  (kn aA bA cP fW fV kJ w)
  (k0 w)
def fK(kn:K6)(k0:K0) aA bA cP fW fV kJ w:=
 kC (fJ kn) k0 aA bA cP fW fV kJ w
def dB(k0:K0) aA bA cP fW fV kJ w:=
 bG (λ(X:V3->K0) (t:V3) (w:V2)=>fK (λ_ _ _ _ _ kJ w=>X kJ w) k0 aA bA cP fW fV t w) kJ w
theorem pP(k0:K0)(h0:E0 Q k0 0)(h:dB k0 (g 0) (g 1) (g 6) (g 7) (g 8) (g 9) w):eF pg eX (bI (aM 3 (cT (aM 2 eI)))) Q g w:=by
 refine FX (λg:Env=>g 9) (λX t w=>fK (λ_ _ _ _ _ kJ w=>X kJ w) k0 (g 0) (g 1) (g 6) (g 7) (g 8) t w) h (λX g1 w1 ha hL=> ?_)
 rw[<-lT 0 ha,<-lT 1 ha,<-lT 6 ha,<-lT 7 ha,<-lT 8 ha]at hL
 exact(jS 1 (FV [(0,(MA k0))] (kr:=no) (Lk (fJ (λ_ _ _ _ _ kJ w=>X kJ w)) 0 1 6 7 8 9) hL (λg w h=>aI (jS 1 (pO _ g w (cZ (λ_ _ _ _ _ kJ w=>X kJ w)) (λg w h=>aI (oT (Lk (λ_ _ _ _ _ kJ w=>X kJ w) 0 1 6 7 8 9) h jH)) h))) Gt ⟨h0,trivial⟩))
def jN(kn:K6) aA bA cP w:=
 aB pg (qI 3 108 cP) w λc7 w=>
 aB pg (lE 108) w λfW w=>
 aB pg (aO 108 fW c7) w λ_u w=>
 aH pg jC #[cP] w λc9 w=>
 aB pg (aE .quo 3 aK aK cP (V4 4)) w λd2 w=>
 aB pg (aE .mul 3 aK aK d2 (V4 2)) w λd3 w=>
 aB pg (aE .add 3 aK aK bA d3) w λd4 w=>
 aB pg (aE .sub 3 aK aK d4 (V4 1)) w λd5 w=>
 kn aA bA cP fW c9 d5 w
def jO(kn:K0) aA bA cP w:=
 jN (dB kn) aA bA cP w
def jP(kn:K0) w:=
 kn w
def cV(kn:K0) aA bA cP c5 w:=
 eT c5 (jO kn aA bA cP w) (jP kn w)
def jQ(kn:K4) aA bA cS w:=
 aB pg (aE .sub 3 aK aK cS bA) w λc3 w=>
 aB pg (aE .geq 3 aK aK c3 (V4 8)) w λc5 w=>
 kn aA bA c3 c5 w
def jR(kn:K0) aA bA cS w:=
 jQ (cV kn) aA bA cS w
def lP a0 a1 a2 w(R:K1):=
 jR (λw=>R (.tuple #[]) w) a0 a1 a2 w
theorem pZ{a0 a1 a2 w R}(h:lP a0 a1 a2 w R):aH pg dS #[a0,a1,a2] w R:=
 uE (ann:=eX) Try.f51 eI [a0,a1,a2] qU 65 TryM.mixed Try.func51 (jS 2 (oT (Cq (cV (λw=>R (.tuple #[]) w)) 0 1 6 15) h (λg w h=>aI (QY (.tmp 15) (λh=>(jS 3 (oT (Lk (dB (λw=>R (.tuple #[]) w)) 0 1 6 7 8 9) h (λg w h=>aI (B7 0 (pP _ g w (λw=>R (.tuple #[]) w) jH h)))))) (λh=>(oT (MA (λw=>R (.tuple #[]) w)) h jH)) h))))
def kF:FA:=⟨dZ,λi=> .leaf ([],[]) []⟩
def sP:List ResultVar:=[.tmp 6,.tmp 7]
noncomputable def kA:Code:=bH Try.f52
def dX(R:K1) fQ bU w:=
 aB pg (aD 3 fQ) w λf9 w=>
 aB pg (aE .eql 3 (.tmp 49) (.const (V4 0)) f9 (V4 0)) w λi2 w=>
 eT i2
  (R (.tuple #[bU,(V4 1)]) w)
  (aB pg (aE .eql 3 (.tmp 49) (.const (V4 12)) f9 (V4 12)) w λi5 w=>
  eT i5
   (R (.tuple #[bU,(V4 2)]) w)
   (R (.tuple #[bU,(V4 0)]) w))
def gA(kn:K2) aA fQ bE bU Gk w:=
 aH pg fX #[aA,bE,bU,Gk,fQ] w λf8 w=>
 kn fQ f8 w
def kZ(kn:K5) aA Pf fQ bE bU Gk w:=
 aB pg (aE .geq 3 aK aK Pf (V4 50)) w λe4 w=>
 eT e4
  (aH pg fG #[aA,bE,fQ] w λe7 w=>
  aH pg fG #[aA,bU,fQ] w λf0 w=>
  aH pg fG #[aA,Gk,fQ] w λf3 w=>
  kn aA fQ e7 f0 f3 w)
  (kn aA fQ bE bU Gk w)
def lA(kn:K2) aA Pf fQ bE bU Gk w:=
 kZ (gA kn) aA Pf fQ bE bU Gk w
def lB(kn:K2) fQ bU w:=
 kn fQ bU w
def dY(kn:K2) aA Pf fQ bE bU Gk e2 w:=
 eT e2 (lA kn aA Pf fQ bE bU Gk w) (lB kn fQ bU w)
def lC(kn:K7) aA Pf fQ bE bU Gk w:=
 aB pg (aE .geq 3 aK aK Pf (V4 8)) w λe2 w=>
 kn aA Pf fQ bE bU Gk e2 w
def gB(kn:K2) aA Pf fQ bE bU Gk w:=
 lC (dY kn) aA Pf fQ bE bU Gk w
def gC(R:K1) aA Pf fQ bE bU Gk w:=
 gB (dX R) aA Pf fQ bE bU Gk w
theorem qK(kn:K2)(hn:N2 Q kn 9 11)(h:gB kn (g 0) (g 8) (g 9) (g 10) (g 11) (g 12) w):eF pg kF (bJ 1 (aM 6 kA)) Q g w:=
 jS 1 (oT (TP (dY kn) 0 8 9 10 11 12 32) h (λg w h=>aI (QY (.tmp 32) (λh=>(jS 1 (oT (IC (gA kn) 0 9 10 11 12) h (λg w h=>aI (oT _ h hn))))) (λh=>(oT _ h hn)) h)))
def kT(kn:K6) aA bA cS w:=
 aB pg (aE .sub 3 aK aK cS bA) w λc5 w=>
 aB pg (lE 3) w λfQ w=>
 aB pg (aE .quo 3 aK aK c5 (V4 4)) w λc8 w=>
 aB pg (aE .mul 3 aK aK c8 (V4 1)) w λc9 w=>
 aB pg (aE .add 3 aK aK bA c9) w λd0 w=>
 aB pg (aE .quo 3 aK aK c5 (V4 4)) w λd3 w=>
 aB pg (aE .mul 3 aK aK d3 (V4 2)) w λd4 w=>
 aB pg (aE .add 3 aK aK bA d4) w λd5 w=>
 aB pg (aE .quo 3 aK aK c5 (V4 4)) w λd8 w=>
 aB pg (aE .mul 3 aK aK d8 (V4 3)) w λd9 w=>
 aB pg (aE .add 3 aK aK bA d9) w λe0 w=>
 kn aA c5 fQ d0 d5 e0 w
def kU(R:K1) aA bA cS w:=
 kT (gC R) aA bA cS w
def mX a0 a1 a2 w(R:K1):=
 kU R a0 a1 a2 w
theorem qZ{a0 a1 a2 w R}(h:mX a0 a1 a2 w R):aH pg dZ #[a0,a1,a2] w R:=
 uE (ann:=kF) Try.f52 kA [a0,a1,a2] sP 57 TryM.mixed Try.func52 (jS 6 (oT (Lk (gC R) 0 8 9 10 11 12) h (λg w h=>aI (jS 1 (qK _ g w (dX R) (λg w h=>aI (wM h jH)) h)))))
def jZ:FA:=⟨dW,λi=>match Nat.beq i 3 with|true=> .leaf ([13,15],[]) (fz 13 (ft [] (fz 1 (ft [] []))))|false=> .leaf ([],[]) []⟩
def rX:List ResultVar:=[]
noncomputable def jM:Code:=bH Try.f53
def fR(kn:K3)(k0:K0) aA qR FW w:=
 aB pg (aE .lss 3 aK aK qR FW) w λc3 w=>
 eT c3
  ((dr w)=(dr w)/\
  (dr w)=(dr w)/\
  (dr w)=(dr w)/\
  (dr w)=(dr w)/\
  (dr w)=(dr w)/\
  (dr w)=(dr w)/\
  aB pg (aL 53 aA FW) (dr w) λd0 w_=>w_=(dr w)/\
  aB pg (aD 9 d0) (dr w) λd1 w_=>w_=(dr w)/\
  (dr w)=(dr w)/\
  (dr w)=(dr w)/\
  aB pg (aL 53 aA qR) (dr w) λd4 w_=>w_=(dr w)/\
  aB pg (aD 9 d4) (dr w) λd5 w_=>w_=(dr w)/\
  aB pg (aL 53 aA qR) (dr w) λd6 w_=>w_=(dr w)/\
  aB pg (aO 9 d6 d1) (dr w) λ_u13 QO=>
  aB pg (aL 53 aA FW) QO λd7 w_=>w_=QO/\
  aB pg (aO 9 d7 d5) QO λ_u15 TB=>
  aB pg (aE .add 3 aK aK qR (V4 1)) TB λd9 w=>
  aB pg (aE .sub 3 aK aK FW (V4 1)) w λe1 w=>
  kn aA d9 e1 w)
  (k0 w)
def dU(k0:K0) aA qR FW w:=
 bG (λ(X:(V3×V3)->K0) (t:V3×V3) (w:V2)=>fR (λ_ qR FW w=>X (qR,FW) w) k0 aA t.1 t.2 w) (qR,FW) w
theorem qA(k0:K0)(h0:E0 Q k0 0)(h:dU k0 (g 0) (g 6) (g 7) w):eF pg jZ (bI (aM 2 jM)) Q g w:=by
 refine FX (λg:Env=>(g 6,g 7)) (λX t w=>fR (λ_ qR FW w=>X (qR,FW) w) k0 (g 0) t.1 t.2 w) h (λX g1 w1 ha hL=> ?_)
 rw[<-lT 0 ha]at hL
 exact(FV [(0,(MA k0))] (kr:=no) (Kt (λ_ qR FW w=>X (qR,FW) w) 0 6 7) hL jH Gt ⟨h0,trivial⟩)
def kV(kn:K3) aA bA cS w:=
 aB pg (aE .sub 3 aK aK cS (V4 1)) w λc0 w=>
 kn aA bA c0 w
def kW(kn:K0) aA bA cS w:=
 kV (dU kn) aA bA cS w
def mI a0 a1 a2 w(R:K1):=
 kW (λw=>R (.tuple #[]) w) a0 a1 a2 w
theorem qL{a0 a1 a2 w R}(h:mI a0 a1 a2 w R):aH pg dW #[a0,a1,a2] w R:=
 uE (ann:=jZ) Try.f53 jM [a0,a1,a2] rX 32 TryM.mixed Try.func53 (jS 2 (oT (Kt (dU (λw=>R (.tuple #[]) w)) 0 6 7) h (λg w h=>aI (B7 0 (qA _ g w (λw=>R (.tuple #[]) w) jH h)))))
def aQ:FA:=⟨bZ,λi=>match Nat.beq i 5 with|true=> .leaf ([13],[]) (fz 13 (ft [] (fz 2 [])))|false=>match Nat.beq i 11 with|true=> .leaf ([15,17],[(4,15)]) (fz 15 (ft [10] (fz 1 (ft [] []))))|false=>match Nat.beq i 16 with|true=> .leaf ([9],[]) (fz 9 (ft [] (fz 1 [])))|false=>match Nat.beq i 17 with|true=> .leaf ([15,17],[(4,15)]) (fz 15 (ft [10] (fz 1 (ft [] []))))|false=>match Nat.beq i 22 with|true=> .leaf ([9],[]) (fz 9 (ft [] (fz 1 [])))|false=>match Nat.beq i 23 with|true=> .leaf ([15,17],[(4,15)]) (fz 15 (ft [10] (fz 1 (ft [] []))))|false=> .leaf ([],[]) []⟩
def bW:List ResultVar:=[.tmp 6]
noncomputable def aN:Code:=bH Try.f54
def gS(R:K1) w:=
 R (.bool false) w
def gT(kn:K5) aA bA cS iU pI w:=
 aB pg (aE .add 3 aK aK pI (V4 1)) w λc6 w=>
 kn aA bA cS iU c6 w
def gU(kn:K6)(k6:K5) aA bA cS iU pI Dh w:=
 aB pg (aE .lss 3 aK aK Dh cS) w λo3 w=>
 eT o3
  ((dr w)=(dr w)/\
  (dr w)=(dr w)/\
  aB pg (aL 53 aA Dh) (dr w) λo8 w_=>w_=(dr w)/\
  aB pg (aD 9 o8) (dr w) λo9 w_=>w_=(dr w)/\
  (dr w)=(dr w)/\
  (dr w)=(dr w)/\
  aB pg (aE .sub 3 aK aK Dh (V4 1)) (dr w) λp2 w_=>w_=(dr w)/\
  aB pg (aL 53 aA p2) (dr w) λp3 w_=>w_=(dr w)/\
  aB pg (aD 9 p3) (dr w) λp4 w_=>w_=(dr w)/\
  aH pg bM #[o9,p4] (dr w) λp5 jF=>
  aB pg (HU .not p5) jF λp6 w_=>w_=jF/\
  eT p6
   (k6 aA bA cS iU pI jF)
   ((dr jF)=(dr jF)/\
   (dr jF)=(dr jF)/\
   (dr jF)=(dr jF)/\
   (dr jF)=(dr jF)/\
   aB pg (aE .sub 3 aK aK Dh (V4 1)) (dr jF) λq1 w_=>w_=(dr jF)/\
   (dr jF)=(dr jF)/\
   (dr jF)=(dr jF)/\
   aB pg (aE .sub 3 aK aK Dh (V4 1)) (dr jF) λq4 w_=>w_=(dr jF)/\
   aB pg (aL 53 aA q4) (dr jF) λq5 w_=>w_=(dr jF)/\
   aB pg (aD 9 q5) (dr jF) λq6 w_=>w_=(dr jF)/\
   (dr jF)=(dr jF)/\
   (dr jF)=(dr jF)/\
   aB pg (aL 53 aA Dh) (dr jF) λq9 w_=>w_=(dr jF)/\
   aB pg (aD 9 q9) (dr jF) λs0 w_=>w_=(dr jF)/\
   aB pg (aL 53 aA Dh) (dr jF) λs1 w_=>w_=(dr jF)/\
   aB pg (aO 9 s1 q6) (dr jF) λ_u15 Lc=>
   (tZ pg (aE .sub 3 aK aK Dh (V4 1)) q1 Lc/\True)/\
   aB pg (aL 53 aA q1) Lc λs2 w_=>w_=Lc/\
   aB pg (aO 9 s2 s0) Lc λ_u17 SP=>
   aB pg (aE .add 3 aK aK Dh (V4 1)) SP λo5 w=>
   kn aA bA cS iU pI o5 w))
  (k6 aA bA cS iU pI w)
def dT(k6:K5) aA bA cS iU pI Dh w:=
 bG (λ(X:V3->K0) (t:V3) (w:V2)=>gU (λ_ _ _ _ _ Dh w=>X Dh w) k6 aA bA cS iU pI t w) Dh w
theorem mJ(k6:K5)(h6:E5 Q k6 6 0 1 2 7 8)(h:dT k6 (g 0) (g 1) (g 2) (g 7) (g 8) (g 10) w):eF pg aQ (bI (aM 1 (cT (aM 1 (aM 1 (aM 3 (aM 1 (bI (bJ 1 (aM 1 (bI (bI (aM 1 (bJ 1 (aM 2 aN))))))))))))))) Q g w:=by
 refine FX (λg:Env=>g 10) (λX t w=>gU (λ_ _ _ _ _ Dh w=>X Dh w) k6 (g 0) (g 1) (g 2) (g 7) (g 8) t w) h (λX g1 w1 ha hL=> ?_)
 rw[<-lT 0 ha,<-lT 1 ha,<-lT 2 ha,<-lT 7 ha,<-lT 8 ha]at hL
 exact(FV [(6,(IC k6 0 1 2 7 8))] (kr:=no) (Lk (λ_ _ _ _ _ Dh w=>X Dh w) 0 1 2 7 8 10) hL jH Gt ⟨h6,trivial⟩)
def oA(kn:K6) aA bA cS iU pI w:=
 aB pg (aE .add 3 aK aK iU (V4 1)) w λo0 w=>
 kn aA bA cS iU pI o0 w
def oB(kn:K5) aA bA cS iU pI w:=
 oA (dT kn) aA bA cS iU pI w
def oC(kn:K5) aA bA cS iU pI w:=
 kn aA bA cS iU pI w
def gV(kn:K5) aA bA cS iU pI n8 w:=
 eT n8 (oB kn aA bA cS iU pI w) (oC kn aA bA cS iU pI w)
def nI(kn:K6) aA bA cS iU pI w:=
 aB pg (aE .sub 3 aK aK cS iU) w λn7 w=>
 aB pg (aE .geq 3 aK aK n7 (V4 2)) w λn8 w=>
 kn aA bA cS iU pI n8 w
def gD(kn:K5) aA bA cS iU pI w:=
 nI (gV kn) aA bA cS iU pI w
def gE(kn:K6)(k4:K5) aA bA cS iU pI LL w:=
 aB pg (aE .geq 3 aK aK LL (V4 1)) w λj5 w=>
 eT j5
  ((dr w)=(dr w)/\
  (dr w)=(dr w)/\
  aB pg (aL 53 aA LL) (dr w) λl0 w_=>w_=(dr w)/\
  aB pg (aD 9 l0) (dr w) λl1 w_=>w_=(dr w)/\
  (dr w)=(dr w)/\
  (dr w)=(dr w)/\
  aB pg (aE .sub 3 aK aK LL (V4 1)) (dr w) λl4 w_=>w_=(dr w)/\
  aB pg (aL 53 aA l4) (dr w) λl5 w_=>w_=(dr w)/\
  aB pg (aD 9 l5) (dr w) λl6 w_=>w_=(dr w)/\
  aH pg bM #[l1,l6] (dr w) λl7 jE=>
  aB pg (HU .not l7) jE λl8 w_=>w_=jE/\
  eT l8
   (k4 aA bA cS iU pI jE)
   ((dr jE)=(dr jE)/\
   (dr jE)=(dr jE)/\
   (dr jE)=(dr jE)/\
   (dr jE)=(dr jE)/\
   aB pg (aE .sub 3 aK aK LL (V4 1)) (dr jE) λm3 w_=>w_=(dr jE)/\
   (dr jE)=(dr jE)/\
   (dr jE)=(dr jE)/\
   aB pg (aE .sub 3 aK aK LL (V4 1)) (dr jE) λm6 w_=>w_=(dr jE)/\
   aB pg (aL 53 aA m6) (dr jE) λm7 w_=>w_=(dr jE)/\
   aB pg (aD 9 m7) (dr jE) λm8 w_=>w_=(dr jE)/\
   (dr jE)=(dr jE)/\
   (dr jE)=(dr jE)/\
   aB pg (aL 53 aA LL) (dr jE) λn1 w_=>w_=(dr jE)/\
   aB pg (aD 9 n1) (dr jE) λn2 w_=>w_=(dr jE)/\
   aB pg (aL 53 aA LL) (dr jE) λn3 w_=>w_=(dr jE)/\
   aB pg (aO 9 n3 m8) (dr jE) λ_u15 Lb=>
   (tZ pg (aE .sub 3 aK aK LL (V4 1)) m3 Lb/\True)/\
   aB pg (aL 53 aA m3) Lb λn4 w_=>w_=Lb/\
   aB pg (aO 9 n4 n2) Lb λ_u17 SM=>
   aB pg (aE .sub 3 aK aK LL (V4 1)) SM λj7 w=>
   kn aA bA cS iU pI j7 w))
  (k4 aA bA cS iU pI w)
def dG(k4:K5) aA bA cS iU pI LL w:=
 bG (λ(X:V3->K0) (t:V3) (w:V2)=>gE (λ_ _ _ _ _ LL w=>X LL w) k4 aA bA cS iU pI t w) LL w
theorem lX(k4:K5)(h4:E5 Q k4 4 0 1 2 7 8)(h:dG k4 (g 0) (g 1) (g 2) (g 7) (g 8) (g 9) w):eF pg aQ (bI (aM 1 (cT (aM 1 (bJ 1 (aM 3 (aM 1 (bI (bJ 1 (aM 1 (bI (bI (aM 1 (bJ 1 (aM 2 aN))))))))))))))) Q g w:=by
 refine FX (λg:Env=>g 9) (λX t w=>gE (λ_ _ _ _ _ LL w=>X LL w) k4 (g 0) (g 1) (g 2) (g 7) (g 8) t w) h (λX g1 w1 ha hL=> ?_)
 rw[<-lT 0 ha,<-lT 1 ha,<-lT 2 ha,<-lT 7 ha,<-lT 8 ha]at hL
 exact(FV [(4,(IC k4 0 1 2 7 8))] (kr:=no) (Lk (λ_ _ _ _ _ LL w=>X LL w) 0 1 2 7 8 9) hL jH Gt ⟨h4,trivial⟩)
def nJ(kn:K6) aA bA cS iU pI w:=
 aB pg (aE .sub 3 aK aK iU (V4 1)) w λj3 w=>
 kn aA bA cS iU pI j3 w
def nK(kn:K5) aA bA cS iU pI w:=
 nJ (dG kn) aA bA cS iU pI w
def nL(kn:K5) aA bA cS iU pI w:=
 kn aA bA cS iU pI w
def gF(kn:K5) aA bA cS iU pI j1 w:=
 eT j1 (nK kn aA bA cS iU pI w) (nL kn aA bA cS iU pI w)
def nM(kn:K6) aA bA cS iU pI w:=
 aB pg (aE .sub 3 aK aK iU bA) w λj0 w=>
 aB pg (aE .geq 3 aK aK j0 (V4 2)) w λj1 w=>
 kn aA bA cS iU pI j1 w
def gG(kn:K5) aA bA cS iU pI w:=
 nM (gF kn) aA bA cS iU pI w
def gH(kn:K5) aA bA cS iU pI w:=
 gG (gD kn) aA bA cS iU pI w
theorem lY(kn:K5)(hn:N5 Q kn 0 1 2 7 8)(h:gG kn (g 0) (g 1) (g 2) (g 7) (g 8) w):eF pg aQ (bJ 1 (aM 3 (aM 1 (bI (bJ 1 (aM 1 (bI (bI (aM 1 (bJ 1 (aM 2 aN))))))))))) Q g w:=
 jS 1 (oT (Lk (gF kn) 0 1 2 7 8 61) h (λg w h=>aI (QY (.tmp 61) (λh=>(jS 1 (oT (Lk (dG kn) 0 1 2 7 8 9) h (λg w h=>aI (B7 4 (lX _ g w kn hn h)))))) (λh=>(oT _ h hn)) h)))
def dH(kn:K5)(R:K1) aA bA cS iU pI w:=
 aB pg (aE .eql 3 (.tmp 35) (.tmp 36) iU cS) w λe7 w=>
 eT e7
  (R (.bool true) w)
  (aB pg (aE .sub 3 aK aK cS bA) w λf0 w=>
  aB pg (aE .lss 3 aK aK f0 (V4 50)) w λf1 w=>
  eT f1
   (R (.bool false) w)
   ((dr w)=(dr w)/\
   (dr w)=(dr w)/\
   (dr w)=(dr w)/\
   (dr w)=(dr w)/\
   aB pg (aE .sub 3 aK aK iU (V4 1)) (dr w) λf6 w_=>w_=(dr w)/\
   (dr w)=(dr w)/\
   (dr w)=(dr w)/\
   aB pg (aE .sub 3 aK aK iU (V4 1)) (dr w) λf9 w_=>w_=(dr w)/\
   aB pg (aL 53 aA f9) (dr w) λi0 w_=>w_=(dr w)/\
   aB pg (aD 9 i0) (dr w) λi1 w_=>w_=(dr w)/\
   (dr w)=(dr w)/\
   (dr w)=(dr w)/\
   aB pg (aL 53 aA iU) (dr w) λi4 w_=>w_=(dr w)/\
   aB pg (aD 9 i4) (dr w) λi5 w_=>w_=(dr w)/\
   aB pg (aL 53 aA iU) (dr w) λi6 w_=>w_=(dr w)/\
   aB pg (aO 9 i6 i1) (dr w) λ_u15 KY=>
   (tZ pg (aE .sub 3 aK aK iU (V4 1)) f6 KY/\True)/\
   aB pg (aL 53 aA f6) KY λi7 w_=>w_=KY/\
   aB pg (aO 9 i7 i5) KY λ_u17 SK=>
   kn aA bA cS iU pI SK))
def bR(kn:K5)(R:K1) aA bA cS iU pI w:=
 dH (gH kn) R aA bA cS iU pI w
def dI(kn:K5)(k2:K5) aA bA cS iU pI w:=
 (dr w)=(dr w)/\
 (dr w)=(dr w)/\
 aB pg (aE .lss 3 aK aK iU cS) (dr w) λc9 w_=>w_=(dr w)/\
 (dr w)=(dr w)/\
 Gd (bB c9 true) (λK=>K aA (dr w)) (dr w) λd1 w_=>w_=(dr w)/\
 Gd (bB c9 true) (λK=>K iU (dr w)) (dr w) λd2 w_=>w_=(dr w)/\
 Gd (bB c9 true) (λK=>aB pg (aL 53 d1 d2) (dr w) K) (dr w) λd3 w_=>w_=(dr w)/\
 Gd (bB c9 true) (λK=>aB pg (aD 9 d3) (dr w) K) (dr w) λd4 w_=>w_=(dr w)/\
 Gd (bB c9 true) (λK=>K aA (dr w)) (dr w) λd5 w_=>w_=(dr w)/\
 Gd (bB c9 true) (λK=>K iU (dr w)) (dr w) λd6 w_=>w_=(dr w)/\
 Gd (bB c9 true) (λK=>aB pg (aE .sub 3 aK aK d6 (V4 1)) (dr w) K) (dr w) λd7 w_=>w_=(dr w)/\
 Gd (bB c9 true) (λK=>aB pg (aL 53 d5 d7) (dr w) K) (dr w) λd8 w_=>w_=(dr w)/\
 Gd (bB c9 true) (λK=>aB pg (aD 9 d8) (dr w) K) (dr w) λd9 w_=>w_=(dr w)/\
 Gd (bB c9 true) (λK=>aH pg bM #[d4,d9] (dr w) K) (dr w) λe0 JC=>
 Gd (bB c9 true) (λK=>aB pg (HU .not e0) JC K) JC λe1 w_=>w_=JC/\
 aB pg (dV c9 e1 (.bool false)) JC λe2 w_=>w_=JC/\
 eT e2
  (aB pg (aE .add 3 aK aK iU (V4 1)) JC λe4 w=>
  kn aA bA cS e4 pI w)
  (k2 aA bA cS iU pI JC)
def bS(k2:K5) aA bA cS iU pI w:=
 bG (λ(X:V3->K0) (t:V3) (w:V2)=>dI (λ_ _ _ iU _ w=>X iU w) k2 aA bA cS t pI w) iU w
theorem lZ(k2:K5)(h2:E5 Q k2 2 0 1 2 7 8)(h:bS k2 (g 0) (g 1) (g 2) (g 7) (g 8) w):eF pg aQ (bI (bJ 1 (bI (bJ 1 (aM 1 (bI (bI (aM 1 (bJ 1 (aM 2 aN)))))))))) Q g w:=by
 refine FX (λg:Env=>g 7) (λX t w=>dI (λ_ _ _ iU _ w=>X iU w) k2 (g 0) (g 1) (g 2) t (g 8) w) h (λX g1 w1 ha hL=> ?_)
 rw[<-lT 0 ha,<-lT 1 ha,<-lT 2 ha,<-lT 8 ha]at hL
 exact(FV [(2,(IC k2 0 1 2 7 8))] (kr:=no) (IC (λ_ _ _ iU _ w=>X iU w) 0 1 2 7 8) hL jH Gt ⟨h2,trivial⟩)
def dJ(kn:K5)(R:K1) aA bA cS iU pI w:=
 bS (bR kn R) aA bA cS iU pI w
theorem mA(kn:K5)(hn:N5 Q kn 0 1 2 7 8)(h:bS kn (g 0) (g 1) (g 2) (g 7) (g 8) w):eF pg aQ (bJ 1 (bI (bJ 1 (aM 1 (bI (bI (aM 1 (bJ 1 (aM 2 aN))))))))) Q g w:=
 B7 2 (lZ _ g w kn hn h)
def dK(kn:K5)(R:K1) aA bA cS iU pI w:=
 dJ (gT kn) R aA bA cS iU pI w
theorem mB(kn:K5)(R:K1)(hn:N5 Q kn 0 1 2 7 8)(hr:HR bW R Q)(h:dJ kn R (g 0) (g 1) (g 2) (g 7) (g 8) w):eF pg aQ (bJ 1 (aM 1 (bI (bI (aM 1 (bJ 1 (aM 2 aN))))))) Q g w:=
 B7 1 (jS 1 (mA _ g w (bR kn R) (λg w h=>aI (jS 3 (Pb (IC (gH kn) 0 1 2 7 8) h (λg w h=>aI (jS 1 (lY _ g w (gD kn) (λg w h=>aI (jS 1 (oT (Lk (gV kn) 0 1 2 7 8 98) h (λg w h=>aI (QY (.tmp 98) (λh=>(jS 1 (oT (Lk (dT kn) 0 1 2 7 8 10) h (λg w h=>aI (B7 6 (mJ _ g w kn hn h)))))) (λh=>(oT _ h hn)) h))))) h))) hr))) h))
def gI(kn:K5)(k0:K0) aA bA cS iU pI w:=
 aB pg (aE .lss 3 aK aK pI (V4 5)) w λc4 w=>
 eT c4
  (kn aA bA cS iU pI w)
  (k0 w)
def dL(kn:K5)(k0:K0)(R:K1) aA bA cS iU pI w:=
 gI (dK kn R) k0 aA bA cS iU pI w
def bT(k0:K0)(R:K1) aA bA cS iU pI w:=
 bG (λ(X:(V3×V3)->K0) (t:V3×V3) (w:V2)=>dL (λ_ _ _ iU pI w=>X (iU,pI) w) k0 R aA bA cS t.1 t.2 w) (iU,pI) w
theorem mC(k0:K0)(R:K1)(h0:E0 Q k0 0)(hr:HR bW R Q)(h:bT k0 R (g 0) (g 1) (g 2) (g 7) (g 8) w):eF pg aQ (bI (aM 1 (bJ 1 (aM 2 aN)))) Q g w:=by
 refine FX (λg:Env=>(g 7,g 8)) (λX t w=>dL (λ_ _ _ iU pI w=>X (iU,pI) w) k0 R (g 0) (g 1) (g 2) t.1 t.2 w) h (λX g1 w1 ha hL=> ?_)
 rw[<-lT 0 ha,<-lT 1 ha,<-lT 2 ha]at hL
 exact(jS 1 (FV [(0,(MA k0))] (kr:=no) (IC (dK (λ_ _ _ iU pI w=>X (iU,pI) w) R) 0 1 2 7 8) hL (λg w h=>aI (jS 1 (mB _ g w (gT (λ_ _ _ iU pI w=>X (iU,pI) w)) R (λg w h=>aI (oT (IC (λ_ _ _ iU pI w=>X (iU,pI) w) 0 1 2 7 8) h jH)) hr h))) Gt ⟨h0,trivial⟩))
def gJ(kn:K5) aA bA cS iU w:=
 kn aA bA cS iU (V4 0) w
def dM(kn:K0)(R:K1) aA bA cS iU w:=
 gJ (bT kn R) aA bA cS iU w
def dN(R:K1) aA bA cS iU w:=
 dM (gS R) R aA bA cS iU w
theorem mD(kn:K0)(R:K1)(hn:N0 Q kn)(hr:HR bW R Q)(h:dM kn R (g 0) (g 1) (g 2) (g 7) w):eF pg aQ (bJ 1 (aM 2 aN)) Q g w:=
 jS 1 (oT (IC (bT kn R) 0 1 2 7 8) h (λg w h=>aI (B7 0 (mC _ g w kn R hn hr h))))
def gK(kn:K4) aA bA cS w:=
 aB pg (aE .add 3 aK aK bA (V4 1)) w λc2 w=>
 kn aA bA cS c2 w
def gL(R:K1) aA bA cS w:=
 gK (dN R) aA bA cS w
def iV a0 a1 a2 w(R:K1):=
 gL R a0 a1 a2 w
theorem nC{a0 a1 a2 w R}(h:iV a0 a1 a2 w R):aH pg bZ #[a0,a1,a2] w R:=
 uE (ann:=aQ) Try.f54 aN [a0,a1,a2] bW 133 TryM.mixed Try.func54 (jS 2 (oT (Cq (dN R) 0 1 2 7) h (λg w h=>aI (jS 1 (mD _ g w (gS R) R (λg w h=>aI (wM h jH)) jH h)))))
def F1:FA:=⟨bM,λi=> .leaf ([],[]) []⟩
def Hs:List ResultVar:=[.tmp 4]
noncomputable def Fm:Code:=bH Try.f55
def Bc(R:K1) FU Uc w:=
 aH pg mN #[FU] w λb6 w=>
 Gd (bB b6 true) (λK=>K Uc w) w λb8 w=>
 Gd (bB b6 true) (λK=>aH pg mN #[b8] w K) w λb9 w=>
 Gd (bB b6 true) (λK=>aB pg (HU .not b9) w K) w λc0 w=>
 aB pg (dV b6 c0 (.bool false)) w λc1 w=>
 Gd (bB c1 false) (λK=>K FU w) w λc3 w=>
 Gd (bB c1 false) (λK=>K Uc w) w λc4 w=>
 Gd (bB c1 false) (λK=>aB pg (aE .lss 9 aK aK c3 c4) w K) w λc5 w=>
 aB pg (dV c1 (.bool true) c5) w λc6 w=>
 R c6 w
def Ev a0 a1 w(R:K1):=
 Bc R a0 a1 w
theorem Fl{a0 a1 w R}(h:Ev a0 a1 w R):aH pg bM #[a0,a1] w R:=
 uE (ann:=F1) Try.f55 Fm [a0,a1] Hs 17 TryM.mixed Try.func55 (wM h jH)
def aT:FA:=⟨cX,λi=>match Nat.beq i 1 with|true=> .leaf ([13,15],[]) (fz 13 (ft [] (fz 1 (ft [] []))))|false=>match Nat.beq i 3 with|true=> .leaf ([12],[]) (fz 12 (ft [] (fz 1 [])))|false=>match Nat.beq i 5 with|true=> .leaf ([12],[]) (fz 12 (ft [] (fz 2 [])))|false=>match Nat.beq i 8 with|true=> .leaf ([13,15],[]) (fz 13 (ft [] (fz 1 (ft [] []))))|false=>match Nat.beq i 10 with|true=> .leaf ([13,15],[]) (fz 13 (ft [] (fz 1 (ft [] []))))|false=>match Nat.beq i 13 with|true=> .leaf ([12],[]) (fz 12 (ft [] (fz 1 [])))|false=>match Nat.beq i 15 with|true=> .leaf ([12],[]) (fz 12 (ft [] (fz 2 [])))|false=>match Nat.beq i 18 with|true=> .leaf ([13,15],[]) (fz 13 (ft [] (fz 1 (ft [] []))))|false=>match Nat.beq i 21 with|true=> .leaf ([13,15],[]) (fz 13 (ft [] (fz 1 (ft [] []))))|false=> .leaf ([],[]) []⟩
def tP:List ResultVar:=[.tmp 8,.tmp 9]
noncomputable def aS:Code:=bH Try.f57
def iF(R:K1) aA bA bU w:=
 (dr w)=(dr w)/\
 (dr w)=(dr w)/\
 (dr w)=(dr w)/\
 (dr w)=(dr w)/\
 (dr w)=(dr w)/\
 (dr w)=(dr w)/\
 aB pg (aL 53 aA bA) (dr w) λv9 w_=>w_=(dr w)/\
 aB pg (aD 9 v9) (dr w) λx0 w_=>w_=(dr w)/\
 (dr w)=(dr w)/\
 (dr w)=(dr w)/\
 aB pg (aL 53 aA bU) (dr w) λx3 w_=>w_=(dr w)/\
 aB pg (aD 9 x3) (dr w) λx4 w_=>w_=(dr w)/\
 aB pg (aL 53 aA bU) (dr w) λx5 w_=>w_=(dr w)/\
 aB pg (aO 9 x5 x0) (dr w) λ_u13 Nw=>
 aB pg (aL 53 aA bA) Nw λx6 w_=>w_=Nw/\
 aB pg (aO 9 x6 x4) Nw λ_u15 SO=>
 R (.tuple #[bU,(.bool false)]) SO
def iG(kn:K4)(k4:K3) aA bA bE bU w:=
 aB pg (aE .gtr 3 aK aK bE bU) w λs4 w=>
 eT s4
  (k4 aA bA bU w)
  ((dr w)=(dr w)/\
  (dr w)=(dr w)/\
  (dr w)=(dr w)/\
  (dr w)=(dr w)/\
  (dr w)=(dr w)/\
  (dr w)=(dr w)/\
  aB pg (aL 53 aA bU) (dr w) λu1 w_=>w_=(dr w)/\
  aB pg (aD 9 u1) (dr w) λu2 w_=>w_=(dr w)/\
  (dr w)=(dr w)/\
  (dr w)=(dr w)/\
  aB pg (aL 53 aA bE) (dr w) λu5 w_=>w_=(dr w)/\
  aB pg (aD 9 u5) (dr w) λu6 w_=>w_=(dr w)/\
  aB pg (aL 53 aA bE) (dr w) λu7 w_=>w_=(dr w)/\
  aB pg (aO 9 u7 u2) (dr w) λ_u13 Nv=>
  aB pg (aL 53 aA bU) Nv λu8 w_=>w_=Nv/\
  aB pg (aO 9 u8 u6) Nv λ_u15 SN=>
  aB pg (aE .add 3 aK aK bE (V4 1)) SN λv0 w=>
  aB pg (aE .sub 3 aK aK bU (V4 1)) w λv2 w=>
  kn aA bA v0 v2 w)
def iH(kn:K4)(k8:K4) aA bA bE bU w:=
 (dr w)=(dr w)/\
 (dr w)=(dr w)/\
 aB pg (aE .leq 3 aK aK bE bU) (dr w) λp7 w_=>w_=(dr w)/\
 (dr w)=(dr w)/\
 Gd (bB p7 true) (λK=>K aA (dr w)) (dr w) λp9 w_=>w_=(dr w)/\
 Gd (bB p7 true) (λK=>K bU (dr w)) (dr w) λq0 w_=>w_=(dr w)/\
 Gd (bB p7 true) (λK=>aB pg (aL 53 p9 q0) (dr w) K) (dr w) λq1 w_=>w_=(dr w)/\
 Gd (bB p7 true) (λK=>aB pg (aD 9 q1) (dr w) K) (dr w) λq2 w_=>w_=(dr w)/\
 Gd (bB p7 true) (λK=>K aA (dr w)) (dr w) λq3 w_=>w_=(dr w)/\
 Gd (bB p7 true) (λK=>K bA (dr w)) (dr w) λq4 w_=>w_=(dr w)/\
 Gd (bB p7 true) (λK=>aB pg (aL 53 q3 q4) (dr w) K) (dr w) λq5 w_=>w_=(dr w)/\
 Gd (bB p7 true) (λK=>aB pg (aD 9 q5) (dr w) K) (dr w) λq6 w_=>w_=(dr w)/\
 Gd (bB p7 true) (λK=>aH pg bM #[q2,q6] (dr w) K) (dr w) λq7 FR=>
 Gd (bB p7 true) (λK=>aB pg (HU .not q7) FR K) FR λq8 w_=>w_=FR/\
 aB pg (dV p7 q8 (.bool false)) FR λq9 w_=>w_=FR/\
 eT q9
  (aB pg (aE .sub 3 aK aK bU (V4 1)) FR λs1 w=>
  kn aA bA bE s1 w)
  (k8 aA bA bE bU FR)
def cQ(k8:K4) aA bA bE bU w:=
 bG (λ(X:V3->K0) (t:V3) (w:V2)=>iH (λ_ _ _ bU w=>X bU w) k8 aA bA bE t w) bU w
theorem rZ(k8:K4)(h8:E4 Q k8 8 0 1 10 11)(h:cQ k8 (g 0) (g 1) (g 10) (g 11) w):eF pg aT (bI (bJ 1 (aM 1 (bI (bI (bI (bJ 1 (aM 4 (aM 1 (aM 1 (aM 3 aS))))))))))) Q g w:=by
 refine FX (λg:Env=>g 11) (λX t w=>iH (λ_ _ _ bU w=>X bU w) k8 (g 0) (g 1) (g 10) t w) h (λX g1 w1 ha hL=> ?_)
 rw[<-lT 0 ha,<-lT 1 ha,<-lT 10 ha]at hL
 exact(FV [(8,(Cq k8 0 1 10 11))] (kr:=no) (Cq (λ_ _ _ bU w=>X bU w) 0 1 10 11) hL jH Gt ⟨h8,trivial⟩)
def iI(kn:K4)(k4:K3) aA bA bE bU w:=
 cQ (iG kn k4) aA bA bE bU w
theorem sB(kn:K4)(hn:N4 Q kn 0 1 10 11)(h:cQ kn (g 0) (g 1) (g 10) (g 11) w):eF pg aT (bJ 1 (aM 1 (bI (bI (bI (bJ 1 (aM 4 (aM 1 (aM 1 (aM 3 aS)))))))))) Q g w:=
 B7 8 (rZ _ g w kn hn h)
def iJ(kn:K4)(k6:K4) aA bA bE bU w:=
 (dr w)=(dr w)/\
 (dr w)=(dr w)/\
 aB pg (aE .leq 3 aK aK bE bU) (dr w) λo1 w_=>w_=(dr w)/\
 (dr w)=(dr w)/\
 Gd (bB o1 true) (λK=>K aA (dr w)) (dr w) λo3 w_=>w_=(dr w)/\
 Gd (bB o1 true) (λK=>K bE (dr w)) (dr w) λo4 w_=>w_=(dr w)/\
 Gd (bB o1 true) (λK=>aB pg (aL 53 o3 o4) (dr w) K) (dr w) λo5 w_=>w_=(dr w)/\
 Gd (bB o1 true) (λK=>aB pg (aD 9 o5) (dr w) K) (dr w) λo6 w_=>w_=(dr w)/\
 Gd (bB o1 true) (λK=>K aA (dr w)) (dr w) λo7 w_=>w_=(dr w)/\
 Gd (bB o1 true) (λK=>K bA (dr w)) (dr w) λo8 w_=>w_=(dr w)/\
 Gd (bB o1 true) (λK=>aB pg (aL 53 o7 o8) (dr w) K) (dr w) λo9 w_=>w_=(dr w)/\
 Gd (bB o1 true) (λK=>aB pg (aD 9 o9) (dr w) K) (dr w) λp0 w_=>w_=(dr w)/\
 Gd (bB o1 true) (λK=>aH pg bM #[o6,p0] (dr w) K) (dr w) λp1 KZ=>
 aB pg (dV o1 p1 (.bool false)) KZ λp2 w_=>w_=KZ/\
 eT p2
  (aB pg (aE .add 3 aK aK bE (V4 1)) KZ λp4 w=>
  kn aA bA p4 bU w)
  (k6 aA bA bE bU KZ)
def cR(k6:K4) aA bA bE bU w:=
 bG (λ(X:V3->K0) (t:V3) (w:V2)=>iJ (λ_ _ bE _ w=>X bE w) k6 aA bA t bU w) bE w
theorem sC(k6:K4)(h6:E4 Q k6 6 0 1 10 11)(h:cR k6 (g 0) (g 1) (g 10) (g 11) w):eF pg aT (bI (bJ 1 (bI (bI (bI (bJ 1 (aM 4 (aM 1 (aM 1 (aM 3 aS)))))))))) Q g w:=by
 refine FX (λg:Env=>g 10) (λX t w=>iJ (λ_ _ bE _ w=>X bE w) k6 (g 0) (g 1) t (g 11) w) h (λX g1 w1 ha hL=> ?_)
 rw[<-lT 0 ha,<-lT 1 ha,<-lT 11 ha]at hL
 exact(FV [(6,(Cq k6 0 1 10 11))] (kr:=no) (Cq (λ_ _ bE _ w=>X bE w) 0 1 10 11) hL jH Gt ⟨h6,trivial⟩)
def gW(kn:K4)(k4:K3) aA bA bE bU w:=
 cR (iI kn k4) aA bA bE bU w
theorem sD(kn:K4)(hn:N4 Q kn 0 1 10 11)(h:cR kn (g 0) (g 1) (g 10) (g 11) w):eF pg aT (bJ 1 (bI (bI (bI (bJ 1 (aM 4 (aM 1 (aM 1 (aM 3 aS))))))))) Q g w:=
 B7 6 (sC _ g w kn hn h)
def eC(k4:K3) aA bA bE bU w:=
 bG (λ(X:(V3×V3)->K0) (t:V3×V3) (w:V2)=>gW (λ_ _ bE bU w=>X (bE,bU) w) k4 aA bA t.1 t.2 w) (bE,bU) w
theorem rB(k4:K3)(h4:E3 Q k4 4 0 1 11)(h:eC k4 (g 0) (g 1) (g 10) (g 11) w):eF pg aT (bI (bJ 1 (aM 4 (aM 1 (aM 1 (aM 3 aS)))))) Q g w:=by
 refine FX (λg:Env=>(g 10,g 11)) (λX t w=>gW (λ_ _ bE bU w=>X (bE,bU) w) k4 (g 0) (g 1) t.1 t.2 w) h (λX g1 w1 ha hL=> ?_)
 rw[<-lT 0 ha,<-lT 1 ha]at hL
 exact(B7 5 (jS 1 (sD _ g1 w1 (iI (λ_ _ bE bU w=>X (bE,bU) w) k4) (λg w h=>aI (jS 1 (sB _ g w (iG (λ_ _ bE bU w=>X (bE,bU) w) k4) (λg w h=>aI (FV [(4,(Kt k4 0 1 11))] (kr:=no) (Cq (λ_ _ bE bU w=>X (bE,bU) w) 0 1 10 11) h jH Gt ⟨h4,trivial⟩)) h))) hL)))
def gX(R:K1) aA bA bE bU w:=
 eC (iF R) aA bA bE bU w
theorem rC(kn:K3)(hn:N3 Q kn 0 1 11)(h:eC kn (g 0) (g 1) (g 10) (g 11) w):eF pg aT (bJ 1 (aM 4 (aM 1 (aM 1 (aM 3 aS))))) Q g w:=
 B7 4 (rB _ g w kn hn h)
def lQ(kn:K4)(R:K1) aA bA bE bU w:=
 aB pg (aE .gtr 3 aK aK bE bU) w λj5 w=>
 eT j5
  ((dr w)=(dr w)/\
  (dr w)=(dr w)/\
  (dr w)=(dr w)/\
  (dr w)=(dr w)/\
  (dr w)=(dr w)/\
  (dr w)=(dr w)/\
  aB pg (aL 53 aA bA) (dr w) λl2 w_=>w_=(dr w)/\
  aB pg (aD 9 l2) (dr w) λl3 w_=>w_=(dr w)/\
  (dr w)=(dr w)/\
  (dr w)=(dr w)/\
  aB pg (aL 53 aA bU) (dr w) λl6 w_=>w_=(dr w)/\
  aB pg (aD 9 l6) (dr w) λl7 w_=>w_=(dr w)/\
  aB pg (aL 53 aA bU) (dr w) λl8 w_=>w_=(dr w)/\
  aB pg (aO 9 l8 l3) (dr w) λ_u13 QP=>
  aB pg (aL 53 aA bA) QP λl9 w_=>w_=QP/\
  aB pg (aO 9 l9 l7) QP λ_u15 TE=>
  R (.tuple #[bU,(.bool true)]) TE)
  ((dr w)=(dr w)/\
  (dr w)=(dr w)/\
  (dr w)=(dr w)/\
  (dr w)=(dr w)/\
  (dr w)=(dr w)/\
  (dr w)=(dr w)/\
  aB pg (aL 53 aA bU) (dr w) λm7 w_=>w_=(dr w)/\
  aB pg (aD 9 m7) (dr w) λm8 w_=>w_=(dr w)/\
  (dr w)=(dr w)/\
  (dr w)=(dr w)/\
  aB pg (aL 53 aA bE) (dr w) λn1 w_=>w_=(dr w)/\
  aB pg (aD 9 n1) (dr w) λn2 w_=>w_=(dr w)/\
  aB pg (aL 53 aA bE) (dr w) λn3 w_=>w_=(dr w)/\
  aB pg (aO 9 n3 m8) (dr w) λ_u13 Nt=>
  aB pg (aL 53 aA bU) Nt λn4 w_=>w_=Nt/\
  aB pg (aO 9 n4 n2) Nt λ_u15 SJ=>
  aB pg (aE .add 3 aK aK bE (V4 1)) SJ λn6 w=>
  aB pg (aE .sub 3 aK aK bU (V4 1)) w λn8 w=>
  kn aA bA n6 n8 w)
def gY(R:K1) aA bA bE bU w:=
 lQ (gX R) R aA bA bE bU w
def gZ(kn:K4)(k2:K4) aA bA bE bU w:=
 (dr w)=(dr w)/\
 (dr w)=(dr w)/\
 aB pg (aE .leq 3 aK aK bE bU) (dr w) λf8 w_=>w_=(dr w)/\
 (dr w)=(dr w)/\
 Gd (bB f8 true) (λK=>K aA (dr w)) (dr w) λi0 w_=>w_=(dr w)/\
 Gd (bB f8 true) (λK=>K bU (dr w)) (dr w) λi1 w_=>w_=(dr w)/\
 Gd (bB f8 true) (λK=>aB pg (aL 53 i0 i1) (dr w) K) (dr w) λi2 w_=>w_=(dr w)/\
 Gd (bB f8 true) (λK=>aB pg (aD 9 i2) (dr w) K) (dr w) λi3 w_=>w_=(dr w)/\
 Gd (bB f8 true) (λK=>K aA (dr w)) (dr w) λi4 w_=>w_=(dr w)/\
 Gd (bB f8 true) (λK=>K bA (dr w)) (dr w) λi5 w_=>w_=(dr w)/\
 Gd (bB f8 true) (λK=>aB pg (aL 53 i4 i5) (dr w) K) (dr w) λi6 w_=>w_=(dr w)/\
 Gd (bB f8 true) (λK=>aB pg (aD 9 i6) (dr w) K) (dr w) λi7 w_=>w_=(dr w)/\
 Gd (bB f8 true) (λK=>aH pg bM #[i3,i7] (dr w) K) (dr w) λi8 dE=>
 Gd (bB f8 true) (λK=>aB pg (HU .not i8) dE K) dE λi9 w_=>w_=dE/\
 aB pg (dV f8 i9 (.bool false)) dE λj0 w_=>w_=dE/\
 eT j0
  (aB pg (aE .sub 3 aK aK bU (V4 1)) dE λj2 w=>
  kn aA bA bE j2 w)
  (k2 aA bA bE bU dE)
def cL(k2:K4) aA bA bE bU w:=
 bG (λ(X:V3->K0) (t:V3) (w:V2)=>gZ (λ_ _ _ bU w=>X bU w) k2 aA bA bE t w) bU w
theorem rD(k2:K4)(h2:E4 Q k2 2 0 1 10 11)(h:cL k2 (g 0) (g 1) (g 10) (g 11) w):eF pg aT (bI (bJ 1 (aM 1 (aM 3 aS)))) Q g w:=by
 refine FX (λg:Env=>g 11) (λX t w=>gZ (λ_ _ _ bU w=>X bU w) k2 (g 0) (g 1) (g 10) t w) h (λX g1 w1 ha hL=> ?_)
 rw[<-lT 0 ha,<-lT 1 ha,<-lT 10 ha]at hL
 exact(FV [(2,(Cq k2 0 1 10 11))] (kr:=no) (Cq (λ_ _ _ bU w=>X bU w) 0 1 10 11) hL jH Gt ⟨h2,trivial⟩)
def hC(R:K1) aA bA bE bU w:=
 cL (gY R) aA bA bE bU w
theorem rE(kn:K4)(hn:N4 Q kn 0 1 10 11)(h:cL kn (g 0) (g 1) (g 10) (g 11) w):eF pg aT (bJ 1 (aM 1 (aM 3 aS))) Q g w:=
 B7 2 (rD _ g w kn hn h)
def hG(kn:K4)(k0:K4) aA bA bE bU w:=
 (dr w)=(dr w)/\
 (dr w)=(dr w)/\
 aB pg (aE .leq 3 aK aK bE bU) (dr w) λe2 w_=>w_=(dr w)/\
 (dr w)=(dr w)/\
 Gd (bB e2 true) (λK=>K aA (dr w)) (dr w) λe4 w_=>w_=(dr w)/\
 Gd (bB e2 true) (λK=>K bE (dr w)) (dr w) λe5 w_=>w_=(dr w)/\
 Gd (bB e2 true) (λK=>aB pg (aL 53 e4 e5) (dr w) K) (dr w) λe6 w_=>w_=(dr w)/\
 Gd (bB e2 true) (λK=>aB pg (aD 9 e6) (dr w) K) (dr w) λe7 w_=>w_=(dr w)/\
 Gd (bB e2 true) (λK=>K aA (dr w)) (dr w) λe8 w_=>w_=(dr w)/\
 Gd (bB e2 true) (λK=>K bA (dr w)) (dr w) λe9 w_=>w_=(dr w)/\
 Gd (bB e2 true) (λK=>aB pg (aL 53 e8 e9) (dr w) K) (dr w) λf0 w_=>w_=(dr w)/\
 Gd (bB e2 true) (λK=>aB pg (aD 9 f0) (dr w) K) (dr w) λf1 w_=>w_=(dr w)/\
 Gd (bB e2 true) (λK=>aH pg bM #[e7,f1] (dr w) K) (dr w) λf2 Oi=>
 aB pg (dV e2 f2 (.bool false)) Oi λf3 w_=>w_=Oi/\
 eT f3
  (aB pg (aE .add 3 aK aK bE (V4 1)) Oi λf5 w=>
  kn aA bA f5 bU w)
  (k0 aA bA bE bU Oi)
def cM(k0:K4) aA bA bE bU w:=
 bG (λ(X:V3->K0) (t:V3) (w:V2)=>hG (λ_ _ bE _ w=>X bE w) k0 aA bA t bU w) bE w
theorem rF(k0:K4)(h0:E4 Q k0 0 0 1 10 11)(h:cM k0 (g 0) (g 1) (g 10) (g 11) w):eF pg aT (bI (bJ 1 (aM 3 aS))) Q g w:=by
 refine FX (λg:Env=>g 10) (λX t w=>hG (λ_ _ bE _ w=>X bE w) k0 (g 0) (g 1) t (g 11) w) h (λX g1 w1 ha hL=> ?_)
 rw[<-lT 0 ha,<-lT 1 ha,<-lT 11 ha]at hL
 exact(FV [(0,(Cq k0 0 1 10 11))] (kr:=no) (Cq (λ_ _ bE _ w=>X bE w) 0 1 10 11) hL jH Gt ⟨h0,trivial⟩)
def hH(R:K1) aA bA bE bU w:=
 cM (hC R) aA bA bE bU w
theorem rG(kn:K4)(hn:N4 Q kn 0 1 10 11)(h:cM kn (g 0) (g 1) (g 10) (g 11) w):eF pg aT (bJ 1 (aM 3 aS)) Q g w:=
 B7 0 (rF _ g w kn hn h)
def lR(kn:K4) aA bA cS It w:=
 (dr w)=(dr w)/\
 (dr w)=(dr w)/\
 (dr w)=(dr w)/\
 (dr w)=(dr w)/\
 (dr w)=(dr w)/\
 (dr w)=(dr w)/\
 aB pg (aL 53 aA It) (dr w) λc8 w_=>w_=(dr w)/\
 aB pg (aD 9 c8) (dr w) λc9 w_=>w_=(dr w)/\
 (dr w)=(dr w)/\
 (dr w)=(dr w)/\
 aB pg (aL 53 aA bA) (dr w) λd2 w_=>w_=(dr w)/\
 aB pg (aD 9 d2) (dr w) λd3 w_=>w_=(dr w)/\
 aB pg (aL 53 aA bA) (dr w) λd4 w_=>w_=(dr w)/\
 aB pg (aO 9 d4 c9) (dr w) λ_u13 QN=>
 aB pg (aL 53 aA It) QN λd5 w_=>w_=QN/\
 aB pg (aO 9 d5 d3) QN λ_u15 Tz=>
 aB pg (aE .add 3 aK aK bA (V4 1)) Tz λd7 w=>
 aB pg (aE .sub 3 aK aK cS (V4 1)) w λd9 w=>
 kn aA bA d7 d9 w
def lS(R:K1) aA bA cS It w:=
 lR (hH R) aA bA cS It w
def oM a0 a1 a2 a3 w(R:K1):=
 lS R a0 a1 a2 a3 w
theorem sS{a0 a1 a2 a3 w R}(h:oM a0 a1 a2 a3 w R):aH pg cX #[a0,a1,a2,a3] w R:=
 uE (ann:=aT) Try.f57 aS [a0,a1,a2,a3] tP 168 TryM.mixed Try.func57 (jS 3 (oT (Cq (hH R) 0 1 10 11) h (λg w h=>aI (jS 1 (rG _ g w (hC R) (λg w h=>aI (jS 1 (rE _ g w (gY R) (λg w h=>aI (jS 4 (Pb (Cq (gX R) 0 1 10 11) h (λg w h=>aI (jS 1 (rC _ g w (iF R) (λg w h=>aI (wM h jH)) h))) jH))) h))) h)))))
def D7:FA:=⟨pA,λi=> .leaf ([],[]) []⟩
def FL:List ResultVar:=[.tmp 2]
noncomputable def CY:Code:=bH Try.f59
def nW(R:K1) FU Qd w:=
 aB pg (qI 107 5 FU) w λd1 w=>
 aB pg (OX 9 (.string ⟨#[0,1,2,2,3,3,3,3,4,4,4,4,4,4,4,4,5,5,5,5,5,5,5,5,5,5,5,5,5,5,5,5,6,6,6,6,6,6,6,6,6,6,6,6,6,6,6,6,6,6,6,6,6,6,6,6,6,6,6,6,6,6,6,6,7,7,7,7,7,7,7,7,7,7,7,7,7,7,7,7,7,7,7,7,7,7,7,7,7,7,7,7,7,7,7,7,7,7,7,7,7,7,7,7,7,7,7,7,7,7,7,7,7,7,7,7,7,7,7,7,7,7,7,7,7,7,7,7,8,8,8,8,8,8,8,8,8,8,8,8,8,8,8,8,8,8,8,8,8,8,8,8,8,8,8,8,8,8,8,8,8,8,8,8,8,8,8,8,8,8,8,8,8,8,8,8,8,8,8,8,8,8,8,8,8,8,8,8,8,8,8,8,8,8,8,8,8,8,8,8,8,8,8,8,8,8,8,8,8,8,8,8,8,8,8,8,8,8,8,8,8,8,8,8,8,8,8,8,8,8,8,8,8,8,8,8,8,8,8,8,8,8,8,8,8,8,8,8,8,8,8,8,8,8,8,8]⟩) d1) w λd2 w=>
 aB pg (qI 5 3 d2) w λd3 w=>
 aB pg (aE .add 3 aK aK Qd d3) w λd4 w=>
 R d4 w
def yT(kn:K2) FU Qd w:=
 aB pg (aE .geq 107 aK aK FU (.int .u64 256)) w λc4 w=>
 eT c4
  (aB pg (aE .shr 107 aK aK FU (.int .u64 8)) w λc6 w=>
  aB pg (aE .add 3 aK aK Qd (V4 8)) w λc8 w=>
  kn c6 c8 w)
  (kn FU Qd w)
def nX(R:K1) FU Qd w:=
 yT (nW R) FU Qd w
def yU(kn:K2) FU Qd w:=
 aB pg (aE .geq 107 aK aK FU (.int .u64 65536)) w λb8 w=>
 eT b8
  (aB pg (aE .shr 107 aK aK FU (.int .u64 16)) w λc0 w=>
  aB pg (aE .add 3 aK aK Qd (V4 16)) w λc2 w=>
  kn c0 c2 w)
  (kn FU Qd w)
def nY(R:K1) FU Qd w:=
 yU (nX R) FU Qd w
def yV(kn:K2) FU w:=
 aB pg (aE .geq 107 aK aK FU (.int .u64 4294967296)) w λb4 w=>
 eT b4
  (aB pg (aE .shr 107 aK aK FU (.int .u64 32)) w λb6 w=>
  kn b6 (V4 32) w)
  (kn FU (V4 0) w)
def yW(R:K1) FU w:=
 yV (nY R) FU w
def Ck a0 w(R:K1):=
 yW R a0 w
theorem Ds{a0 w R}(h:Ck a0 w R):aH pg pA #[a0] w R:=
 uE (ann:=D7) Try.f59 CY [a0] FL 25 TryM.mixed Try.func59 (jS 2 (oT (MB (nY R) 0 2) h (λg w h=>aI (jS 1 (oT (MB (nX R) 0 2) h (λg w h=>aI (jS 1 (oT (MB (nW R) 0 2) h (λg w h=>aI (wM h jH))))))))))
def mF:FA:=⟨dO,λi=>match Nat.beq i 3 with|true=> .leaf ([18],[]) (fz 18 (ft [] (fz 1 [])))|false=>match Nat.beq i 5 with|true=> .leaf ([12],[]) (fz 12 (ft [] (fz 1 [])))|false=>match Nat.beq i 6 with|true=> .leaf ([21,23],[(7,21)]) (fz 21 (ft [13] (fz 1 (ft [] []))))|false=> .leaf ([],[]) []⟩
def mV:List ResultVar:=[]
noncomputable def lM:Code:=bH Try.f60
def eQ(kn:K4)(R:K1) aA Gj iW lU F5 w:=
 (dr w)=(dr w)/\
 (dr w)=(dr w)/\
 (dr w)=(dr w)/\
 aB pg (aE .add 3 aK aK iW lU) (dr w) λf2 w_=>w_=(dr w)/\
 aB pg (aL 53 aA f2) (dr w) λf3 w_=>w_=(dr w)/\
 aB pg (aD 9 f3) (dr w) λf4 w_=>w_=(dr w)/\
 (dr w)=(dr w)/\
 (dr w)=(dr w)/\
 (dr w)=(dr w)/\
 aB pg (aE .add 3 aK aK iW F5) (dr w) λf8 w_=>w_=(dr w)/\
 aB pg (aL 53 aA f8) (dr w) λf9 w_=>w_=(dr w)/\
 aB pg (aD 9 f9) (dr w) λi0 w_=>w_=(dr w)/\
 aH pg bM #[f4,i0] (dr w) λi1 dE=>
 aB pg (HU .not i1) dE λi2 w_=>w_=dE/\
 eT i2
  (R (.tuple #[]) dE)
  ((dr dE)=(dr dE)/\
  (dr dE)=(dr dE)/\
  (dr dE)=(dr dE)/\
  aB pg (aE .add 3 aK aK iW lU) (dr dE) λi6 w_=>w_=(dr dE)/\
  (dr dE)=(dr dE)/\
  (dr dE)=(dr dE)/\
  (dr dE)=(dr dE)/\
  aB pg (aE .add 3 aK aK iW F5) (dr dE) λj0 w_=>w_=(dr dE)/\
  (dr dE)=(dr dE)/\
  (dr dE)=(dr dE)/\
  (dr dE)=(dr dE)/\
  aB pg (aE .add 3 aK aK iW F5) (dr dE) λj4 w_=>w_=(dr dE)/\
  aB pg (aL 53 aA j4) (dr dE) λj5 w_=>w_=(dr dE)/\
  aB pg (aD 9 j5) (dr dE) λj6 w_=>w_=(dr dE)/\
  (dr dE)=(dr dE)/\
  (dr dE)=(dr dE)/\
  (dr dE)=(dr dE)/\
  aB pg (aE .add 3 aK aK iW lU) (dr dE) λl0 w_=>w_=(dr dE)/\
  aB pg (aL 53 aA l0) (dr dE) λl1 w_=>w_=(dr dE)/\
  aB pg (aD 9 l1) (dr dE) λl2 w_=>w_=(dr dE)/\
  aB pg (aL 53 aA i6) (dr dE) λl3 w_=>w_=(dr dE)/\
  aB pg (aO 9 l3 j6) (dr dE) λ_u21 Om=>
  (tZ pg (aE .add 3 aK aK iW F5) j0 Om/\True)/\
  aB pg (aL 53 aA j0) Om λl4 w_=>w_=Om/\
  aB pg (aO 9 l4 l2) Om λ_u23 TD=>
  kn aA Gj iW F5 TD)
def nD(kn:K5)(k0:K0) aA Gj iW lU w:=
 aB pg (aE .mul 3 aK aK (V4 2) lU) w λc2 w=>
 aB pg (aE .add 3 aK aK c2 (V4 1)) w λc3 w=>
 aB pg (aE .geq 3 aK aK c3 Gj) w λc6 w=>
 eT c6
  (k0 w)
  ((dr w)=(dr w)/\
  aB pg (aE .add 3 aK aK c3 (V4 1)) (dr w) λc8 w_=>w_=(dr w)/\
  (dr w)=(dr w)/\
  aB pg (aE .lss 3 aK aK c8 Gj) (dr w) λd0 w_=>w_=(dr w)/\
  (dr w)=(dr w)/\
  Gd (bB d0 true) (λK=>K aA (dr w)) (dr w) λd2 w_=>w_=(dr w)/\
  Gd (bB d0 true) (λK=>K iW (dr w)) (dr w) λd3 w_=>w_=(dr w)/\
  Gd (bB d0 true) (λK=>K c3 (dr w)) (dr w) λd4 w_=>w_=(dr w)/\
  Gd (bB d0 true) (λK=>aB pg (aE .add 3 aK aK d3 d4) (dr w) K) (dr w) λd5 w_=>w_=(dr w)/\
  Gd (bB d0 true) (λK=>aB pg (aL 53 d2 d5) (dr w) K) (dr w) λd6 w_=>w_=(dr w)/\
  Gd (bB d0 true) (λK=>aB pg (aD 9 d6) (dr w) K) (dr w) λd7 w_=>w_=(dr w)/\
  Gd (bB d0 true) (λK=>K aA (dr w)) (dr w) λd8 w_=>w_=(dr w)/\
  Gd (bB d0 true) (λK=>K iW (dr w)) (dr w) λd9 w_=>w_=(dr w)/\
  Gd (bB d0 true) (λK=>K c3 (dr w)) (dr w) λe0 w_=>w_=(dr w)/\
  Gd (bB d0 true) (λK=>aB pg (aE .add 3 aK aK d9 e0) (dr w) K) (dr w) λe1 w_=>w_=(dr w)/\
  Gd (bB d0 true) (λK=>aB pg (aE .add 3 aK aK e1 (V4 1)) (dr w) K) (dr w) λe2 w_=>w_=(dr w)/\
  Gd (bB d0 true) (λK=>aB pg (aL 53 d8 e2) (dr w) K) (dr w) λe3 w_=>w_=(dr w)/\
  Gd (bB d0 true) (λK=>aB pg (aD 9 e3) (dr w) K) (dr w) λe4 w_=>w_=(dr w)/\
  Gd (bB d0 true) (λK=>aH pg bM #[d7,e4] (dr w) K) (dr w) λe5 Oj=>
  aB pg (dV d0 e5 (.bool false)) Oj λe6 w_=>w_=Oj/\
  eT e6
   (aB pg (aE .add 3 aK aK c3 (V4 1)) Oj λe8 w=>
   kn aA Gj iW lU e8 w)
   (kn aA Gj iW lU c3 Oj))
def iT(kn:K4)(k0:K0)(R:K1) aA Gj iW lU w:=
 nD (eQ kn R) k0 aA Gj iW lU w
def eS(k0:K0)(R:K1) aA Gj iW lU w:=
 bG (λ(X:V3->K0) (t:V3) (w:V2)=>iT (λ_ _ _ lU w=>X lU w) k0 R aA Gj iW t w) lU w
theorem sT(k0:K0)(R:K1)(h0:E0 Q k0 0)(hr:HR mV R Q)(h:eS k0 R (g 0) (g 2) (g 3) (g 8) w):eF pg mF (bI (aM 1 lM)) Q g w:=by
 refine FX (λg:Env=>g 8) (λX t w=>iT (λ_ _ _ lU w=>X lU w) k0 R (g 0) (g 2) (g 3) t w) h (λX g1 w1 ha hL=> ?_)
 rw[<-lT 0 ha,<-lT 2 ha,<-lT 3 ha]at hL
 exact(B7 1 (jS 3 (FV [(0,(MA k0))] (kr:=no) (IC (eQ (λ_ _ _ lU w=>X lU w) R) 0 2 3 8 9) hL (λg w h=>aI (Pb (Cq (λ_ _ _ lU w=>X lU w) 0 2 3 8) h jH hr)) Gt ⟨h0,trivial⟩)))
def nE(kn:K4) aA Sm Gj iW w:=
 kn aA Gj iW Sm w
def nF(kn:K0)(R:K1) aA Sm Gj iW w:=
 nE (eS kn R) aA Sm Gj iW w
def pC a0 a1 a2 a3 w(R:K1):=
 nF (λw=>R (.tuple #[]) w) R a0 a1 a2 a3 w
theorem tN{a0 a1 a2 a3 w R}(h:pC a0 a1 a2 a3 w R):aH pg dO #[a0,a1,a2,a3] w R:=
 uE (ann:=mF) Try.f60 lM [a0,a1,a2,a3] mV 76 TryM.mixed Try.func60 (jS 1 (oT (Cq (eS (λw=>R (.tuple #[]) w) R) 0 2 3 8) h (λg w h=>aI (B7 0 (sT _ g w (λw=>R (.tuple #[]) w) R jH jH h)))))
def zP:FA:=⟨jC,λi=> .leaf ([],[]) []⟩
def A7:List ResultVar:=[.tmp 2]
noncomputable def yC:Code:=bH Try.f61
def rA(R:K1) P8 w:=
 aB pg (qI 3 94 P8) w λb4 w=>
 aH pg oH #[b4] w λb5 w=>
 aB pg (aE .shl 94 aK aK (.int .u64 1) b5) w λb6 w=>
 R b6 w
def tV a0 w(R:K1):=
 rA R a0 w
theorem zL{a0 w R}(h:tV a0 w R):aH pg jC #[a0] w R:=
 uE (ann:=zP) Try.f61 yC [a0] A7 7 TryM.mixed Try.func61 (wM h jH)
def Az:FA:=⟨jT,λi=>match Nat.beq i 1 with|true=> .leaf ([9],[]) (fz 9 (ft [] []))|false=>match Nat.beq i 2 with|true=> .leaf ([9],[]) (fz 9 (ft [] []))|false=>match Nat.beq i 3 with|true=> .leaf ([9],[]) (fz 9 (ft [] []))|false=> .leaf ([],[]) []⟩
def BB:List ResultVar:=[.tmp 2]
noncomputable def zR:Code:=bH Try.f62
def sI(R:K1) Q1 w:=
 (dr w)=(dr w)/\
 aB pg (lO Q1) (dr w) λb4 w_=>w_=(dr w)/\
 aB pg (aD 108 b4) (dr w) λb5 w_=>w_=(dr w)/\
 (dr w)=(dr w)/\
 aB pg (lO Q1) (dr w) λb7 w_=>w_=(dr w)/\
 aB pg (aD 108 b7) (dr w) λb8 w_=>w_=(dr w)/\
 aB pg (aE .shl 108 aK aK b8 (.int .u64 13)) (dr w) λb9 w_=>w_=(dr w)/\
 aB pg (aE .xor 108 aK aK b5 b9) (dr w) λc0 w_=>w_=(dr w)/\
 aB pg (lO Q1) (dr w) λc1 w_=>w_=(dr w)/\
 aB pg (aO 108 c1 c0) (dr w) λ_u9 B3=>
 (dr B3)=(dr B3)/\
 aB pg (lO Q1) (dr B3) λc3 w_=>w_=(dr B3)/\
 aB pg (aD 108 c3) (dr B3) λc4 w_=>w_=(dr B3)/\
 (dr B3)=(dr B3)/\
 aB pg (lO Q1) (dr B3) λc6 w_=>w_=(dr B3)/\
 aB pg (aD 108 c6) (dr B3) λc7 w_=>w_=(dr B3)/\
 aB pg (aE .shr 108 aK aK c7 (.int .u64 7)) (dr B3) λc8 w_=>w_=(dr B3)/\
 aB pg (aE .xor 108 aK aK c4 c8) (dr B3) λc9 w_=>w_=(dr B3)/\
 aB pg (lO Q1) (dr B3) λd0 w_=>w_=(dr B3)/\
 aB pg (aO 108 d0 c9) (dr B3) λ_u9 B4=>
 (dr B4)=(dr B4)/\
 aB pg (lO Q1) (dr B4) λd2 w_=>w_=(dr B4)/\
 aB pg (aD 108 d2) (dr B4) λd3 w_=>w_=(dr B4)/\
 (dr B4)=(dr B4)/\
 aB pg (lO Q1) (dr B4) λd5 w_=>w_=(dr B4)/\
 aB pg (aD 108 d5) (dr B4) λd6 w_=>w_=(dr B4)/\
 aB pg (aE .shl 108 aK aK d6 (.int .u64 17)) (dr B4) λd7 w_=>w_=(dr B4)/\
 aB pg (aE .xor 108 aK aK d3 d7) (dr B4) λd8 w_=>w_=(dr B4)/\
 aB pg (lO Q1) (dr B4) λd9 w_=>w_=(dr B4)/\
 aB pg (aO 108 d9 d8) (dr B4) λ_u9 T1=>
 aB pg (lO Q1) T1 λe1 w=>
 aB pg (aD 108 e1) w λe2 w=>
 R e2 w
def wE a0 w(R:K1):=
 sI R a0 w
theorem Aa{a0 w R}(h:wE a0 w R):aH pg jT #[a0] w R:=
 uE (ann:=Az) Try.f62 zR [a0] BB 33 TryM.mixed Try.func62 (wM h jH)
def vS:FA:=⟨fX,λi=> .leaf ([],[]) []⟩
def wR:List ResultVar:=[.tmp 10]
noncomputable def uB:Code:=bH Try.f64
def oK(R:K1) aA bA cS Uf KX w:=
 aH pg cN #[aA,bA,cS,KX] w λc6 w=>
 aB pg (cA c6 0) w λc7 w=>
 aB pg (cA c6 1) w λc8 w=>
 aH pg cN #[aA,c8,Uf,KX] w λd4 w=>
 aB pg (cA d4 0) w λd5 w=>
 aB pg (cA d4 1) w λd6 w=>
 aH pg cN #[aA,c7,d5,KX] w λe2 w=>
 aB pg (cA e2 0) w λe3 w=>
 aB pg (cA e2 1) w λe4 w=>
 R e4 w
def qC a0 a1 a2 a3 a4 w(R:K1):=
 oK R a0 a1 a2 a3 a4 w
theorem uV{a0 a1 a2 a3 a4 w R}(h:qC a0 a1 a2 a3 a4 w R):aH pg fX #[a0,a1,a2,a3,a4] w R:=
 uE (ann:=vS) Try.f64 uB [a0,a1,a2,a3,a4] wR 36 TryM.mixed Try.func64 (wM h jH)
def Fe:FA:=⟨mN,λi=> .leaf ([],[]) []⟩
def GI:List ResultVar:=[.tmp 2]
noncomputable def Ea:Code:=bH Try.f65
def Ac(R:K1) FU w:=
 aB pg (aE .neq 9 (.tmp 3) (.tmp 4) FU FU) w λb5 w=>
 R b5 w
def CU a0 w(R:K1):=
 Ac R a0 w
theorem D9 {a0 w R}(h:CU a0 w R):aH pg mN #[a0] w R:=
 uE (ann:=Fe) Try.f65 Ea [a0] GI 6 TryM.mixed Try.func65 (wM h jH)
def vT:FA:=⟨cN,λi=>match Nat.beq i 1 with|true=> .leaf ([8],[]) (fz 8 (ft [] []))|false=> .leaf ([],[]) []⟩
def wS:List ResultVar:=[.tmp 8,.tmp 9]
noncomputable def uC:Code:=bH Try.f66
def oL(R:K1) aA bA cS Og w:=
 (dr w)=(dr w)/\
 (dr w)=(dr w)/\
 aB pg (aL 53 aA cS) (dr w) λc2 w_=>w_=(dr w)/\
 aB pg (aD 9 c2) (dr w) λc3 w_=>w_=(dr w)/\
 (dr w)=(dr w)/\
 (dr w)=(dr w)/\
 aB pg (aL 53 aA bA) (dr w) λc6 w_=>w_=(dr w)/\
 aB pg (aD 9 c6) (dr w) λc7 w_=>w_=(dr w)/\
 aH pg bM #[c3,c7] (dr w) λc8 TA=>
 eT c8
  (aB pg (lO Og) TA λd0 w=>
  aB pg (aD 3 d0) w λd1 w=>
  aB pg (aE .add 3 aK aK d1 (V4 1)) w λd2 w=>
  aB pg (lO Og) w λd3 w=>
  aB pg (aO 3 d3 d2) w λ_u w=>
  R (.tuple #[cS,bA]) w)
  (R (.tuple #[bA,cS]) TA)
def qD a0 a1 a2 a3 w(R:K1):=
 oL R a0 a1 a2 a3 w
theorem uW{a0 a1 a2 a3 w R}(h:qD a0 a1 a2 a3 w R):aH pg cN #[a0,a1,a2,a3] w R:=
 uE (ann:=vT) Try.f66 uC [a0,a1,a2,a3] wS 28 TryM.mixed Try.func66 (wM h jH)
end Go.Proofs.Ytmhokapokchneaa
namespace Go.En
open Go
section
variable{P:Program}{w:V2}{t:TypeId}{ox oy:Operand}{k:IntKind}{a b:Int}
theorem jW(s:Sem V3):(V s).run P w=(s.run P w).andThen λv w=> .ok (.value v) w:=by
 unfold V;rw[Sem.run_bind]<;>rfl
theorem Tp(s:Sem Unit):(U s).run P w=(s.run P w).andThen λ_ w=> .ok .skip w:=by
 unfold U;rw[Sem.run_bind]<;>rfl
theorem Ja:(aE .add t ox oy (.int k a) (.int k b)).run P w= .ok (.value (.int k (k.wrap (a+b)))) w:=by
 simp[aE,xJ,jW,binOp,Op.intArith]
theorem R3:(aE .sub t ox oy (.int k a) (.int k b)).run P w= .ok (.value (.int k (k.wrap (a-b)))) w:=by
 simp[aE,xJ,jW,binOp,Op.intArith]
theorem Te:(aE .mul t ox oy (.int k a) (.int k b)).run P w= .ok (.value (.int k (k.wrap (a*b)))) w:=by
 simp[aE,xJ,jW,binOp,Op.intArith]
theorem Ti(h:b≠0):(aE .quo t ox oy (.int k a) (.int k b)).run P w= .ok (.value (.int k (k.wrap (a.tdiv b)))) w:=by
 simp[aE,xJ,jW,binOp,Op.intDiv,h]
theorem Tj(h:b≠0):(aE .rem t ox oy (.int k a) (.int k b)).run P w= .ok (.value (.int k (a.tmod b))) w:=by
 simp[aE,xJ,jW,binOp,Op.intDiv,h]
def MC(k:IntKind)(a b:Int):Int:=k.wrap (BitVec.ofInt k.bits a&&&BitVec.ofInt k.bits b).toNat
def Ua(k:IntKind)(a b:Int):Int:=k.wrap (BitVec.ofInt k.bits a|||BitVec.ofInt k.bits b).toNat
def Mv(k:IntKind)(a b:Int):Int:=k.wrap (BitVec.ofInt k.bits a^^^BitVec.ofInt k.bits b).toNat
def NG(k:IntKind)(a b:Int):Int:=k.wrap (BitVec.ofInt k.bits a&&& ~~~BitVec.ofInt k.bits b).toNat
theorem Ta:(aE .and t ox oy (.int k a) (.int k b)).run P w= .ok (.value (.int k (MC k a b))) w:=by
 simp[aE,xJ,jW,binOp,Op.intBits,MC]
theorem TY:(aE .or t ox oy (.int k a) (.int k b)).run P w= .ok (.value (.int k (Ua k a b))) w:=by
 simp[aE,xJ,jW,binOp,Op.intBits,Ua]
theorem Tl:(aE .xor t ox oy (.int k a) (.int k b)).run P w= .ok (.value (.int k (Mv k a b))) w:=by
 simp[aE,xJ,jW,binOp,Op.intBits,Mv]
theorem Qp:(aE .andNot t ox oy (.int k a) (.int k b)).run P w= .ok (.value (.int k (NG k a b))) w:=by
 simp[aE,xJ,jW,binOp,Op.intBits,NG]
theorem Tk{k':IntKind}(h:0<=b):(aE .shl t ox oy (.int k a) (.int k' b)).run P w= .ok (.value (.int k (k.wrap (a*2^(min b.toNat k.bits))))) w:=by
 simp[aE,xJ,jW,binOp,Op.shift,Int.not_lt.2 h]
theorem Jb{k':IntKind}(h:0<=b):(aE .shr t ox oy (.int k a) (.int k' b)).run P w= .ok (.value (.int k (a.fdiv (2^(min b.toNat k.bits))))) w:=by
 simp[aE,xJ,jW,binOp,Op.shift,Int.not_lt.2 h]
theorem HL:(aE .eql t ox oy (.int k a) (.int k b)).run P w= .ok (.value (.bool (a==b))) w:=by
 simp[aE,xJ,jW,binOp,Op.intCmp,eqGuard]
theorem Tg:(aE .neq t ox oy (.int k a) (.int k b)).run P w= .ok (.value (.bool (a !=b))) w:=by
 simp[aE,xJ,jW,binOp,Op.intCmp,eqGuard]
theorem wX:(aE .lss t ox oy (.int k a) (.int k b)).run P w= .ok (.value (.bool (decide (a<b)))) w:=by
 simp[aE,xJ,jW,binOp,Op.intCmp]
theorem R1:(aE .leq t ox oy (.int k a) (.int k b)).run P w= .ok (.value (.bool (decide (a<=b)))) w:=by
 simp[aE,xJ,jW,binOp,Op.intCmp]
theorem yZ:(aE .gtr t ox oy (.int k a) (.int k b)).run P w= .ok (.value (.bool (decide (b<a)))) w:=by
 simp[aE,xJ,jW,binOp,Op.intCmp]
theorem Cm:(aE .geq t ox oy (.int k a) (.int k b)).run P w= .ok (.value (.bool (decide (b<=a)))) w:=by
 simp[aE,xJ,jW,binOp,Op.intCmp]
theorem Tf:(HU .neg (.int k a)).run P w= .ok (.value (.int k (k.wrap (0-a)))) w:=by
 simp[HU,jW,Op.unary,Op.intArith]
theorem Tb:(HU .xor (.int k a)).run P w= .ok (.value (.int k (Mv k (if k.signed then-1 else k.max) a))) w:=by
 simp[HU,jW,Op.unary,Op.intBits,Mv]
theorem R2 (c:Bool):(HU .not (.bool c)).run P w= .ok (.value (.bool !c)) w:=by
 simp[HU,jW,Op.unary]
theorem qH(c:Bool)(x y:V3):(dV (.bool c) x y).run P w= .ok (.value (if c then x else y)) w:=by
 simp[dV,asBool]
theorem Ju{x y:V3}{r:Bool}(hg:eqGuard .eql t ox oy x y=pure ())(hb:binOp .eql t x y=(do pure (.bool (<-Op.equal t x y))))(he:(Op.equal t x y).run P w= .ok r w):
 (aE .eql t ox oy x y).run P w= .ok (.value (.bool r)) w:=by
 unfold aE
 simp only[xJ,jW,hg,hb,pure_bind]
 rw[Sem.run_bind,he]<;>rfl
theorem Mg{x y:V3}{r:Bool}(hg:eqGuard .neq t ox oy x y=pure ())(hb:binOp .neq t x y=(do pure (.bool (!(<-Op.equal t x y)))))(he:(Op.equal t x y).run P w= .ok r w):
 (aE .neq t ox oy x y).run P w= .ok (.value (.bool (!r))) w:=by
 unfold aE
 simp only[xJ,jW,hg,hb,pure_bind]
 rw[Sem.run_bind,he]<;>rfl
theorem OH(n:Nat)(c d:Bool)(hu:P.underlying t=some .bool):(Op.equalIn (n+1) t (.bool c) (.bool d)).run P w= .ok (c==d) w:=by
 simp only[Op.equalIn,underlying]
 simp[hu]
theorem NO(c d:Bool)(hu:P.underlying t=some .bool):(Op.equal t (.bool c) (.bool d)).run P w= .ok (c==d) w:=OH 9999 c d hu
theorem Su(c d:Bool)(hu:P.underlying t=some .bool):(aE .eql t ox oy (.bool c) (.bool d)).run P w= .ok (.value (.bool (c==d))) w:=
 Ju rfl rfl (NO c d hu)
theorem Sv(c d:Bool)(hu:P.underlying t=some .bool):(aE .neq t ox oy (.bool c) (.bool d)).run P w= .ok (.value (.bool (!(c==d)))) w:=
 Mg rfl rfl (NO c d hu)
theorem Cp{n:Int}(h0: -9223372036854775808<=n)(h1:n<=9223372036854775807):IntKind.i64.wrap n=n:=by
 unfold IntKind.wrap;simp[IntKind.bits,IntKind.signed];split<;>omega
theorem Mt{n:Int}(h0:0<=n)(h1:n<=18446744073709551615):IntKind.u64.wrap n=n:=by
 unfold IntKind.wrap;simp[IntKind.bits,IntKind.signed];omega
theorem TF{n:Int}(h0: -2147483648<=n)(h1:n<=2147483647):IntKind.i32.wrap n=n:=by
 unfold IntKind.wrap;simp[IntKind.bits,IntKind.signed];split<;>omega
theorem TH{n:Int}(h0:0<=n)(h1:n<=4294967295):IntKind.u32.wrap n=n:=by
 unfold IntKind.wrap;simp[IntKind.bits,IntKind.signed];omega
theorem TG{n:Int}(h0:0<=n)(h1:n<=65535):IntKind.u16.wrap n=n:=by
 unfold IntKind.wrap;simp[IntKind.bits,IntKind.signed];omega
theorem TI{n:Int}(h0:0<=n)(h1:n<=255):IntKind.u8.wrap n=n:=by
 unfold IntKind.wrap;simp[IntKind.bits,IntKind.signed];omega
theorem AQ(x y:ByteArray):(aE .eql t ox oy (.string x) (.string y)).run P w= .ok (.value (.bool (x.toList==y.toList))) w:=by
 simp[aE,xJ,jW,binOp,Op.stringOp,eqGuard]
theorem Jd(x y:ByteArray):(aE .neq t ox oy (.string x) (.string y)).run P w= .ok (.value (.bool !(x.toList==y.toList))) w:=by
 simp[aE,xJ,jW,binOp,Op.stringOp,eqGuard]
theorem PQ(n:Nat){e:TypeId}(hu:P.underlying t=some (.pointer e))(x:Option Addr):(Op.equalIn (n+1) t (.pointer x) (.pointer none)).run P w= .ok x.isNone w:=by
 simp only[Op.equalIn,underlying]
 cases x<;>simp[hu]
theorem PR{e:TypeId}(hu:P.underlying t=some (.pointer e))(x:Option Addr):(Op.equal t (.pointer x) (.pointer none)).run P w= .ok x.isNone w:=PQ 9999 hu x
theorem Rk(m:Nat){e:TypeId}(hu:P.underlying t=some (.slice e))(x:Option Addr)(n c:Nat):(Op.equalIn (m+1) t (.slice x n c) (.slice none 0 0)).run P w= .ok x.isNone w:=by
 simp only[Op.equalIn,underlying]
 cases x<;>simp[hu]
theorem S4 {e:TypeId}(hu:P.underlying t=some (.slice e))(x:Option Addr)(n c:Nat):(Op.equal t (.slice x n c) (.slice none 0 0)).run P w= .ok x.isNone w:=Rk 9999 hu x n c
theorem Sz{e:TypeId}(hu:P.underlying t=some (.pointer e))(x:Option Addr):(aE .eql t ox oy (.pointer x) (.pointer none)).run P w= .ok (.value (.bool x.isNone)) w:=
 Ju rfl rfl (PR hu x)
theorem SA{e:TypeId}(hu:P.underlying t=some (.pointer e))(x:Option Addr):(aE .neq t ox oy (.pointer x) (.pointer none)).run P w= .ok (.value (.bool (!x.isNone))) w:=
 Mg rfl rfl (PR hu x)
theorem RB{e:TypeId}(hu:P.underlying t=some (.slice e))(x:Option Addr)(n c:Nat):(aE .eql t ox oy (.slice x n c) (.slice none 0 0)).run P w= .ok (.value (.bool x.isNone)) w:=
 Ju rfl rfl (S4 hu x n c)
theorem FD{s:TypeId}{d:TypeDesc}{kd:IntKind}(hs:P.underlying s=some d)(hu:P.underlying t=some (.int kd)):(qI s t (.int k a)).run P w= .ok (.value (.int kd (kd.wrap a))) w:=by
 cases d<;>simp[qI,jW,convert,underlying,hs,hu,Conv.intToInt]
theorem FE{ty:TypeId}{e:TypeId}(hu:P.underlying t=some (.slice e))(x:Option Addr)(n c:Nat):(kY .len #[t] ty [.slice x n c]).run P w= .ok (.value (.int .i64 n)) w:=by
 simp[kY,builtin,Builtin.len_,underlying,hu,goInt]
theorem Sx{ty:TypeId}(hu:P.underlying t=some .string)(x:ByteArray):(kY .len #[t] ty [.string x]).run P w= .ok (.value (.int .i64 x.size)) w:=by
 simp[kY,builtin,Builtin.len_,underlying,hu,goInt]
theorem Td{ats:Array TypeId}{ty:TypeId}:(kY .min ats ty [.int k a,.int k b]).run P w= .ok (.value (.int k (if b<a then b else a))) w:=by
 simp[kY,builtin,Builtin.min_,Builtin.min2]
theorem Tc{ats:Array TypeId}{ty:TypeId}:(kY .max ats ty [.int k a,.int k b]).run P w= .ok (.value (.int k (if b>a then b else a))) w:=by
 simp[kY,builtin,Builtin.max_,Builtin.max2]
theorem Uk(a b:V3):(cA (.tuple #[a,b]) 0).run P w= .ok (.value a) w:=Eq.trans rfl rfl
theorem Ul(a b:V3):(cA (.tuple #[a,b]) 1).run P w= .ok (.value b) w:=Eq.trans rfl rfl
theorem Um(a b c:V3):(cA (.tuple #[a,b,c]) 0).run P w= .ok (.value a) w:=Eq.trans rfl rfl
theorem Un(a b c:V3):(cA (.tuple #[a,b,c]) 1).run P w= .ok (.value b) w:=Eq.trans rfl rfl
theorem Uo(a b c:V3):(cA (.tuple #[a,b,c]) 2).run P w= .ok (.value c) w:=Eq.trans rfl rfl
theorem Up(a b c d:V3):(cA (.tuple #[a,b,c,d]) 0).run P w= .ok (.value a) w:=Eq.trans rfl rfl
theorem Uq(a b c d:V3):(cA (.tuple #[a,b,c,d]) 1).run P w= .ok (.value b) w:=Eq.trans rfl rfl
theorem Ur(a b c d:V3):(cA (.tuple #[a,b,c,d]) 2).run P w= .ok (.value c) w:=Eq.trans rfl rfl
theorem Us(a b c d:V3):(cA (.tuple #[a,b,c,d]) 3).run P w= .ok (.value d) w:=Eq.trans rfl rfl
theorem Th(x:Addr):(lO (.pointer (some x))).run P w= .ok (.value (.pointer (some x))) w:=Eq.trans rfl rfl
theorem eB{fs:Array Field}{f:Field}{i:Nat}{inf:TypeInfo}(hu:P.underlying t=some (.struct fs))(hf:fs[i]?=some f)
 (hi:P.info? f.type=some inf) (hz:inf.size≠0) (x:Addr):(aF t (.pointer (some x)) i).run P w= .ok (.value (.pointer (some (x.add f.offset)))) w:=by
 simp[aF,jW,Instr.fieldAt,underlying,hu,hf,Instr.sureAddr,fieldPlace,sizeOf,typeInfo,hi,hz]
theorem L4 {e:TypeId}{inf:TypeInfo}(hu:P.underlying t=some (.slice e))(hi:P.info? e=some inf)(x:Addr)(n c:Nat)(h0:0<=a)(h1:a<n):
 (aL t (.slice (some x) n c) (.int k a)).run P w= .ok (.value (.pointer (some (x.add (a.toNat*inf.size))))) w:=by
 simp[aL,jW,Instr.indexAt,asIntOf,underlying,hu,h0,h1,sizeOf,typeInfo,hi]
theorem Sw(hu:P.underlying t=some .string)(x:ByteArray)(h0:0<=a)(h1:a.toNat<x.size):
 (OX t (.string x) (.int k a)).run P w= .ok (.value (.int .u8 (x[a.toNat]'h1).toNat)) w:=by
 simp[OX,jW,Instr.index,asIntOf,underlying,hu,h0,h1]
end
def bD(w:V2)(b:Nat)(cs:List V3):Prop:=
 ∃T lo hi,w.heap[b]?=some (.cells cs.toArray T (lo,hi))/\(cs.length<=lo∨hi=lo)
structure aJ(w w':V2)(M:Nat->Prop):Prop where
 os:w'.os=w.os
 tape:w'.tape=w.tape
 output:w'.output=w.output
 size:w.heap.size<=w'.heap.size
 keep:∀b,b<w.heap.size->¬M b->w'.heap[b]?=w.heap[b]?
def bQ:Nat->Prop:=λ_=>False
theorem aJ.refl (w:V2)(M:Nat->Prop):aJ w w M:=⟨rfl,rfl,rfl,UF _,λ_ _ _=>rfl⟩
theorem aJ.mono {w w':V2}{M N:Nat->Prop}(h:aJ w w' M)(hm:∀b,b<w.heap.size->M b->N b):aJ w w' N:=
 ⟨h.os,h.tape,h.output,h.size,λb hb hn=>h.keep b hb λhM=>hn (hm b hb hM)⟩
theorem aJ.trans {a b c:V2}{M N:Nat->Prop}(h:aJ a b M)(k:aJ b c N)(hn:∀x,x<a.heap.size->N x->M x):aJ a c M:=
 ⟨k.os.trans h.os,k.tape.trans h.tape,k.output.trans h.output,Vm h.size k.size,
   λx hx hM=>(k.keep x (UQ hx h.size) λh=>hM (hn x hx h)).trans (h.keep x hx hM)⟩
theorem aJ.seq {a b c:V2}{M:Nat->Prop}(h:aJ a b M)(k:aJ b c M):aJ a c M:=h.trans k λ_ _ h=>h
theorem aJ.new {a b c:V2}{M:Nat->Prop}{x:Nat}(h:aJ a b M)(k:aJ b c (λy=>y=x))(hx:a.heap.size<=x):aJ a c M:=
 h.trans k λy hy e=>absurd hy (by subst e;omega)
theorem aJ.more {a b c:V2}{M:Nat->Prop}(h:aJ a b M)(k:aJ b c (λ_=>False)):aJ a c M:=h.trans k λ_ _ h=>h.elim
theorem aJ.below {w w':V2}(h:aJ w w' bQ):Go.RowKit.Below w.heap.size w w':=
 ⟨h.os,h.tape,h.output,h.size,λk hk=>h.keep k hk λh=>h⟩
theorem aJ.dr (w:V2)(M:Nat->Prop):aJ w (dr w) M:=⟨rfl,rfl,rfl,UF _,λ_ _ _=>rfl⟩
theorem aJ.alloc (w:V2)(o:Obj)(M:Nat->Prop):aJ w (w.alloc o) M:=
 ⟨rfl,rfl,rfl,by simp,λb hb _=>by show(w.heap.push o)[b]?=_;rw[Array.getElem?_push,if_neg (by omega)]⟩
theorem H5 (w:V2)(a:Addr)(v:V3)(b:Nat)(h:b≠a.block):(w.setCell a v).heap[b]?=w.heap[b]?:=Go.RowKit.Below.heap_setCell w a v b h
theorem aJ.setCell (w:V2)(a:Addr)(v:V3){M:Nat->Prop}(h:a.block<w.heap.size->M a.block):aJ w (w.setCell a v) M:=
 ⟨rfl,rfl,rfl,by simp,λb hb hM=>H5 w a v b λe=>hM (e▸h (e▸hb))⟩
theorem bD.lt {w:V2}{b:Nat}{cs:List V3}(h:bD w b cs):b<w.heap.size:=by
 obtain⟨T,lo,hi,h,_⟩:=h
 rcases U0 b w.heap.size with h'|h'
 .exact h'
 .rw [UR h']at h;cases h
theorem bD.ext {w w':V2}{b:Nat}{cs:List V3}{M:Nat->Prop}(h:bD w b cs)(hx:aJ w w' M)(hM:¬M b):bD w' b cs:=by
 have:=h.lt
 obtain⟨T,lo,hi,h,k⟩:=h
 exact⟨T,lo,hi,by rw[hx.keep b this hM];exact h,k⟩
theorem bD.cell {w:V2}{b off:Nat}{cs:List V3}(h:bD w b cs):w.cell? ⟨b,off,none⟩=cs[off]?:=by
 obtain⟨T,lo,hi,h,_⟩:=h
 simp[World.cell?,h]
theorem bD.free {w:V2}{b off:Nat}{cs:List V3}{s:Option Nat}(h:bD w b cs)(ho:off<cs.length):w.frozen? ⟨b,off,s⟩=false:=by
 obtain⟨T,lo,hi,h,k⟩:=h
 simp only[World.frozen?,h]
 rcases k with k|k<;>(simp;omega)
theorem bD.setCell {w:V2}{b off:Nat}{cs:List V3}(h:bD w b cs)(v:V3):bD (w.setCell ⟨b,off,none⟩ v) b (cs.set off v):=by
 have hb:=h.lt
 obtain⟨T,lo,hi,h,k⟩:=h
 refine⟨T,lo,hi, ?_,by simpa using k⟩
 simp only[World.setCell,Vp,h]
 simp
theorem bD.alloc (w:V2)(cs:List V3)(T:TypeId):bD (w.alloc (.cells cs.toArray T)) w.heap.size cs:=
 ⟨T,0,0,by show(w.heap.push _)[w.heap.size]?=_;simp,.inr rfl⟩
theorem Py{w w':V2}{M:Nat->Prop}{a:Addr}{v:V3}(h:w.cell? a=some v)(hx:aJ w w' M)(hM:¬M a.block):w'.cell? a=some v:=by
 have hb:=World.block_lt_of_cell? w a h
 have e:=hx.keep _ hb hM
 unfold World.cell? at h⊢
 rw[e];exact h
section
variable{P:Program}{w:V2}{t:TypeId}
def Ou(d:TypeDesc):Bool:=match d with| .struct _| .array _ _=>true|_=>false
theorem DO{d:TypeDesc}(hu:P.underlying t=some d):(isAgg t).run P w= .ok (Ou d) w:=by
 cases d<;>simp[isAgg,underlying,hu,Ou]
theorem eY{i:TypeInfo}(hi:P.info? t=some i):(sizeOf t).run P w= .ok i.size w:=by simp[sizeOf,typeInfo,hi]
theorem Gp{b off:Nat}{cs:List V3}(ho:bD w b cs):∀(n i:Nat) (acc:Array V3),off+i+n<=cs.length→
 (loadCellsFrom ⟨b,off,none⟩ i n acc).run P w= .ok (acc++((cs.drop (off+i)).take n).toArray) w:=by
 intro n
 induction n with
 |zero=>intro i acc _;simp[loadCellsFrom]
 |succ n ih=>
  intro i acc h
  have hc:w.cell? ((⟨b,off,none⟩:Addr).add i)=some cs[off+i]:=by
   unfold Addr.add
   split
   .rename_i hi;subst hi;rw[ho.cell];simp
   .show w.cell? ⟨b,off+i,none⟩=_;rw[ho.cell];simp
  simp only[loadCellsFrom,Sem.run_bind,run_load,hc,Result.andThen_ok]
  rw[ih (i+1) _ (by omega)]
  congr 1
  rw[Vb (by omega:off+i<cs.length)]
  simp[Vi]
theorem EF{b off n:Nat}{cs:List V3}(ho:bD w b cs)(h:off+n<=cs.length):
 (loadCells ⟨b,off,none⟩ n).run P w= .ok ((cs.drop off).take n).toArray w:=by
 unfold loadCells
 rw[Gp ho n 0 #[] (by omega)]
 simp
theorem Iu{d:TypeDesc}{i:TypeInfo}(hu:P.underlying t=some d)(hd:Ou d=true)(hi:P.info? t=some i){b off:Nat}{cs:List V3}(ho:bD w b cs)(h:off+i.size<=cs.length):
 (aD t (.pointer (some ⟨b,off,none⟩))).run P w= .ok (.value (.agg ((cs.drop off).take i.size).toArray)) w:=by
 unfold aD
 rw[jW]
 simp only[Instr.loadAt,Instr.sureAddr,loadVar,pure_bind,Sem.run_bind,DO hu,hd,Result.andThen_ok,if_true,eY hi,EF ho h,Sem.run_pure]
def one(v:V3):Bool:=match v with| .agg _| .tuple _=>false|_=>true
theorem Nh{a:Addr}{v x:V3}(hv:one v=true)(hc:w.cell? a=some x)(hf:w.frozen? a=false):(store a v).run P w= .ok () (w.setCell a v):=by
 unfold store
 cases v<;>simp[one]at hv<;>simp[Sem.run,hc,hf]
def mW(cs:List V3)(off:Nat):List V3->List V3
 |[]=>cs
 |v::vs=>mW (cs.set off v) (off+1) vs
theorem zM{b:Nat}{M:Nat->Prop}(hM:M b):∀(vs:List V3) (w:V2) (off i:Nat) (cs:List V3),bD w b cs->off+i+vs.length<=cs.length->(∀v∈vs,one v=true)→
 ∃w',(storeCells ⟨b,off,none⟩ vs i).run P w= .ok () w'/\bD w' b (mW cs (off+i) vs)/\aJ w w' M/\w'.heap.size=w.heap.size/\w'.drawn=w.drawn:=by
 intro vs
 induction vs with
 |nil=>intro w off i cs ho _ _;exact⟨w,by simp[storeCells],ho,aJ.refl _ _,rfl,rfl⟩
 |cons v vs ih=>
  intro w off i cs ho h hv
  simp only[UL]at h
  have ha:(⟨b,off,none⟩:Addr).add i=⟨b,off+i,none⟩:=by
   unfold Addr.add;split
   .rename_i hi;subst hi;rfl
   .rfl
  have hlt:off+i<cs.length:=by omega
  have hc:w.cell? ⟨b,off+i,none⟩=some cs[off+i]:=by rw[ho.cell];simp
  have hs:=Nh (P:=P) (hv v (by simp)) hc (ho.free hlt)
  obtain⟨w',h1,h2,h3,h4,h5⟩:=ih (w.setCell ⟨b,off+i,none⟩ v) off (i+1) (cs.set (off+i) v) (ho.setCell v) (by simp;omega) (λx hx=>hv x (UC _ hx))
  refine⟨w', ?_,h2,(aJ.setCell w _ v λ_=>hM).trans h3 (λ_ _ h=>h),by rw[h4];simp,by rw[h5]<;>rfl⟩
  simp only[storeCells,Sem.run_bind,ha,hs,Result.andThen_ok]
  exact h1
theorem Hz{i:TypeInfo}(hi:P.info? t=some i){b off:Nat}{cs:List V3}(ho:bD w b cs){v:V3}(hs:v.cells.size=i.size)
 (hv:∀x∈v.cells.toList,one x=true) (h:off+i.size<=cs.length) {K:V3->V2->Prop}
 (hk:∀w',bD w' b (mW cs off v.cells.toList)->aJ w w' (λx=>x=b)->w'.heap.size=w.heap.size->K undef w'):aB P (aO t (.pointer (some ⟨b,off,none⟩)) v) w K:=by
 obtain⟨w',h1,h2,h3,h4,_⟩:=zM (P:=P) (M:=λx=>x=b) rfl v.cells.toList w off 0 cs ho (by simp[hs];omega) hv
 have:(aO t (.pointer (some ⟨b,off,none⟩)) v).run P w= .ok .skip w':=by
  unfold aO
  rw[Tp]
  simp only[Instr.storeAt,Instr.sureAddr,storeVar,pure_bind,Sem.run_bind,eY hi,Result.andThen_ok,hs]
  simp[h1]
 unfold aB
 rw[this]
 exact hk w' h2 h3 h4
theorem Kd{v:V3}(hv:one v=true):v.cells= #[v]:=by cases v<;>simp[one]at hv<;>rfl
theorem mE{i:TypeInfo}(hi:P.info? t=some i)(h1:i.size=1){b off:Nat}{cs:List V3}(ho:bD w b cs){v:V3}(hv:one v=true)(h:off<cs.length){K:V3->V2->Prop}
 (hk:∀w',bD w' b (cs.set off v)->aJ w w' (λx=>x=b)->w'.heap.size=w.heap.size->K undef w'):aB P (aO t (.pointer (some ⟨b,off,none⟩)) v) w K:=by
 have e:=Kd hv
 refine Hz hi ho (by rw[e,h1]<;>rfl) (by rw[e];simpa using hv) (by omega) λw' a b c=>hk w' ?_ b c
 rw[e]at a;exact a
def MT(c:Option V3)(w:V2)(MM:Result Next):Result Next:=match c with|some v=> .ok (.value v) w|none=>MM
def MM(P:Program)(t:TypeId)(x:Addr)(w:V2):Result Next:=(aD t (.pointer (some x))).run P w
theorem gO(v:V3)(w:V2)(f:Result Next):MT (some v) w f= .ok (.value v) w:=rfl
theorem H9 {d:TypeDesc}(hu:P.underlying t=some d)(hd:Ou d=false)(x:Addr)(w:V2):
 (aD t (.pointer (some x))).run P w=MT (w.cell? x) w (MM P t x w):=by
 cases h:w.cell? x with
 |none=>rfl
 |some v=>
  unfold aD
  rw[jW]
  simp only[Instr.loadAt,Instr.sureAddr,loadVar,pure_bind,Sem.run_bind,DO hu,hd,Result.andThen_ok,UE,if_false,run_load,h,MT]
theorem Rp{d:TypeDesc}{i:TypeInfo}(hu:P.underlying t=some d)(hd:Ou d=true)(hi:P.info? t=some i){b off:Nat}{cs:List V3}(ho:bD w b cs)(h:off+i.size<=cs.length){K:V3->Prop}
 (hk:K (.agg ((cs.drop off).take i.size).toArray)):HW P t (.pointer (some ⟨b,off,none⟩)) w K:=by
 refine⟨_, ?_,hk⟩
 simp only[asAddr,loadVar,pure_bind,Sem.run_bind,DO hu,hd,Result.andThen_ok,if_true,eY hi,EF ho h,Sem.run_pure]
theorem jY{v:V3}{K:V3->V2->Prop}(hk:∀w',bD w' w.heap.size v.cells.toList->aJ w w' bQ->w'.heap.size=w.heap.size+1->K (.pointer (some ⟨w.heap.size,0,none⟩)) w'):
 aB P (zZ t v) w K:=by
 have:(zZ t v).run P w= .ok (.value (.pointer (some ⟨w.heap.size,0,none⟩))) (w.alloc (.cells v.cells.toList.toArray t)):=by
  unfold zZ;rw[jW]
  simp[Instr.box,newVar,newRow]
 unfold aB
 rw[this]
 exact hk _ (bD.alloc _ _ _) (aJ.alloc _ _ _) (by simp)
theorem DX{i:TypeInfo}{z:V3}(hi:P.info? t=some i)(hz:i.zero=some z){K:V3->V2->Prop}
 (hk:∀w',bD w' w.heap.size z.cells.toList->aJ w w' bQ->w'.heap.size=w.heap.size+1->K (.pointer (some ⟨w.heap.size,0,none⟩)) w'):
 aB P (lE t) w K:=by
 have:(lE t).run P w= .ok (.value (.pointer (some ⟨w.heap.size,0,none⟩))) (w.alloc (.cells z.cells.toList.toArray t)):=by
  unfold lE;rw[jW]
  simp[Instr.alloc,zeroValue,typeInfo,hi,hz,newVar,newRow]
 unfold aB
 rw[this]
 exact hk _ (bD.alloc _ _ _) (aJ.alloc _ _ _) (by simp)
end
theorem DL{P:Program}{w:V2}{k:IntKind}{a:Int}{y:Nat}{code:BoundsCode}(h0:0<=a)(h1:a<=y):(Instr.sliceBound (.int k a) y code).run P w= .ok a.toNat w:=by
 simp[Instr.sliceBound,asIntOf,h0,h1]
section
variable{P:Program}{w:V2}{t e:TypeId}{k k':IntKind}{lo hi:Int}{i:TypeInfo}
def lF(x:Option Addr)(m l sz:Nat):Option Addr:=if m=l then x else x.map (·.add (l*sz))
theorem Jc(hu:P.underlying t=some (.slice e))(hi':P.info? e=some i)(x:Option Addr)(n c:Nat)(h0:0<=lo)(h1:lo<=n):
 (uQ t (.slice x n c) (some (.int k lo)) none none).run P w= .ok (.value (.slice (lF x c lo.toNat i.size) (n-lo.toNat) (c-lo.toNat))) w:=by
 simp only[uQ,jW,Instr.sliceAt,underlying,hu,Sem.run_bind,run_program,Result.andThen_ok,Sem.run_pure,Instr.slice,Instr.sliceBounds,pure_bind,DL h0 h1,eY hi',lF]
theorem M4 (hu:P.underlying t=some (.slice e))(hi':P.info? e=some i)(x:Option Addr)(n c:Nat)(h0:0<=hi)(h1:hi<=c):
 (uQ t (.slice x n c) none (some (.int k hi)) none).run P w= .ok (.value (.slice (lF x c 0 i.size) (hi.toNat-0) (c-0))) w:=by
 simp only[uQ,jW,Instr.sliceAt,underlying,hu,Sem.run_bind,run_program,Result.andThen_ok,Sem.run_pure,Instr.slice,Instr.sliceBounds,pure_bind,DL h0 h1,eY hi',lF]
theorem KM(hu:P.underlying t=some (.slice e))(hi':P.info? e=some i)(x:Option Addr)(n c:Nat)(h0:0<=lo)(h1:lo<=hi)(h2:hi<=c):
 (uQ t (.slice x n c) (some (.int k lo)) (some (.int k' hi)) none).run P w= .ok (.value (.slice (lF x c lo.toNat i.size) (hi.toNat-lo.toNat) (c-lo.toNat))) w:=by
 have h3:(0:Int)<=hi:=by omega
 have h4:lo<=(hi.toNat:Int):=by omega
 simp only[uQ,jW,Instr.sliceAt,underlying,hu,Sem.run_bind,run_program,Result.andThen_ok,Sem.run_pure,Instr.slice,Instr.sliceBounds,pure_bind,DL h3 h2,DL h0 h4,eY hi',lF]
end
def Sl(w:V2)(v:V3)(l:List V3):Prop:=
 ∃a n c,v= .slice a n c/\n=l.length/\n<=c/\(0<n->∃b off,a=some ⟨b,off,none⟩/\∀i,i<n->w.cell? ⟨b,off+i,none⟩=l[i]?)
def Ci(v:V3)(M:Nat->Prop):Prop:=match v with| .slice (some a) (_+1) _=>M a.block|_=>False
theorem Sl.ext {w w':V2}{v:V3}{l:List V3}{M:Nat->Prop}(h:Sl w v l)(hx:aJ w w' M)(hM:¬Ci v M):Sl w' v l:=by
 obtain⟨a,n,c,rfl,hn,hc,h⟩:=h
 refine⟨a,n,c,rfl,hn,hc,λh0=> ?_⟩
 obtain⟨b,off,rfl,h2⟩:=h h0
 refine⟨b,off,rfl,λi hi=> ?_⟩
 have h1:=h2 i hi
 obtain⟨v,hv⟩:∃v,l[i]?=some v:=⟨l[i],by simp⟩
 rw[hv]at h1⊢
 refine Py h1 hx ?_
 obtain⟨m,rfl⟩:∃m,n=m+1:=⟨n-1,by omega⟩
 exact hM
theorem Sl.old {w:V2}{v:V3}{l:List V3}(h:Sl w v l):¬Ci v (λb=>w.heap.size<=b):=by
 obtain⟨a,n,c,rfl,hn,hc,h⟩:=h
 unfold Ci
 split
 .rename_i x m _ e
  obtain⟨rfl,rfl,rfl⟩:a=some x/\n=m+1/\c=_:=by simpa using e
  obtain⟨b,off,e,h2⟩:=h (by omega)
  have e:=U5 e;subst e
  have h1:=h2 0 (by omega)
  obtain⟨v,hv⟩:∃v,l[0]?=some v:=⟨l[0],by simp⟩
  rw[hv]at h1
  have:=World.block_lt_of_cell? _ _ h1
  simp at this⊢;omega
 .simp
def xF(x:UInt8):V3:= .int .u8 x.toNat
abbrev Bs(w:V2)(v:V3)(l:List UInt8):Prop:=Sl w v (l.map xF)
theorem Ay(b o n:Nat):(⟨b,o,none⟩:Addr).add n=⟨b,o+n,none⟩:=by
 unfold Addr.add;split
 .rename_i h;subst h;rfl
 .rfl
section
variable{P:Program}{w:V2}{t e:TypeId}{k:IntKind}{a:Int}
theorem DT{inf:TypeInfo}{sz:Nat}(hz:inf.size=sz)(hu:P.underlying t=some (.slice e))(hi:P.info? e=some inf)(b o n c:Nat)(h0:0<=a)(h1:a<n):
 (aL t (.slice (some ⟨b,o,none⟩) n c) (.int k a)).run P w= .ok (.value (.pointer (some ⟨b,o+a.toNat*sz,none⟩))) w:=by
 rw[L4 hu hi _ n c h0 h1,Ay,hz]
theorem Hf{inf:TypeInfo}(hz:inf.size=1)(hu:P.underlying t=some (.slice e))(hi:P.info? e=some inf)(b o n c:Nat)(h0:0<=a)(h1:a<n):
 (aL t (.slice (some ⟨b,o,none⟩) n c) (.int k a)).run P w= .ok (.value (.pointer (some ⟨b,o+a.toNat,none⟩))) w:=by
 rw[L4 hu hi _ n c h0 h1,Ay,hz,Nat.mul_one]
end
section
variable{P:Program}{w:V2}{s d e:TypeId}
theorem Qq(hs:P.underlying s=some (.slice e))(hd:P.underlying d=some .string)(he:P.underlying e=some (.int .u8)){l:List UInt8}{v:V3}(h:Bs w v l):
 (qI s d v).run P w= .ok (.value (.string ⟨l.toArray⟩)) w:=by
 obtain⟨a,n,c,rfl,hn,hc,h⟩:=h
 simp only[UA]at hn
 unfold qI
 rw[jW]
 have key:(convert s d (.slice a n c)).run P w= .ok (.string ⟨l.toArray⟩) w:=by
  cases a with
  |none=>
   have hl:l=[]:=by
    cases l with
    |nil=>rfl
    |cons x l=>obtain⟨b,off,e,_⟩:=h (by rw[hn];simp);cases e
   subst hl
   rw[run_convert_bytes_string w s d e none n c hs he hd]
   rfl
  |some x=>
   subst hn
   refine run_convert_bytes_back w s d e x c l hs he hd λj hj=> ?_
   obtain⟨b,off,hx,h2⟩:=h (by omega)
   have hx:=U5 hx
   subst hx
   rw[Ay,h2 j hj]
   simp[xF,hj]
 rw[key]<;>rfl
theorem Nq(hs:P.underlying s=some .string)(hd:P.underlying d=some (.slice e))(he:P.underlying e=some (.int .u8)){x:ByteArray}{K:V3->V2->Prop}
 (hk:∀w' c,Sl w' (.slice (some ⟨w.heap.size,0,none⟩) x.size c) (x.data.toList.map xF)->aJ w w' bQ->w'.heap.size=w.heap.size+1→
  (∃r,bD w' w.heap.size (x.data.toList.map xF++List.replicate r (Value.int .u8 0))/\c=x.size+r)->K (.slice (some ⟨w.heap.size,0,none⟩) x.size c) w'):aB P (qI s d (.string x)) w K:=by
 have run:=run_bytes_of_string (P:=P) w s d e x hs hd he
 have hcap:x.size<=grownCap w x.size 0 e:=Nat.le_add_right _ _
 generalize grownCap w x.size 0 e=c at run hcap
 obtain⟨r,rfl⟩:∃r,c=x.size+r:=⟨c-x.size,by omega⟩
 have hrow:bytesRow x (x.size+r)=(x.data.toList.map xF++List.replicate r (Value.int .u8 0)).toArray:=by
  unfold bytesRow
  have:x.size+r-x.size=r:=by omega
  rw[this]
  apply Array.ext'
  simp only[Array.toList_append,Array.toList_map,Array.toList_replicate]
  rfl
 rw[hrow]at run
 have hlen:(x.data.toList.map xF).length=x.size:=by rw[UA,VL]<;>rfl
 have hsz:(x.data.toList.map xF++List.replicate r (Value.int .u8 0)).toArray.size=x.size+r:=by
  rw[VN,Uu,Vf,hlen]
 rw[hsz]at run
 unfold aB qI
 rw[jW,run]
 have ho:bD (w.drew.alloc (.cells (x.data.toList.map xF++List.replicate r (Value.int .u8 0)).toArray e (x.size+r,x.size+r+1))) w.heap.size (x.data.toList.map xF++List.replicate r (Value.int .u8 0)):=
  ⟨e,x.size+r,x.size+r+1,Array.getElem?_push_size,.inl (by rw[Uu,Vf,hlen];exact UF _)⟩
 have hx:aJ w (w.drew.alloc (.cells (x.data.toList.map xF++List.replicate r (Value.int .u8 0)).toArray e (x.size+r,x.size+r+1))) bQ:=(aJ.dr w bQ).trans (aJ.alloc _ _ bQ) (λ_ _ h=>h)
 refine hk _ _ ⟨_,_,_,rfl,hlen.symm,by omega,λ_=>⟨_,_,rfl,λi hi=> ?_⟩⟩ hx (by show(w.heap.push _).size=_;rw[Array.size_push]) ⟨r,ho,rfl⟩
 rw[ho.cell]
 simp only[Uw]
 rw[UN (by rw[hlen];exact hi)]
end
theorem MD(l:List UInt8):∀x∈l.map xF,one x=true:=by
 intro x hx
 obtain⟨c,_,rfl⟩:=U1.1 hx
 rfl
theorem Sl.drop {w:V2}{b o n c:Nat}{l:List V3}(h:Sl w (.slice (some ⟨b,o,none⟩) n c) l){k:Nat}(hk:k<=n):
 Sl w (.slice (lF (some ⟨b,o,none⟩) c k 1) (n-k) (c-k)) (l.drop k):=by
 obtain⟨x,m,c',e,hm,hc,hh⟩:=h
 cases e
 refine⟨_,_,_,rfl,by rw[U8];omega,by omega,λh0=> ?_⟩
 obtain⟨b',o',e,h2⟩:=hh (by omega)
 cases e
 have hne:¬c=k:=by omega
 refine⟨b,o+k,by unfold lF;rw[if_neg hne,Vd,Ay,Nat.mul_one],λi hi=> ?_⟩
 rw[Vi,h2 (k+i) (by omega),List.getElem?_drop]
theorem Sl.take {w:V2}{b o n c:Nat}{l:List V3}(h:Sl w (.slice (some ⟨b,o,none⟩) n c) l){k:Nat}(hk:k<=n):
 Sl w (.slice (lF (some ⟨b,o,none⟩) c 0 1) (k-0) (c-0)) (l.take k):=by
 obtain⟨x,m,c',e,hm,hc,hh⟩:=h
 cases e
 refine⟨_,_,_,rfl,by rw[US];omega,by omega,λh0=> ?_⟩
 obtain⟨b',o',e,h2⟩:=hh (by omega)
 cases e
 have hne:¬c=0:=by omega
 refine⟨b,o,by unfold lF;rw[if_neg hne,Vd,Ay]<;>rfl,λi hi=> ?_⟩
 rw[h2 i (by omega),List.getElem?_take_of_lt (by omega)]
theorem bD.bs {w:V2}{b off c:Nat}{cs:List V3}{l:List UInt8}(h:bD w b cs)(hc:l.length<=c)(hl:∀i (hi:i<l.length),cs[off+i]?=some (xF l[i])):Bs w (.slice (some ⟨b,off,none⟩) l.length c) l:=
 ⟨_,_,_,rfl,by simp,hc,λ_=>⟨b,off,rfl,λi hi=>by rw[h.cell,hl i hi];simp[hi]⟩⟩
section
variable{P:Program}{w:V2}{t e:TypeId}{k:IntKind}{a:Int}
theorem Gr{b off:Nat}{l:List V3}(h:∀i,i<l.length->w.cell? ⟨b,off+i,none⟩=l[i]?)(n:Nat)(hn:n<=l.length):
 (loadCells ⟨b,off,none⟩ n).run P w= .ok (l.take n).toArray w:=by
 have key:∀(m i:Nat) (acc:Array V3),i+m<=l.length->(loadCellsFrom ⟨b,off,none⟩ i m acc).run P w= .ok (acc++((l.drop i).take m).toArray) w:=by
  intro m
  induction m with
  |zero=>intro i acc _;simp[loadCellsFrom]
  |succ m ih=>
   intro i acc hm
   have hc:=h i (by omega)
   rw[UG (by omega)]at hc
   simp only[loadCellsFrom,Sem.run_bind,run_load,Ay,hc,Result.andThen_ok]
   rw[ih (i+1) _ (by omega),Vb (by omega:i<l.length),List.take_succ_cons]
   simp
 unfold loadCells
 rw[key n 0 #[] (by omega)]
 simp
theorem JN{sz n:Nat}{v:V3}{l:List V3}(h1:sz=1)(h:Sl w v l)(hn:n<=l.length):(Builtin.firstCells sz n v).run P w= .ok (l.take n).toArray w:=by
 subst h1
 obtain⟨x,m,c,rfl,hm,hc,hh⟩:=h
 cases x with
 |none=>
  have:l=[]:=by
   cases l with
   |nil=>rfl
   |cons y l=>obtain⟨b,off,e,_⟩:=hh (by rw[hm];simp);cases e
  subst this
  simp[Builtin.firstCells]
 |some x=>
  simp only[Builtin.firstCells,Nat.mul_one]
  by_cases h0:0<m
  .obtain ⟨b,off,e,h2⟩:=hh h0
   have e:=U5 e;subst e
   exact Gr (λi hi=>h2 i (by omega)) n hn
  .have h00:n=0:=by omega
   subst h00
   simp[loadCells,loadCellsFrom]
theorem SE{v:V3}{l:List V3}(h:Sl w v l):(Builtin.lenOf v).run P w= .ok l.length w:=by
 obtain⟨x,m,c,rfl,hm,hc,hh⟩:=h
 simp[Builtin.lenOf,hm]
theorem QI{ty t2:TypeId}{i:TypeInfo}(hu:P.underlying t=some (.slice e))(hi:P.info? e=some i)(h1:i.size=1){b off dl c:Nat}{cs:List V3}(ho:bD w b cs)(hl:off+dl<=cs.length)
 {v:V3} {l:List V3} (h:Sl w v l) (hv:∀x∈l,one x=true) {K:V3->V2->Prop}
 (hk:∀w',bD w' b (mW cs off (l.take (min l.length dl)))->aJ w w' (λx=>x=b)->w'.heap.size=w.heap.size->K (.int .i64 (min l.length dl:Nat)) w'):
 aB P (kY .copy #[t,t2] ty [.slice (some ⟨b,off,none⟩) dl c,v]) w K:=by
 have hlen:(l.take (min l.length dl)).length=min l.length dl:=by rw[US];omega
 obtain⟨w',s1,s2,s3,s4,_⟩:=zM (P:=P) (M:=λx=>x=b) rfl (l.take (min l.length dl)) w off 0 cs ho (by rw[hlen];omega) (λx hx=>hv x (VW hx))
 have:(kY .copy #[t,t2] ty [.slice (some ⟨b,off,none⟩) dl c,v]).run P w= .ok (.value (.int .i64 (min l.length dl:Nat))) w':=by
  unfold kY builtin
  simp only[Builtin.copy_,Vr,Uv,Ux]
  simp only[underlying,Sem.run_bind,run_program,Result.andThen_ok,hu,Sem.run_pure,SE h,eY hi,h1]
  have:=JN (P:=P) (n:=min l.length dl) rfl h (Nat.min_le_left _ _)
  rw[show(Nat.min l.length dl)=min l.length dl from rfl,this]
  simp only[Result.andThen_ok,s1,goInt]
 unfold aB
 rw[this]
 exact hk w' (by simpa using s2) s3 s4
theorem QJ{i:TypeInfo}{z:V3}(hu:P.underlying t=some (.slice e))(hi:P.info? e=some i)(h1:i.size=1)(hz:i.zero=some z)(hz1:one z=true){n:Int}(h0:0<=n)(hn:i.bytes*n<=2^48)(hn2:n<=9223372036854775807)
 {K:V3->V2->Prop}
 (hk:∀w',bD w' w.heap.size (List.replicate n.toNat z)->aJ w w' bQ->w'.heap.size=w.heap.size+1->K (.slice (some ⟨w.heap.size,0,none⟩) n.toNat n.toNat) w'):
 aB P (DG t (.int k n) (.int k n)) w K:=by
 have hw:IntKind.i64.wrap n=n:=Cp (by omega) hn2
 have hcells:z.cells= #[z]:=Kd hz1
 have harr:(Array.range n.toNat).map (λj=>(#[z]:Array V3)[j%(#[z]:Array V3).size]!)=(List.replicate n.toNat z).toArray:=by
  apply Array.ext
  .simp
  .intro j h1 h2;simp[Nat.mod_one]
 have hz':(zeroValue e).run P w= .ok z w:=by simp[zeroValue,typeInfo,hi,hz]
 have:(DG t (.int k n) (.int k n)).run P w= .ok (.value (.slice (some ⟨w.heap.size,0,none⟩) n.toNat n.toNat)) (w.alloc (.cells (List.replicate n.toNat z).toArray e)):=by
  unfold DG
  rw[jW]
  have t1:(decide (n<0)||decide ((i.bytes:Int)*n>2^48)||decide (n<0)||decide (n>n))=false:=by
   simp only[VU,decide_eq_false_iff_not];omega
  by_cases hn0:n.toNat=0
  .simp only[Instr.makeSlice,underlying,typeInfo,asInt,asIntOf,pure_bind,Sem.run_bind,run_program,Result.andThen_ok,hu,hi,Sem.run_pure,hw,t1,UE,if_false,run_askRoom,eY hi,h1,Nat.mul_one,hn0,if_true,newRow,run_newObj]
   have:(Array.range 0).map (λx=>(#[]:Array V3)[x%(#[]:Array V3).size]!)=(List.replicate 0 z).toArray:=by simp
   rw[this]
   rfl
  .simp only[Instr.makeSlice,underlying,typeInfo,asInt,asIntOf,pure_bind,Sem.run_bind,run_program,Result.andThen_ok,hu,hi,Sem.run_pure,hw,t1,UE,if_false,run_askRoom,eY hi,h1,Nat.mul_one,hn0,hz',hcells,newRow,run_newObj,harr]
   rfl
 unfold aB
 rw[this]
 exact hk _ (bD.alloc _ _ _) (aJ.alloc _ _ _) (by simp)
end
end Go.En

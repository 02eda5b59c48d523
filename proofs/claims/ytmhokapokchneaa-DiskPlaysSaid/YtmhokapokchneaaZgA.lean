/- Parts of the proof of DiskPlays: merged and given short names by a program of ours. -/
import Derived.Orders
import Derived.Below
import Derived.KernelRfl
import Derived.Eval
import Derived.RangeFuncRecord
import Derived.Laws.Sem
import Derived.Scope
import Derived.Test.YtmhokapokchneaaRows
import Derived.Laws.IdiomStrings
set_option linter.unusedVariables false
set_option linter.unusedSimpArgs false
open Array renaming getElem?_eq_getElem → U2, getElem?_setIfInBounds_self_of_lt → U4, getElem?_setIfInBounds_ne → U5, getD_eq_getD_getElem? → US, length_toList → V5, getElem?_modify → VJ, getElem?_toList → VK, getElem?_eq_none → Vc, all_eq_true' → Vq, mem_of_getElem? → Wa
open Bool renaming and_eq_true → UT, false_eq_true → UY, not_eq_true' → VD, not_true → VV, or_eq_true → Vo, or_eq_false_iff → We
open List renaming getElem?_eq_getElem → U1, length_cons → U6, getElem?_append_left → U8, length_append → UO, getElem?_cons_zero → UP, getElem?_cons_succ → UR, length_map → UU, map_cons → UW, mem_cons_of_mem → UX, mem_cons → UZ, mem_append_right → V2, getD_eq_getElem?_getD → V4, size_toArray → V7, getElem?_toArray → VL, mem_append_left → VN, mem_of_getElem? → VO, mem_cons_self → Va, length_take → Vd, length_eq_zero_iff → Ve, mem_range → Vg, all_eq_true → Vh, mem_map → Vl, length_drop → Vs, map_congr_left → Vu, drop_eq_getElem_cons → Vv, mem_append → Vw, getElem?_eq_none → Vy, length_replicate → Vz, length_filter_le → Wb, mem_filter → Wf, mem_of_mem_take → Wg
open Nat renaming le_refl → U0, eq_of_beq_eq_true → U9, zero_add → UQ, blt_eq → V0, add_assoc → VC, le_trans → VG, le_of_ble_eq_true → VM, lt_of_lt_of_le → Vb, lt_or_ge → Vk, ne_of_lt → Wk
open Option renaming getD_some → VI, map_some → Vx
open Option.some renaming injEq → V1, inj → Vp
namespace Go.En
open Go
abbrev Wm:=World
abbrev Wn:=Value
abbrev Env:=Nat->Wn
def put(g:Env)(d:Option Tmp)(v:Wn):Env:=
 match d with
 |some d=>λi=>match Nat.beq i d with|true=>v|false=>g i
 |none=>g
def ev(g:Env):Operand->Wn
 | .tmp t=>g t
 | .const v=>v
 | .global b=> .pointer (some ⟨b,0,none⟩)
 | .func f=> .func (.func f) #[] #[]
def Uc(P:Program)(f:FuncId)(args:Array Wn)(w:Wm)(v:Wn)(w':Wm):Prop:=
 Calls P f args w λe w''=>e= .returned v/\w''=w'
def aH(P:Program)(f:FuncId)(args:Array Wn)(w:Wm)(R:Wn->Wm->Prop):Prop:=
 ∃v w',Uc P f args w v w'/\R v w'
theorem aH.mono {P:Program}{f:FuncId}{args:Array Wn}{w:Wm}{R R':Wn->Wm->Prop}(h:aH P f args w R)
 (hr:∀v w',R v w'->R' v w'):aH P f args w R':=
 let⟨v,w',a,b⟩:=h;⟨v,w',a,hr _ _ b⟩
def Tw(P:Program)(l:Nat)(f:FuncId)(tmps:Array Wn)(UN bd:Code)(w:Wm)(v:Wn)(w':Wm):Prop:=
 RoundIn Fence.wide 0 P l f tmps UN bd w λe w''=>e= .returned v/\w''=w'
def Ks(P:Program)(l:Nat)(f:FuncId)(tmps:Array Wn)(UN bd:Code)(w:Wm)(R:Wn->Wm->Prop):Prop:=
 ∃v w',Tw P l f tmps UN bd w v w'/\R v w'
def MK(P:Program)(r:Result Next)(K:Wn->Wm->Prop):Prop:=
 match r with
 | .ok (.value v) w=>K v w
 | .ok .skip w=>K undef w
 | .ok (.enter f args) w=>aH P f args w K
 | .ok (.round l f tmps UN bd) w=>Ks P l f tmps UN bd w K
 |_=>False
theorem aV(P:Program)(v:Wn)(w:Wm)(K:Wn->Wm->Prop):MK P (.ok (.value v) w) K=K v w:=Eq.trans rfl rfl
theorem stepR_skip(P:Program)(w:Wm)(K:Wn->Wm->Prop):MK P (.ok .skip w) K=K undef w:=Eq.trans rfl rfl
theorem ML(P:Program)(l:Nat)(f:FuncId)(tmps:Array Wn)(UN bd:Code)(w:Wm)(K:Wn->Wm->Prop):
 MK P (.ok (.round l f tmps UN bd) w) K=Ks P l f tmps UN bd w K:=Eq.trans rfl rfl
def aB(P:Program)(s:Sem Next)(w:Wm)(K:Wn->Wm->Prop):Prop:=MK P (s.run P w) K
def vS(P:Program)(s:Sem Next)(v:Wn)(w:Wm):Prop:=s.run P w= .ok (.value v) w
def Gd(b:Bool)(s:(Wn->Wm->Prop)->Prop)(w:Wm)(K:Wn->Wm->Prop):Prop:=
 match b with
 |true=>s K
 |false=>K undef w
def Ur(v:Wn):Option Bool:=match v with| .bool b=>some b|_=>none
def bB(v:Wn)(want:Bool):Bool:=Ur v==some want
def eU(v:Wn)(A B:Prop):Prop:=
 match v with
 | .bool b=>(match b with|true=>A|false=>B)
 |_=>False
def wQ(ops:Array Oper)(j:Nat):Option Tmp:=(ops[j]?).bind (·.dst)
def sL(g:Env)(t:Option Tmp)(want:Bool):Bool:=match t with|some t=>bB (g t) want|none=>false
def V(s:Sem Wn):Sem Next:=do pure (.value (<-s))
def U(s:Sem Unit):Sem Next:=do s;pure .skip
def zE(op:BinOp):Bool:=match op with| .eql| .neq=>true|_=>false
def aE(op:BinOp)(t:TypeId)(ox oy:Operand)(x y:Wn):Sem Next:=
 match zE op with
 |true=>V (do eqGuard op t ox oy x y;binOp op t x y)
 |false=>V (binOp op t x y)
def lG(b:Builtin)(ats:Array TypeId)(ty:TypeId)(args:List Wn):Sem Next:=builtin b ats ty #[] args.toArray
def AA(f:Wn)(args:List Wn):Sem Next:=do let d<-Deferred.ofValue f args.toArray;invoke d.target d.args
def MG(fn:Fn)(first captured:List Wn):Sem Next:=V (Instr.makeFunc fn first.toArray captured.toArray)
def lA(t:TypeId)(ps:List (Nat×Wn)):Sem Next:=V (Instr.build t ps.toArray)
def bZ(t:TypeId)(n:Nat)(ps:List (Nat×Wn)):Sem Next:=V (Instr.buildSlice t n ps.toArray)
def B0 (g:Env)(o:Oper):Sem Next:=
 match o.op with
 | .binOp op t x y _=>aE op t x y (ev g x) (ev g y)
 | .makeFunc fn first captured=>MG fn (first.toList.map (ev g)) (captured.toList.map (ev g))
 | .build t ps=>lA t (ps.toList.map λp=>(p.1,ev g p.2))
 | .buildSlice t n ps=>bZ t n (ps.toList.map λp=>(p.1,ev g p.2))
 | .call c=>(match c.callee with
   | .builtin b=>lG b c.argTypes o.type (c.args.toList.map (ev g))
   | .value f=>AA (ev g f) (c.args.toList.map (ev g))
   |_=>execOp (ev g) o)
 |_=>execOp (ev g) o
def A6 (P:Program)(g:Env)(o:Oper)(w:Wm)(K:Wn->Wm->Prop):Prop:=
 match o.op with
 | .move x=>K (ev g x) w
 | .assign x=>K (ev g x) w
 | .call c=>(match c.callee with
   | .value (.func f)=>aH P f (c.args.toList.map (ev g)).toArray w K
   |_=>aB P (B0 g o) w K)
 |_=>aB P (B0 g o) w K
def Au(P:Program)(ops:Array Oper)(g:Env)(o:Oper)(w:Wm)(K:Wn->Wm->Prop):Prop:=
 match o.guard with
 |none=>A6 P g o w K
 |some (j,want)=>Gd (sL g (wQ ops j) want) (A6 P g o w) w K
def Je(P:Program)(ops:Array Oper):List Oper->Env->Wm->(Env->Wm->Prop)->Prop
 |[],g,w,K=>K g w
 |o::rest,g,w,K=>Au P ops g o w λv w'=>Je P ops rest (put g o.dst v) w' K
structure Rec where
 heavy:Bool
 o:Oper
 g:Env
 w:Wm
 v:Wn
def T7 (ops:Array Oper)(o:Oper)(g:Env):Bool:=match o.guard with|none=>true|some (j,want)=>sL g (wQ ops j) want
def Gs(b:Bool)(p:Prop):Prop:=match b with|true=>p|false=>True
def FW(P:Program)(ops:Array Oper)(q:Rec)(o:Oper)(g:Env)(w':Wm)(v:Wn):Prop:=
 match q.heavy with
 |true=>Gs (T7 ops o g) (vS P (B0 g o) v q.w)
 |false=>Gs (T7 ops q.o q.g) (vS P (B0 q.g q.o) q.v w')
def Jx(i j:Nat):List (Nat×Nat)->Bool
 |[]=>false
 |(a,b)::r=>match Nat.beq a i with
  |true=>(match Nat.beq b j with|true=>true|false=>Jx i j r)
  |false=>Jx i j r
def lL(i:Nat):List Nat->Bool
 |[]=>false
 |a::r=>match Nat.beq a i with|true=>true|false=>lL i r
def Mm:List Rec->Nat->Option Rec
 |[],_=>none
 |q::_,0=>some q
 |_::r,n+1=>Mm r n
def Rz(P:Program)(ops:Array Oper)(o:Oper)(g:Env)(w':Wm)(v:Wn)(hist:List Rec):List Nat->Prop
 |[]=>True
 |k::ks=>(match Mm hist k with
  |some q=>FW P ops q o g w' v
  |none=>False)/\Rz P ops o g w' v hist ks
abbrev NZ:=List Nat×List (Nat×Nat)
abbrev LL:=List (Bool×List Nat)
def mS(P:Program)(ops:Array Oper):List Oper->LL->List Rec->Env->Wm->(Env->Wm->Prop)->Prop
 |[],_,_,g,w,K=>K g w
 |_::_,[],_,_,_,_=>False
 |o::rest,(hv,ks)::pl,hist,g,w,K=>
  Au P ops g o w λv w'=>
   match hv,ks with
   |true,[]=>mS P ops rest pl (⟨true,o,g,w,v⟩::hist) (put g o.dst v) w' K
   |true,k::ks=>Rz P ops o g w' v hist (k::ks)/\mS P ops rest pl (⟨true,o,g,w,v⟩::hist) (put g o.dst v) w' K
   |false,[]=>w'=w/\mS P ops rest pl (⟨false,o,g,w,v⟩::hist) (put g o.dst v) w K
   |false,k::ks=>w'=w/\Rz P ops o g w v hist (k::ks)/\mS P ops rest pl (⟨false,o,g,w,v⟩::hist) (put g o.dst v) w K
def bL{α:Type}(F:(α->Wm->Prop)->α->Wm->Prop)(g:α)(w:Wm):Prop:=
 ∃I:Nat->α->Wm->Prop,(∃n,I n g w)/\∀n g w,I n g w->F (λg' w'=>∃m,m<n/\I m g' w') g w
def tX(K:Env->Wm->Prop)(Q:Exit->Env->Wm->Prop):Exit->Env->Wm->Prop:=
 λe g w=>(λ(_:Program->Sem Next->Wm->(Wn->Wm->Prop)->Prop)=>match e with| .normal=>K g w|e=>Q e g w) aB
def Rw(id:Nat)(Q:Exit->Env->Wm->Prop):Exit->Env->Wm->Prop:=
 λe g w=>(λ(_:Program->Sem Next->Wm->(Wn->Wm->Prop)->Prop)=>match e with| .exit i=>(match Nat.beq i id with|true=>Q .normal g w|false=>Q (.exit i) g w)|e=>Q e g w) aB
inductive HT where
 |leaf (an:NZ) (pl:LL)
 |perm (π:List Nat) (es:List (Nat×Nat)) (an:NZ) (pl:LL)
 |split(a b:Nat) (x y:HT)
structure FA where
 f:FuncId
 t:Nat->HT
def qD:List Nat->Nat->Nat
 |[],_=>0
 |a::r,i=>match Nat.beq a i with|true=>0|false=>qD r i+1
def zO(π:List Nat)(i:Nat):List (Nat×Nat)->List Edge
 |[]=>[]
 |(a,b)::r=>match Nat.beq b i with|true=>⟨qD π a,.data⟩::zO π i r|false=>zO π i r
def Bq(π:List Nat)(es:List (Nat×Nat))(i:Nat)(o:Oper):Oper:=
 {dst:=o.dst,op:=o.op,type:=o.type,pos:=o.pos,after:=(o.after.toList.map (λe=>(⟨qD π e.on,e.ground⟩:Edge))++zO π i es).toArray,
  guard:=match o.guard with|none=>none|some (j,b)=>some (qD π j,b)}
def GX(π:List Nat)(es:List (Nat×Nat))(l:List Oper):List Nat->List Oper
 |[]=>[]
 |i::r=>match l[i]? with|some o=>Bq π es i o::GX π es l r|none=>GX π es l r
def lF(π:List Nat)(es:List (Nat×Nat))(ops:Array Oper):Array Oper:=(GX π es ops.toList π).toArray
def SX(f:FuncId)(id:Nat)(ops:Array Oper)(a b:Nat)(w:Wm):Bool:=
 Nat.ble ((Region.schedule true ops (w.tape w.drawn (.order f id))).idxOf a) ((Region.schedule true ops (w.tape w.drawn (.order f id))).idxOf b)
def Ord(b:Bool)(A B:Prop):Prop:=match b with|true=>A|false=>B
def LV(P:Program)(f:FuncId)(id:Nat)(ops:Array Oper):HT->Env->Wm->Wm->(Env->Wm->Prop)->Prop
 | .leaf _ pl,g,_,w,K=>mS P ops ops.toList pl [] g w K
 | .perm π es _ pl,g,_,w,K=>mS P (lF π es ops) (lF π es ops).toList pl [] g w K
 | .split a b x y,g,w0,w,K=>Ord (SX f id ops a b w0) (LV P f id ops x g w0 w K) (LV P f id ops y g w0 w K)
def DS:Nat:=1000003
def LY:Wn->List Deferred
 | .pointer (some a)=>[{target:= .collected a.block,args:= #[]}]
 |_=>[]
def noMark:Wn->Bool
 | .pointer _=>false
 |_=>true
def tmpsOf(N:Nat)(g:Env):Array Wn:=Array.ofFn (n:=N) λi=>g i.val
def HB(P:Program)(f:FuncId):Nat:=match P.funcs[f]? with|some fn=>fn.ntmps|none=>0
def SL(Q:Exit->Env->Wm->Prop)(g:Env):Option Code->Wm->Prop
 |none,w=>Q .normal g w
 |some .ret,w=>Q .ret g w
 |some (.exit i),w=>Q (.exit i) g w
 |_,_=>False
def PJ(l:Nat)(Q:Exit->Env->Wm->Prop)(g:Env)(w:Wm):Prop:=
 ∃r:Loop,w.heap[l]?=some (.loop r)/\r.state≠.busy/\SL Q g r.pending (w.putObj l (.loop {r with state:= .exhausted}))
def PD(f:FuncId)(N:Nat)(ps:Array Tmp)(UN bd:Code)(g:Env)(w:Wm):Wm:=
 (w.alloc (.deferred (some []))).alloc (.loop {state:= .ready,pending:=none,fn:=f,tmps:=tmpsOf N g,params:=ps,assign:=UN,body:=bd,defers:=w.heap.size})
def TP(P:Program)(r:Result Next)(K:Wn->Wm->Prop):Prop:=
 match r with
 | .ok (.enter f args) w=>aH P f args w K
 |_=>False
def AI(l:Nat):Wn:= .func (.yield l) #[] #[]
def RF(P:Program)(f:FuncId)(gf:Operand)(ps:Array Tmp)(UN bd:Code)(Q:Exit->Env->Wm->Prop)(g:Env)(w:Wm):Prop:=
 match noMark (g DS)with
 |true=>TP P ((AA (ev g gf) [AI (w.heap.size+1)]).run P (PD f (HB P f) ps UN bd g w)) λ_ w3=>
  PJ (w.heap.size+1) Q (put g (some DS) (.pointer (some ⟨w.heap.size,0,none⟩))) w3
 |false=>False
def eI(P:Program)(ann:FA):Code->(Exit->Env->Wm->Prop)->Env->Wm->Prop
 | .skip,Q,g,w=>Q .normal g w
 | .region id ops draw,Q,g,w=>match draw with
   |false=>Je P ops ops.toList g w (Q .normal)
   |true=>LV P ann.f id ops (ann.t id) g w {w with drawn:=w.drawn+1} (Q .normal)
 | .seq x y,Q,g,w=>eI P ann x (tX (λg w=>eI P ann y Q g w) Q) g w
 | .cond c x y,Q,g,w=>eU (ev g c) (eI P ann x Q g w) (eI P ann y Q g w)
 | .block id c,Q,g,w=>eI P ann c (Rw id Q) g w
 | .loop c,Q,g,w=>bL (λX g w=>eI P ann c (tX X Q) g w) g w
 | .scope c,Q,g,w=>eI P ann c Q g w
 | .label _,Q,g,w=>Q .normal g w
 | .exit id,Q,g,w=>Q (.exit id) g w
 | .ret,Q,g,w=>Q .ret g w
 | .rangeFunc gf ps UN bd,Q,g,w=>RF P ann.f gf ps UN bd Q g w
 |_,_,_,_=>False
def Ol(N:Nat)(o:Oper):Bool:=match o.dst with|some d=>Nat.blt d N|none=>true
def Pw(b:Array Nat)(i j:Nat):Bool:=(b.getD j 0).testBit i
def looks(ops:Array Oper)(o:Oper):List Tmp:=
 (o.op.operands.toList.filterMap λ| .tmp t=>some t|_=>none)++(match o.guard with|some (j,_)=>(wQ ops j).toList|none=>[])
def PV(ops:Array Oper)(x y:Oper):Bool:=
 (match x.dst with|some d=>(looks ops y).contains d||y.dst==some d|none=>false)||
 (match y.dst with|some d=>(looks ops x).contains d|none=>false)
def H9 (o:Oper):Bool:=match o.op with| .select .. =>true|_=>false
def Qi(o:Oper):Bool:=match o.op with| .call {callee:= .value (.func _),.. }=>true|_=>false
def KB(o:Oper):Bool:=match o.op with| .defer .. =>true|_=>false
def KF:Operand->Bool| .tmp t=>Nat.blt t DS|_=>true
def IP(P:Program)(o:Oper):Bool:=
 match o.op with
 | .call c=>(match c.callee with
   | .value (.func f)=>(match P.funcs[f]? with|some fn=>fn.body.isSome&& !(fn.name== "runtime.NumGoroutine")|none=>false)
   | .builtin b=>(match b with| .print| .println=>false|_=>true)
   |_=>true)
 |_=>true
def uM(P:Program)(o:Oper):Bool:=IP P o&&(o.op.operands.toList.all KF&&(!H9 o&& !KB o))
def Cm(o:Oper):Bool:=match o.op with| .move _| .assign _=>true|_=>false
def DV(ops:Array Oper)(b:Array Nat)(an:NZ)(i j:Nat)(x y:Oper):Bool:=
 Pw b i j||
 (!PV ops x y&&
   match lL i an.1,lL j an.1 with
   |true,true=>false
   |false,false=>true
   |true,false=>Cm y||Jx i j an.2
   |false,true=>Cm x||Jx i j an.2)
def LO(ops:Array Oper)(b:Array Nat)(an:NZ):Bool:=
 (List.range ops.size).all λj=>(List.range j).all λi=>
  match ops[i]?,ops[j]? with
  |some x,some y=>DV ops b an i j x y
  |_,_=>false
def Ky(ops:Array Oper):Bool:=
 (List.range ops.size).all λi=>match ops[i]? with
  |some o=>o.after.all λe=> !Region.binds .any e||Nat.blt e.on i
  |none=>false
def Ku(ops:Array Oper)(b:Array Nat):Bool:=
 (List.range ops.size).all λj=>(List.range ops.size).all λi=>
  !Pw b i j||(match ops[j]? with
   |some o=>o.after.any λe=>Region.binds .any e&&(Nat.beq e.on i||Pw b i e.on)
   |none=>false)
def Jg(ops:Array Oper)(an:NZ):Bool:=
 Ky ops&&Ku ops (Region.before ops)&&LO ops (Region.before ops) an&&(ops.all λo=> !H9 o)&&
  (List.range ops.size).all λi=>match ops[i]? with|some o=> !Qi o||lL i an.1|none=>false
def JA(n:Nat)(an:NZ)(pl:LL):Bool:=
 (List.range n).all λi=>match pl[i]? with
  |some (h,ks)=>h==lL i an.1&&an.2.all λp=> !Nat.beq p.2 i||(Nat.blt p.1 i&&ks.contains (i-1-p.1))
  |none=>false
def Nm(π:List Nat)(ops:Array Oper):Bool:=
 Nat.beq π.length ops.size&&((List.range ops.size).all λk=>match π[k]? with|some i=>Nat.beq (qD π i) k&&Nat.blt i ops.size|none=>false)&&
  ((List.range ops.size).all λi=>match π[qD π i]? with|some j=>Nat.beq j i|none=>false)&&
  ((List.range ops.size).all λi=>match ops[i]? with
    |some o=>(o.after.all λe=>Nat.blt e.on ops.size)&&(match o.guard with|some (j,_)=>Nat.blt j ops.size|none=>true)
    |none=>false)
def Gn(P:Program)(N:Nat)(ops:Array Oper):List (Nat×Nat)->HT->Bool
 |_,.leaf an pl=>Jg ops an&&JA ops.size an pl
 |path,.perm π es an pl=>(es.all λp=>Jx p.1 p.2 path&&Nat.blt p.1 ops.size)&&Nm π ops&&(lF π es ops).all (Ol N)&&(lF π es ops).all (uM P)&&
  Jg (lF π es ops) an&&JA (lF π es ops).size an pl
 |path,.split a b x y=> !Nat.beq a b&&Gn P N ops ((a,b)::path) x&&Gn P N ops ((b,a)::path) y
def codeOk(P:Program)(N:Nat)(ann:FA):Code->Bool
 | .skip| .exit _| .ret| .label _=>true
 | .scope c=>codeOk P N ann c
 | .region id ops draw=>ops.all (Ol N)&&ops.all (uM P)&&(!draw||Gn P N ops [] (ann.t id))
 | .seq x y=>codeOk P N ann x&&codeOk P N ann y
 | .cond c x y=>KF c&&(codeOk P N ann x&&codeOk P N ann y)
 | .block _ c=>codeOk P N ann c
 | .loop c=>codeOk P N ann c
 | .rangeFunc gf _ _ _=>KF gf
 |_=>false
def mW:Code->Bool
 | .seq x y=>mW x&&mW y
 | .cond _ x y=>mW x&&mW y
 | .block _ c=>mW c
 | .loop c=>mW c
 | .scope c=>mW c
 | .rangeFunc .. =>false
 |_=>true
def KJ:ResultVar->Bool
 | .tmp t=>Nat.blt t DS
 | .cell a _=>Nat.blt a DS
theorem B3 (g:Env)(d i:Nat)(v:Wn):put g (some d) v i=if i=d then v else g i:=by
 unfold put
 by_cases h:i=d
 .subst h;simp
 .have:Nat.beq i d=false:=by
   cases hb:Nat.beq i d
   .rfl
   .exact absurd (U9 hb) h
  simp[this,h]
theorem LR{P:Program}{o:Oper}(h:uM P o=true):IP P o=true:=by
 unfold uM at h;simp only[UT]at h;exact h.1
theorem M4 {P:Program}{o:Oper}(h:uM P o=true):∀x∈o.op.operands,KF x=true:=by
 unfold uM at h;simp only[UT]at h
 intro x hx
 exact Vh.1 h.2.1 x (by simpa using hx)
theorem M5 {P:Program}{o:Oper}(h:uM P o=true):H9 o=false:=by
 unfold uM at h;simp only[UT,VD]at h;exact h.2.2.1
theorem M3 {P:Program}{o:Oper}(h:uM P o=true):KB o=false:=by
 unfold uM at h;simp only[UT,VD]at h;exact h.2.2.2
def FN(N:Nat)(ops:Array Oper):Prop:=∀(i:Nat) (o:Oper),ops[i]?=some o->∀t,o.dst=some t->t<N
structure Di(N:Nat)(g:Env)(a:Act):Prop where
 le:N<=DS
 defers:a.defers=LY (g DS)
 size:a.tmps.size=N
 at_:∀i,i≠DS->a.tmps.getD i undef=g i
theorem Di.ev {N:Nat}{g:Env}{a:Act}(h:Di N g a)(x:Operand)(hx:KF x=true):a.eval x=ev g x:=by
 cases x with
 |tmp t=>
  have:t<DS:=(V0 (x:=t) (y:=DS))▸hx
  have e:=h.at_ t (Wk this)
  simp[Act.eval,En.ev,<-e]
 |_=>simp[Act.eval,En.ev]
theorem Di.put {N:Nat}{g:Env}{a:Act}(h:Di N g a)(d:Option Tmp)(v:Wn)(hd:∀t,d=some t->t<N):
 Di N (put g d v) (a.put d v):=by
 cases d with
 |none=>exact h
 |some t=>
  obtain⟨h0,h1,h2,h3⟩:=h
  have ht:=hd t rfl
  refine⟨h0, ?_,by simp[Act.put,h2],λi hne=> ?_⟩
  .rw [B3,if_neg (Nat.ne_of_gt (Vb ht h0))];exact h1
  .rw [B3,<-h3 i hne]
   by_cases hi:i=t
   .subst hi;simp[Act.put,h2,ht]
   .have hi':t≠i:=λe=>hi e.symm
    simp[Act.put,hi,U5 hi']
theorem Di.wanted {N:Nat}{g:Env}{a:Act}(h:Di N g a)(ops:Array Oper)(hd:FN N ops)(o:Oper):
 Region.wanted o (yielded ops a.tmps)=match o.guard with|none=>true|some (j,want)=>sL g (wQ ops j) want:=by
 unfold Region.wanted
 cases o.guard with
 |none=>rfl
 |some p=>
  obtain⟨j,want⟩:=p
  simp only[yielded,sL,wQ]
  cases ho:ops[j]? with
  |none=>simp
  |some o'=>
   cases hdd:o'.dst with
   |none=>simp[hdd]
   |some t=>
    have hlt:=hd j o' ho t hdd
    have hle:=h.le
    have h3:=h.at_ t (Wk (Vb hlt hle))
    simp only[hdd,Option.bind_some,bB,Ur,<-h3]
    simp only[US]
    cases ht:a.tmps[t]? with
    |none=>simp[undef]
    |some v=>cases v<;>simp
def T8 (P:Program)(o:Oper)(a:Act)(next:Act->Wm->Prop):Result Next->Prop
 | .ok (.value v) w'=>next (a.put o.dst v) w'
 | .ok .skip w'=>next (a.put o.dst undef) w'
 | .ok (.enter f args) w'=>∃v w'',Uc P f args w' v w''/\next (a.put o.dst v) w''
 | .ok (.round l f tmps UN bd) w'=>∃v w'',Tw P l f tmps UN bd w' v w''/\next (a.put o.dst v) w''
 |_=>False
def NB(P:Program)(o:Oper)(a:Act)(w:Wm)(next:Act->Wm->Prop):Prop:=KB o=false/\T8 P o a next ((execOp a.eval o).run P w)
def Ej(P:Program)(ops:Array Oper)(i:Nat)(K:Act->Wm->Prop)(a:Act)(w:Wm):Prop:=
 match ops[i]? with
 |none=>K a w
 |some o=>if Region.wanted o (yielded ops a.tmps)then NB P o a w K else K (a.put o.dst undef) w
def wS(P:Program)(ops:Array Oper)(Q:Act->Wm->Prop):List Nat->Act->Wm->Prop
 |[],a,w=>Q a w
 |i::rest,a,w=>Ej P ops i (wS P ops Q rest) a w
def J3 (P:Program)(ops:Array Oper)(Q:Act->Wm->Prop):Nat->Array Bool->Act->Wm->Prop
 |0,listed,a,w=>Region.ready .any ops listed=[]/\Q a w
 |fuel+1,listed,a,w=>
  (Region.ready .any ops listed=[]->Q a w)/\∀i∈Region.ready .any ops listed,Ej P ops i (J3 P ops Q fuel (listed.setIfInBounds i true)) a w
theorem KK{P:Program}{o:Oper}{a:Act}{w:Wm}{K K':Act->Wm->Prop}(h:∀a w,K a w->K' a w)(hh:NB P o a w K):NB P o a w K':=by
 refine⟨hh.1, ?_⟩
 have hh:=hh.2
 generalize(execOp a.eval o).run P w=r at*
 cases r with
 |ok x w'=>
  cases x<;>simp only[T8]at hh⊢<;>first|exact h _ _ hh|(obtain⟨v,w'',h1,h2⟩:=hh;exact⟨v,w'',h1,h _ _ h2⟩)|exact hh
 |halt x w'=>exact hh.elim
theorem NW{P:Program}{ops:Array Oper}{i:Nat}{a:Act}{w:Wm}{K K':Act->Wm->Prop}(h:∀a w,K a w->K' a w)(hh:Ej P ops i K a w):Ej P ops i K' a w:=by
 unfold Ej at*
 split
 .exact h _ _ (by simpa[*]using hh)
 .rename_i o ho
  simp only[ho]at hh
  split
  .rename_i hw;simp only[hw,if_true]at hh;exact KK h hh
  .rename_i hw;simp only[hw]at hh;exact h _ _ hh
def J2 (ro:Option Nat):Fence:={Fence.wide with round:=ro}
theorem Pt{P:Program}{ops:Array Oper}{Q:Act->Wm->Prop}(ro:Option Nat):∀(L:List Nat) (a:Act) (w:Wm),wS P ops Q L a w→
 wpOpsIn (J2 ro) 0 P ops (λe a w=>e= .normal/\Q a w) L a w:=by
 intro L
 induction L with
 |nil=>intro a w h;exact⟨rfl,h⟩
 |cons i L ih=>
  intro a w h
  simp only[wS,Ej]at h
  simp only[wpOpsIn]
  cases ho:ops[i]? with
  |none=>rw[ho]at h;exact ih _ _ h
  |some o=>
   rw[ho]at h
   simp only at h⊢
   by_cases hw:Region.wanted o (yielded ops a.tmps)=true
   .rw [if_pos hw]at h⊢
    obtain⟨hd,h⟩:=h
    refine⟨λ_ _=>trivial, ?_⟩
    rw[Oper.semAt_eq _ _ _ (λc hc=>by simp[KB,hc]at hd)]
    generalize(execOp a.eval o).run P w=r at*
    cases r with
    |halt x w'=>exact h.elim
    |ok x w'=>
     cases x<;>simp only[T8]at h<;>simp only[Oper.uponIn]<;>try(exact h.elim)
     .exact ih _ _ h
     .exact ih _ _ h
     .obtain ⟨v,w'',h1,h2⟩:=h
      refine⟨λhn=>by simp[J2,Fence.wide]at hn, ?_⟩
      have:=callsIn_wide (n:=0).2 h1
      refine CallsIn.mono (F:=J2 ro) (n:=0) this ?_
      rintro e w3 ⟨rfl,rfl⟩
      exact ih _ _ h2
     .obtain ⟨v,w'',h1,h2⟩:=h
      refine⟨λhn=>by simp[J2,Fence.wide]at hn, ?_⟩
      refine RoundIn.mono (F:=J2 ro) (n:=0) h1 ?_
      rintro e w3 ⟨rfl,rfl⟩
      exact ih _ _ h2
   .rw [if_neg hw]at h⊢
    exact⟨λ_ _=>trivial,ih _ _ h⟩
section
variable{P:Program}{ops:Array Oper}
def HY(P:Program)(ops:Array Oper)(g:Env)(o:Oper)(w:Wm)(v:Wn)(w':Wm):Prop:=
 ∀K:Wn->Wm->Prop,K v w'->Au P ops g o w K
theorem Oc{s:Sem Next}{w:Wm}{K:Wn->Wm->Prop}(h:aB P s w K):
 ∃v w',(∀K':Wn->Wm->Prop,K' v w'->aB P s w K')/\K v w':=by
 unfold aB at*
 generalize s.run P w=r at*
 match r,h with
 | .ok (.value v) w1,h=>exact⟨v,w1,λ_ h'=>h',h⟩
 | .ok .skip w1,h=>exact⟨undef,w1,λ_ h'=>h',h⟩
 | .ok (.enter f args) w1,h=>
   obtain⟨v,w',hr,hk⟩:=h
   exact⟨v,w',λ_ h'=>⟨v,w',hr,h'⟩,hk⟩
 | .ok (.round l f tmps UN bd) w1,h=>
   obtain⟨v,w',hr,hk⟩:=h
   exact⟨v,w',λ_ h'=>⟨v,w',hr,h'⟩,hk⟩
theorem KE{g:Env}{o:Oper}{w:Wm}{K:Wn->Wm->Prop}(h:A6 P g o w K):
 ∃v w',(∀K':Wn->Wm->Prop,K' v w'->A6 P g o w K')/\K v w':=by
 unfold A6 at*
 split at h
 .exact ⟨_,_,λ_ h'=>h',h⟩
 .exact ⟨_,_,λ_ h'=>h',h⟩
 .split at h
  .obtain ⟨v,w',a,b⟩:=h
   exact⟨v,w',λ_ h'=>⟨v,w',a,h'⟩,b⟩
  .exact Oc h
 .exact Oc h
theorem R6 (op:BinOp)(t:TypeId)(ox oy:Operand)(x y:Wn):aE op t ox oy x y=V (do eqGuard op t ox oy x y;binOp op t x y):=by
 cases op<;>simp[aE,zE,eqGuard]
theorem QB{g:Env}{o:Oper}(ho:uM P o=true):B0 g o=execOp (ev g) o:=by
 have ho:=LR ho
 unfold B0
 split
 .rename_i op t x y yt hx
  simp only[execOp,hx,R6,V]
 .rename_i fn first captured hx
  have e1:(List.map (ev g) first.toList).toArray=first.map (ev g):=by obtain⟨l⟩:=first;simp
  have e2:(List.map (ev g) captured.toList).toArray=captured.map (ev g):=by obtain⟨l⟩:=captured;simp
  simp only[execOp,hx,MG,V,e1,e2]
 .rename_i t ps hx
  have e:(List.map (λp:Nat×Operand=>(p.1,ev g p.2)) ps.toList).toArray=ps.map (λp=>(p.1,ev g p.2)):=by obtain⟨l⟩:=ps;simp
  simp only[execOp,hx,lA,V,e]
 .rename_i t n ps hx
  have e:(List.map (λp:Nat×Operand=>(p.1,ev g p.2)) ps.toList).toArray=ps.map (λp=>(p.1,ev g p.2)):=by obtain⟨l⟩:=ps;simp
  simp only[execOp,hx,bZ,V,e]
 .rename_i c hx
  split
  .rename_i b hb
   simp only[execOp,hx,resolve,hb,pure_bind,invoke,lG]
   unfold IP at ho
   simp only[hx,hb]at ho
   have e:(List.map (ev g) c.args.toList).toArray=c.args.map (ev g):=by obtain⟨l⟩:=c.args;simp
   rw[e]
   cases b<;>first|rfl|(cases ho)
  .rename_i f hb
   have e:(List.map (ev g) c.args.toList).toArray=c.args.map (ev g):=by obtain⟨l⟩:=c.args;simp
   simp only[execOp,hx,resolve,hb,AA,e]
  .rfl
 .rfl
theorem GC{f:FuncId}{fn:Func}(hf:P.funcs[f]?=some fn)(hb:fn.body.isSome=true)(hn:(fn.name== "runtime.NumGoroutine")=false)
 (args:Array Wn) (w:Wm):(callFunc f args).run P w= .ok (.enter f args) w:=by
 unfold callFunc
 have hb':fn.body.isNone=false:=by cases h:fn.body<;>simp_all
 show Sem.run P (Sem.program λp=>_) w=_
 simp only[Sem.run]
 simp only[bind,Sem.bind,hf,hn,hb',UY,if_false]
 rfl
theorem Cq{g:Env}{o:Oper}{w:Wm}{K:Wn->Wm->Prop}(h:Au P ops g o w K):
 ∃v w',HY P ops g o w v w'/\K v w':=by
 unfold HY
 unfold Au at*
 split at h
 .obtain ⟨v,w',h1,h2⟩:=KE h
  exact⟨v,w',h1,h2⟩
 .rename_i j want hg
  unfold Gd at*
  cases hb:sL g (wQ ops j) want with
  |true=>
   simp only[hb]at h
   obtain⟨v,w',h1,h2⟩:=KE h
   exact⟨v,w',λK hk=>h1 K hk,h2⟩
  |false=>
   simp only[hb]at h
   exact⟨_,_,λK hk=>hk,h⟩
theorem Ip{N i:Nat}{g:Env}{a:Act}{o:Oper}{w w':Wm}{v:Wn}{next:Act->Wm->Prop}
 (hi:ops[i]?=some o) (hc:uM P o=true) (hd:FN N ops) (hr:Di N g a) (hy:HY P ops g o w v w') (hn:next (a.put o.dst v) w'):Ej P ops i next a w:=by
 have h:=hy (λv2 w2=>v2=v/\w2=w') ⟨rfl,rfl⟩
 unfold Ej
 rw[hi]
 simp only[hr.wanted ops hd]
 have run:A6 P g o w (λv2 w2=>v2=v/\w2=w')->NB P o a w next:=by
  intro h
  refine⟨M3 hc, ?_⟩
  have hevs:execOp a.eval o=execOp (ev g) o:=execOp_congr o (λcs b he=>by have:=M5 hc;simp[H9,he]at this) (λx hx=>hr.ev x (M4 hc x hx))
  have stp:aB P (B0 g o) w (λv2 w2=>v2=v/\w2=w')->T8 P o a next ((execOp (ev g) o).run P w):=by
   intro h
   rw[QB hc]at h
   unfold aB at h
   generalize(execOp (ev g) o).run P w=r at*
   match r,h with
   | .ok (.value v) w1,h=>obtain⟨rfl,rfl⟩:=h;exact hn
   | .ok .skip w1,h=>obtain⟨rfl,rfl⟩:=h;exact hn
   | .ok (.enter f args) w1,h=>
     obtain⟨v2,w2,hret,rfl,rfl⟩:=h
     exact⟨_,_,hret,hn⟩
   | .ok (.round l f tmps UN bd) w1,h=>
     obtain⟨v2,w2,hret,rfl,rfl⟩:=h
     exact⟨_,_,hret,hn⟩
  rw[hevs]
  unfold A6 at h
  split at h
  .rename_i x hx
   obtain⟨rfl,rfl⟩:=h
   simp only[execOp,hx];exact hn
  .rename_i x hx
   obtain⟨rfl,rfl⟩:=h
   simp only[execOp,hx];exact hn
  .rename_i c hx
   split at h
   .rename_i f hcal
    obtain⟨v2,w2,hret,rfl,rfl⟩:=h
    have e:(execOp (ev g) o).run P w= .ok (.enter f (List.map (ev g) c.args.toList).toArray) w:=by
     have hc:=LR hc
     unfold IP at hc
     simp only[hx,hcal]at hc
     cases hfn:P.funcs[f]? with
     |none=>rw[hfn]at hc;cases hc
     |some fn=>
      rw[hfn]at hc
      simp only[UT,VD]at hc
      have ea:(List.map (ev g) c.args.toList).toArray=c.args.map (ev g):=by obtain⟨l⟩:=c.args;simp
      rw[ea]
      simp only[execOp,hx,resolve,hcal,ev,Deferred.ofValue,pure_bind,invoke]
      simp only[Array.empty_append,Array.append_empty]
      exact GC hfn hc.1 hc.2 _ w
    rw[e]
    exact⟨_,_,hret,hn⟩
   .exact stp h
  .exact stp h
 unfold Au at h
 cases hg:o.guard with
 |none=>
  rw[hg]at h
  simp only[if_true]
  exact run h
 |some p=>
  obtain⟨j,want⟩:=p
  simp only[hg]at h
  simp only
  by_cases hb:sL g (wQ ops j) want=true
  .rw [if_pos hb]
   simp only[hb,Gd]at h
   exact run h
  .rw [if_neg hb]
   have hb':sL g (wQ ops j) want=false:=by simpa using hb
   simp only[hb',Gd]at h
   obtain⟨rfl,rfl⟩:=h
   exact hn
def Gw(P:Program)(ops:Array Oper):Prop:=∀(i:Nat) (o:Oper),ops[i]?=some o->uM P o=true
theorem O5 {N:Nat}(hd:FN N ops)(hca:Gw P ops){Q:Act->Wm->Prop}{K:Env->Wm->Prop}
 (hQ:∀g a w,Di N g a->K g w->Q a w):
 ∀(l:List Oper) (k:Nat) (g:Env) (a:Act) (w:Wm),(∀j,l[j]?=ops[k+j]?)->Di N g a->Je P ops l g w K→
  wS P ops Q (List.range' k l.length) a w:=by
 intro l
 induction l with
 |nil=>intro k g a w _ hr h;exact hQ _ _ _ hr h
 |cons o l ih=>
  intro k g a w hl hr h
  have h0:ops[k]?=some o:=by have:=hl 0;simpa using this.symm
  obtain⟨v,w',hy,hk⟩:=Cq h
  rw[U6,List.range'_succ]
  show Ej P ops k (wS P ops Q _) a w
  refine Ip h0 (hca k o h0) hd hr hy ?_
  refine ih (k+1) _ _ _ (λj=> ?_) (hr.put _ _ (hd k o h0)) hk
  have:=hl (j+1)
  simp only[UR]at this
  rw[this];congr 1;omega
def Ih(an:NZ)(O:Nat->Oper)(G:Nat->Env)(W:Nat->Wm)(V:Nat->Wn)(i:Nat):Rec:=
 ⟨lL i an.1,O i,G i,W i,V i⟩
def Og(P:Program)(ops:Array Oper)(an:NZ)(O:Nat->Oper)(G:Nat->Env)(W:Nat->Wm)(V:Nat->Wn)(i j:Nat):Prop:=
 FW P ops (Ih an O G W V i) (O j) (G j) (W (j+1)) (V j)
structure Pv(P:Program)(ops:Array Oper)(an:NZ)(g0:Env)(w0:Wm)(n:Nat)(O:Nat->Oper)(G:Nat->Env)(W:Nat->Wm)(V:Nat->Wn):Prop where
 g0:G 0=g0
 w0:W 0=w0
 op:∀i,i<n->ops[i]?=some (O i)
 yld:∀i,i<n->HY P ops (G i) (O i) (W i) (V i) (W (i+1))
 light:∀i,i<n->lL i an.1=false->W (i+1)=W i
 env:∀i,i<n->G (i+1)=put (G i) (O i).dst (V i)
 chk:∀i j,i<j->j<n->Jx i j an.2=true->Og P ops an O G W V i j
theorem LU{o:Oper}{g:Env}{w':Wm}{v:Wn}{hist:List Rec}:∀{ks:List Nat},Rz P ops o g w' v hist ks->∀k∈ks,∃q,Mm hist k=some q/\FW P ops q o g w' v:=by
 intro ks
 induction ks with
 |nil=>intro _ k hk;cases hk
 |cons a ks ih=>
  rintro⟨h1,h2⟩ k hk
  rcases UZ.1 hk with rfl|hk
  .cases hn:Mm hist k with
   |none=>rw[hn]at h1;exact h1.elim
   |some q=>rw[hn]at h1;exact⟨q,rfl,h1⟩
  .exact ih h2 k hk
theorem O8 {n:Nat}{an:NZ}{pl:LL}(h:JA n an pl=true){i:Nat}(hi:i<n):
 ∃ks,pl[i]?=some (lL i an.1,ks)/\∀j,Jx j i an.2=true->j<i/\(i-1-j)∈ks:=by
 have:=Vh.1 h i (Vg.2 hi)
 cases hp:pl[i]? with
 |none=>rw[hp]at this;cases this
 |some p=>
  obtain⟨hv,ks⟩:=p
  rw[hp]at this
  simp only[UT]at this
  obtain⟨h1,h2⟩:=this
  have h1:hv=lL i an.1:=by simpa using h1
  refine⟨ks,by rw[h1],λj hj=> ?_⟩
  have mm:∀(l:List (Nat×Nat)),Jx j i l=true->(j,i)∈l:=by
   intro l
   induction l with
   |nil=>intro h;cases h
   |cons q r ih=>
    obtain⟨a,b⟩:=q
    intro h
    unfold Jx at h
    cases ha:Nat.beq a j with
    |true=>
     simp only[ha]at h
     cases hb:Nat.beq b i with
     |true=>
      obtain rfl:=U9 ha
      obtain rfl:=U9 hb
      exact Va
     |false=>simp only[hb]at h;exact UX _ (ih h)
    |false=>simp only[ha]at h;exact UX _ (ih h)
  have:=Vh.1 h2 (j,i) (mm _ hj)
  simp only[Nat.beq_refl,VV,Bool.false_or,UT]at this
  refine⟨?_,by simpa using this.2⟩
  have hlt:=this.1
  exact(V0 (x:=j) (y:=i))▸hlt
theorem MD{an:NZ}{pl:LL}{g0:Env}{w0:Wm}{K:Env->Wm->Prop}(hpl:JA ops.size an pl=true):
 ∀(l:List Oper) (m:Nat) (hist:List Rec) (O:Nat->Oper) (G:Nat->Env) (W:Nat->Wm) (V:Nat->Wn),
  (∀j,l[j]?=ops[m+j]?)->m+l.length=ops.size->Pv P ops an g0 w0 m O G W V->(∀i,i<m->Mm hist (m-1-i)=some (Ih an O G W V i))→
  mS P ops l (pl.drop m) hist (G m) (W m) K→
  ∃(O:Nat->Oper) (G:Nat->Env) (W:Nat->Wm) (V:Nat->Wn),Pv P ops an g0 w0 (m+l.length) O G W V/\K (G (m+l.length)) (W (m+l.length)):=by
 intro l
 induction l with
 |nil=>intro m hist O G W V _ _ hr _ h;exact⟨O,G,W,V,hr,by unfold mS at h;exact h⟩
 |cons o l ih=>
  intro m hist O G W V hl hlen hr hh h
  have h0:ops[m]?=some o:=by have:=hl 0;simpa using this.symm
  have hmn:m<ops.size:=by rw[U6]at hlen;omega
  obtain⟨ks,hk1,hk2⟩:=O8 hpl hmn
  have hdrop:pl.drop m=(lL m an.1,ks)::pl.drop (m+1):=by
   have hlt:m<pl.length:=by
    rcases Vk m pl.length with h|h
    .exact h
    .rw [Vy h]at hk1;cases hk1
   rw[Vv hlt]
   rw[U1 hlt]at hk1
   rw[Vp hk1]
  rw[hdrop]at h
  obtain⟨v,w',hy,hk⟩:=Cq h
  have key:(lL m an.1=false->w'=W m)/\(∀k∈ks,∃q,Mm hist k=some q/\FW P ops q o (G m) w' v)/\
      (mS P ops l (pl.drop (m+1)) (⟨lL m an.1,o,G m,W m,v⟩::hist) (put (G m) o.dst v) w' K):=by
   have nil:∀w',∀k∈([]:List Nat),∃q,Mm hist k=some q/\FW P ops q o (G m) w' v:=λ_ k hk=>(by cases hk)
   cases hm:lL m an.1 with
   |true=>
    rw[hm]at hk
    cases ks with
    |nil=>exact⟨λe=>(by cases e),nil _,hk⟩
    |cons k ks=>exact⟨λe=>(by cases e),LU hk.1,hk.2⟩
   |false=>
    rw[hm]at hk
    cases ks with
    |nil=>obtain⟨rfl,hk⟩:=hk;exact⟨λ_=>rfl,nil _,hk⟩
    |cons k ks=>obtain⟨rfl,hc,hk⟩:=hk;exact⟨λ_=>rfl,LU hc,hk⟩
  obtain⟨kl,c1,c2⟩:=key
  let O':Nat->Oper:=λi=>if i=m then o else O i
  let V':Nat->Wn:=λi=>if i=m then v else V i
  let G':Nat->Env:=λi=>if i=m+1 then put (G m) o.dst v else G i
  let W':Nat->Wm:=λi=>if i=m+1 then w' else W i
  have eO:∀i,i<m->O' i=O i:=λi hi=>if_neg (by omega)
  have eV:∀i,i<m->V' i=V i:=λi hi=>if_neg (by omega)
  have eG:∀i,i<=m->G' i=G i:=λi hi=>if_neg (by omega)
  have eW:∀i,i<=m->W' i=W i:=λi hi=>if_neg (by omega)
  have oO:O' m=o:=if_pos rfl
  have oV:V' m=v:=if_pos rfl
  have oG:G' (m+1)=put (G m) o.dst v:=if_pos rfl
  have oW:W' (m+1)=w':=if_pos rfl
  have eR:∀i,i<m->Ih an O' G' W' V' i=Ih an O G W V i:=λi hi=>by
   simp only[Ih,eO i hi,eV i hi,eG i (by omega),eW i (by omega)]
  have hr':Pv P ops an g0 w0 (m+1) O' G' W' V':=by
   refine⟨by rw[eG 0 (by omega)];exact hr.g0,by rw[eW 0 (by omega)];exact hr.w0,λi hi=> ?_,λi hi=> ?_,λi hi hm=> ?_,λi hi=> ?_,λi j hij hj hm=> ?_⟩
   .by_cases hi':i=m
    .subst hi';rw[oO];exact h0
    .rw [eO i (by omega)];exact hr.op i (by omega)
   .by_cases hi':i=m
    .subst hi';rw[oO,oV,oW,eG i (by omega),eW i (by omega)];exact hy
    .rw [eO i (by omega),eV i (by omega),eG i (by omega),eW i (by omega),eW (i+1) (by omega)];exact hr.yld i (by omega)
   .by_cases hi':i=m
    .subst hi';rw[oW,eW i (by omega)];exact kl hm
    .rw [eW i (by omega),eW (i+1) (by omega)];exact hr.light i (by omega) hm
   .by_cases hi':i=m
    .subst hi';rw[oO,oV,oG,eG i (by omega)]
    .rw [eO i (by omega),eV i (by omega),eG i (by omega),eG (i+1) (by omega)];exact hr.env i (by omega)
   .unfold Og
    by_cases hj':j=m
    .subst hj'
     rw[eR i (by omega),oO,oV,oW,eG j (by omega)]
     obtain⟨q,hq,hc⟩:=c1 _ (hk2 i hm).2
     rw[hh i hij]at hq
     obtain rfl:=Vp hq
     exact hc
    .rw [eR i (by omega),eO j (by omega),eV j (by omega),eG j (by omega),eW (j+1) (by omega)]
     exact hr.chk i j hij (by omega) hm
  have:=ih (m+1) (⟨lL m an.1,o,G m,W m,v⟩::hist) O' G' W' V' (λj=>by
      have:=hl (j+1)
      simp only[UR]at this
      rw[this];congr 1;omega) (by rw[U6]at hlen;omega) hr' (λi hi=>by
      by_cases hi':i=m
      .subst hi'
       rw[show i+1-1-i=0 from by omega]
       simp only[Mm,Ih,oO,oV,eG i (by omega),eW i (by omega)]
      .rw [eR i (by omega),show m+1-1-i=(m-1-i)+1 from by omega]
       exact hh i (by omega)) (by rw[oG,oW];exact c2)
  rw[U6,show m+(l.length+1)=m+1+l.length from by omega]
  exact this
end
section
variable{P:Program}{ops:Array Oper}{an:NZ}{g0:Env}{w0:Wm}{O:Nat->Oper}{G:Nat->Env}{W:Nat->Wm}{V:Nat->Wn}
def Ce(n:Nat)(O:Nat->Oper)(V:Nat->Wn)(g0:Env)(S:Nat->Prop)(g:Env):Prop:=
 ∀s,(∃j,j<n/\S j/\(O j).dst=some s/\(∀k,k<n->S k->(O k).dst=some s->k<=j)/\g s=V j)∨
  ((∀j,j<n->S j->(O j).dst≠some s)/\g s=g0 s)
theorem Ce.agree {n:Nat}{S T:Nat->Prop}{g g':Env}(h:Ce n O V g0 S g)(h':Ce n O V g0 T g')(s:Nat)
 (hs:∀j,j<n->(O j).dst=some s->(S j↔T j)):g s=g' s:=by
 rcases h s with⟨j,h1,h2,h3,h4,h5⟩|⟨h1,h2⟩<;>rcases h' s with⟨k,k1,k2,k3,k4,k5⟩|⟨k1,k2⟩
 .have a:=h4 k k1 ((hs k k1 k3).2 k2) k3
  have b:=k4 j h1 ((hs j h1 h3).1 h2) h3
  have:j=k:=by omega
  subst this;rw[h5,k5]
 .exact absurd h3 (k1 j h1 ((hs j h1 h3).1 h2))
 .exact absurd k3 (h1 k k1 ((hs k k1 k3).2 k2))
 .rw [h2,k2]
theorem Ce.step {n:Nat}{S:Nat->Prop}{g:Env}(h:Ce n O V g0 S g)(i:Nat)(hi:i<n)
 (hw:∀s,(O i).dst=some s->∀j,j<n->j≠i->(O j).dst=some s->S j->j<i):
 Ce n O V g0 (λj=>S j∨j=i) (put g (O i).dst (V i)):=by
 intro s
 cases hd:(O i).dst with
 |none=>
  rcases h s with⟨j,h1,h2,h3,h4,h5⟩|⟨h1,h2⟩
  .refine .inl ⟨j,h1,.inl h2,h3,λk k1 k2 k3=> ?_,h5⟩
   rcases k2 with k2|rfl
   .exact h4 k k1 k2 k3
   .rw [hd]at k3;cases k3
  .refine .inr ⟨λj h3 h4 h5=> ?_,h2⟩
   rcases h4 with h4|rfl
   .exact h1 j h3 h4 h5
   .rw [hd]at h5;cases h5
 |some t=>
  rw[B3]
  by_cases hst:s=t
  .subst hst
   rw[if_pos rfl]
   refine .inl ⟨i,hi,.inr rfl,hd,λk k1 k2 k3=> ?_,rfl⟩
   rcases k2 with k2|rfl
   .by_cases hk:k=i
    .omega
    .have:=hw s hd k k1 hk k3 k2;omega
   .omega
  .rw [if_neg hst]
   rcases h s with⟨j,h1,h2,h3,h4,h5⟩|⟨h1,h2⟩
   .refine .inl ⟨j,h1,.inl h2,h3,λk k1 k2 k3=> ?_,h5⟩
    rcases k2 with k2|rfl
    .exact h4 k k1 k2 k3
    .rw [hd]at k3;exact absurd (Vp k3).symm hst
   .refine .inr ⟨λj h3 h4 h5=> ?_,h2⟩
    rcases h4 with h4|rfl
    .exact h1 j h3 h4 h5
    .rw [hd]at h5;exact absurd (Vp h5).symm hst
theorem Pv.envFor {n:Nat}(r:Pv P ops an g0 w0 n O G W V):∀i,i<=n->Ce n O V g0 (λj=>j<i) (G i):=by
 intro i
 induction i with
 |zero=>intro _ s;exact .inr ⟨λj _ h=>absurd h (by omega),by rw[r.g0]⟩
 |succ i ih=>
  intro hi
  have h:=ih (by omega)
  have:=h.step (V:=V) i (by omega) (λs _ j _ _ _ hj=>hj)
  rw[<-r.env i (by omega)]at this
  intro s
  rcases this s with⟨j,h1,h2,h3,h4,h5⟩|⟨h1,h2⟩
  .exact .inl ⟨j,h1,by omega,h3,λk k1 k2 k3=>h4 k k1 (by omega) k3,h5⟩
  .exact .inr ⟨λj a b=>h1 j a (by omega),h2⟩
theorem Pv.still {n:Nat}(r:Pv P ops an g0 w0 n O G W V)(i:Nat):∀d,i+d<=n->(∀h,i<=h->h<i+d->lL h an.1=false)->W (i+d)=W i:=by
 intro d
 induction d with
 |zero=>intro _ _;rfl
 |succ d ih=>
  intro h1 h2
  rw[<-VC,r.light (i+d) (by omega) (h2 _ (by omega) (by omega))]
  exact ih (by omega) (λh a b=>h2 h a (by omega))
theorem Pv.still' {n:Nat}(r:Pv P ops an g0 w0 n O G W V){i k:Nat}(hik:i<=k)(hk:k<=n)(hh:∀h,i<=h->h<k->lL h an.1=false):W k=W i:=by
 have:=r.still i (k-i) (by omega) (λh a b=>hh h a (by omega))
 rwa [show i+(k-i)=k from by omega]at this
theorem Md{i k:Nat}:(∃h,i<=h/\h<k/\lL h an.1=true)->∃h,i<=h/\h<k/\lL h an.1=true/\∀h',i<=h'->h'<h->lL h' an.1=false:=by
 rintro⟨h,h1,h2,h3⟩
 induction h using Nat.strongRecOn with
 |_ h ih=>
  by_cases hx:∃h',i<=h'/\h'<h/\lL h' an.1=true
  .obtain ⟨h',a,b,c⟩:=hx
   exact ih h' b a (by omega) c
  .refine ⟨h,h1,h2,h3,λh' a b=> ?_⟩
   cases hm:lL h' an.1
   .rfl
   .exact absurd ⟨h',a,b,hm⟩ hx
theorem Jl{i k:Nat}:(∃h,i<=h/\h<k/\lL h an.1=true)->∃h,i<=h/\h<k/\lL h an.1=true/\∀h',h<h'->h'<k->lL h' an.1=false:=by
 rintro⟨h,h1,h2,h3⟩
 induction hd:k-h using Nat.strongRecOn generalizing h with
 |_ d ih=>
  by_cases hx:∃h',h<h'/\h'<k/\lL h' an.1=true
  .obtain ⟨h',a,b,c⟩:=hx
   exact ih (k-h') (by omega) h' (by omega) b c rfl
  .refine ⟨h,h1,h2,h3,λh' a b=> ?_⟩
   cases hm:lL h' an.1
   .rfl
   .exact absurd ⟨h',a,b,hm⟩ hx
structure I6 (ops:Array Oper)(an:NZ)(O:Nat->Oper)(b:Array Nat):Prop where
 back:∀i,i<ops.size->∀e∈(O i).after,Region.binds .any e=true->e.on<i
 closed:∀i j,i<ops.size->j<ops.size->Pw b i j=true->∃e∈(O j).after,Region.binds .any e=true/\(e.on=i∨Pw b i e.on=true)
 pair:∀i j,i<j->j<ops.size->DV ops b an i j (O i) (O j)=true
 sel:∀i,i<ops.size->H9 (O i)=false
 fn:∀i,i<ops.size->Qi (O i)=true->lL i an.1=true
theorem Pj(h:Jg ops an=true)(ho:∀i,i<ops.size->ops[i]?=some (O i)):I6 ops an O (Region.before ops):=by
 unfold Jg at h
 simp only[UT]at h
 obtain⟨⟨⟨⟨h1,h2⟩,h3⟩,h5⟩,h6⟩:=h
 refine⟨λi hi e he hb=> ?_,λi j hi hj hb=> ?_,λi j hij hj=> ?_,λi hi=> ?_,λi hi hf=> ?_⟩
 .unfold Ky at h1
  have:=Vh.1 h1 i (Vg.2 hi)
  rw[ho i hi]at this
  have:=Vq.1 this e he
  simp only[hb,VV,Bool.false_or]at this
  exact(V0 (x:=e.on) (y:=i))▸this
 .unfold Ku at h2
  have:=Vh.1 (Vh.1 h2 j (Vg.2 hj)) i (Vg.2 hi)
  rw[ho j hj]at this
  simp only[hb,VV,Bool.false_or]at this
  obtain⟨e,he,h⟩:=Array.any_eq_true'.1 this
  simp only[UT,Vo]at h
  refine⟨e,he,h.1,h.2.imp (λh=>U9 h) id⟩
 .unfold LO at h3
  have:=Vh.1 (Vh.1 h3 j (Vg.2 hj)) i (Vg.2 hij)
  rw[ho i (by omega),ho j hj]at this
  exact this
 .have:=Vq.1 h5 (O i) (Wa (ho i hi))
  simpa using this
 .have:=Vh.1 h6 i (Vg.2 hi)
  rw[ho i hi]at this
  simpa[hf]using this
theorem Qt{i j:Nat}:∀{l:List (Nat×Nat)},Jx i j l=true->(i,j)∈l:=by
 intro l
 induction l with
 |nil=>intro h;cases h
 |cons p r ih=>
  obtain⟨a,b⟩:=p
  intro h
  unfold Jx at h
  cases ha:Nat.beq a i with
  |true=>
   simp only[ha]at h
   cases hb:Nat.beq b j with
   |true=>
    obtain rfl:=U9 ha
    obtain rfl:=U9 hb
    exact Va
   |false=>simp only[hb]at h;exact UX _ (ih h)
  |false=>simp only[ha]at h;exact UX _ (ih h)
theorem I6.order {b:Array Nat}(st:I6 ops an O b){S:Nat->Prop}{i:Nat}(hi:i<ops.size)
 (hdown:∀j k,j<ops.size->k<ops.size->S k->Pw b j k=true->S j) (hbi:∀j,j<ops.size->Pw b j i=true->S j) (hni:¬S i)
 {s:Nat} (hs:s∈looks ops (O i)∨(O i).dst=some s) {j:Nat} (hj:j<ops.size) (hji:j≠i) (hd:(O j).dst=some s):S j↔j<i:=by
 rcases Vk j i with h|h
 .refine ⟨λ_=>h,λ_=> ?_⟩
  have p:=st.pair j i h hi
  unfold DV at p
  simp only[Vo,UT,VD]at p
  rcases p with p|p
  .exact hbi j hj p
  .exfalso
   have p1:=p.1
   unfold PV at p1
   simp only[hd,We]at p1
   rcases hs with hs|hs
   .have:=p1.1.1;simp[hs]at this
   .have:=p1.1.2;simp[hs]at this
 .have h':i<j:=by omega
  refine⟨λhS=> ?_,λhh=>by omega⟩
  exfalso
  have p:=st.pair i j h' hj
  unfold DV at p
  simp only[Vo,UT,VD]at p
  rcases p with p|p
  .exact hni (hdown i j hi hj hS p)
  .have p1:=p.1
   unfold PV at p1
   simp only[hd,We]at p1
   rcases hs with hs|hs
   .have:=p1.2;simp[hs]at this
   .have:=p1.1;rw[hs]at this;simp at this
theorem BS{g g':Env}{o:Oper}(h:∀s∈looks ops o,g s=g' s):∀x∈o.op.operands,ev g x=ev g' x:=by
 intro x hx
 cases x with
 |tmp t=>exact h t (VN _ (List.mem_filterMap.2 ⟨.tmp t,by simpa using hx,rfl⟩))
 |_=>rfl
theorem Mn{g g':Env}{o:Oper}(hs:H9 o=false)(h:∀s∈looks ops o,g s=g' s):B0 g o=B0 g' o:=by
 have e:=execOp_congr o (λcs b he=>by simp[H9,he]at hs) (BS h)
 have k:=BS h
 unfold B0
 split
 .rename_i op t x y yt hx
  rw[k x (by simp[hx,Op.operands]),k y (by simp[hx,Op.operands])]
 .rename_i fn first captured hx
  have e1:List.map (ev g) first.toList=List.map (ev g') first.toList:=Vu λp hp=>k p (by simp[hx,Op.operands];exact .inl (by simpa using hp))
  have e2:List.map (ev g) captured.toList=List.map (ev g') captured.toList:=Vu λp hp=>k p (by simp[hx,Op.operands];exact .inr (by simpa using hp))
  rw[e1,e2]
 .rename_i t ps hx
  congr 1
  refine Vu λp hp=> ?_
  rw[k p.2 (by simp[hx,Op.operands];exact⟨p.1,by simpa using hp⟩)]
 .rename_i t n ps hx
  congr 1
  refine Vu λp hp=> ?_
  rw[k p.2 (by simp[hx,Op.operands];exact⟨p.1,by simpa using hp⟩)]
 .rename_i c hx
  split
  .rename_i b hb
   congr 1
   refine Vu λp hp=> ?_
   exact k p (by simp[hx,Op.operands,Call.operands,hb];simpa using hp)
  .rename_i f hb
   have:List.map (ev g) c.args.toList=List.map (ev g') c.args.toList:=Vu λp hp=>k p (by simp[hx,Op.operands,Call.operands,hb];exact .inr (by simpa using hp))
   rw[this,k f (by simp[hx,Op.operands,Call.operands,hb])]
  .exact e
 .exact e
theorem Kd{g g':Env}{o:Oper}{j:Nat}{want:Bool}(hg:o.guard=some (j,want))(h:∀s∈looks ops o,g s=g' s):
 sL g (wQ ops j) want=sL g' (wQ ops j) want:=by
 cases hs:wQ ops j with
 |none=>rfl
 |some t=>
  have:=h t (V2 _ (by simp[hg,hs]))
  simp[sL,this]
theorem GW{g g':Env}{o:Oper}{w:Wm}{K:Wn->Wm->Prop}(hs:H9 o=false)(h:∀s∈looks ops o,g s=g' s)
 (hk:Au P ops g o w K):Au P ops g' o w K:=by
 have e:=Mn (ops:=ops) hs h
 have run:A6 P g o w=A6 P g' o w:=by
  funext K
  unfold A6
  split
  .rename_i x hx
   have:=BS (ops:=ops) h x (by simp[hx,Op.operands])
   rw[this]
  .rename_i x hx
   have:=BS (ops:=ops) h x (by simp[hx,Op.operands])
   rw[this]
  .rename_i c hx
   have k:=BS h
   have:List.map (ev g) c.args.toList=List.map (ev g') c.args.toList:=Vu λp hp=>k p (by simp[hx,Op.operands,Call.operands];exact .inr (by simpa using hp))
   rw[this,e]
  .rw [e]
 unfold Au at*
 cases hg:o.guard with
 |none=>rw[hg]at hk;simp only at hk⊢;rwa [<-run]
 |some p=>
  obtain⟨j,want⟩:=p
  simp only[hg]at hk⊢
  rw[<-run,<-Kd hg h]
  exact hk
theorem Mg{n:Nat}(hn:n=ops.size){b:Array Nat}(r:Pv P ops an g0 w0 n O G W V)(st:I6 ops an O b){S:Nat->Prop}{i k:Nat}(hi:i<n)(hk:k<=n)
 (hdown:∀j k,j<ops.size->k<ops.size->S k->Pw b j k=true->S j) (hbi:∀j,j<ops.size->Pw b j i=true->S j) (hni:¬S i)
 (hS:∀h,h<n->lL h an.1=true->(S h↔h<k)) (hl:lL i an.1=false):
 HY P ops (G i) (O i) (W k) (V i) (W k):=by
 subst hn
 have same:Gs (T7 ops (O i) (G i)) (vS P (B0 (G i) (O i)) (V i) (W k))->Cm (O i)=false->HY P ops (G i) (O i) (W k) (V i) (W k):=by
  intro hs hm K hK
  have run:vS P (B0 (G i) (O i)) (V i) (W k)->A6 P (G i) (O i) (W k) K:=by
   intro hs
   unfold vS at hs
   have stp:aB P (B0 (G i) (O i)) (W k) K:=by unfold aB;rw[hs];exact hK
   unfold A6
   split
   .rename_i x hx;simp[Cm,hx]at hm
   .rename_i x hx;simp[Cm,hx]at hm
   .rename_i c hx
    have hf:Qi (O i)=false:=by
     cases hh:Qi (O i)
     .rfl
     .rw [st.fn i hi hh]at hl;cases hl
    obtain⟨cal,cargs,cats⟩:=c
    cases cal with
    |value f=>
     cases f with
     |func f=>simp[Qi,hx]at hf
     |_=>exact stp
    |_=>exact stp
   .exact stp
  have hy:=r.yld i hi (λv _=>v=V i) rfl
  unfold Au at hy⊢
  unfold T7 at hs
  cases hg:(O i).guard with
  |none=>rw[hg]at hs;exact run hs
  |some p=>
   obtain⟨j,want⟩:=p
   rw[hg]at hs
   simp only[hg]at hs hy⊢
   cases hb:sL (G i) (wQ ops j) want with
   |true=>rw[hb]at hs;exact run hs
   |false=>
    rw[hb]at hy
    have:undef=V i:=hy
    show K undef (W k)
    rw[this];exact hK
 have moved:Cm (O i)=true->HY P ops (G i) (O i) (W k) (V i) (W k):=by
  intro hm K hK
  have hy:=r.yld i hi (λv _=>v=V i) rfl
  unfold Au at hy⊢
  have mv:∀(K':Wn->Wm->Prop) w,A6 P (G i) (O i) w K'↔∃x,((O i).op= .move x∨(O i).op= .assign x)/\K' (ev (G i) x) w:=by
   intro K' w
   unfold A6
   unfold Cm at hm
   split
   .rename_i x hx;constructor
    .intro h;exact⟨x,.inl hx,h⟩
    .rintro ⟨y,h|h,h'⟩
     .rw [hx]at h;cases h;exact h'
     .rw [hx]at h;cases h
   .rename_i x hx;constructor
    .intro h;exact⟨x,.inr hx,h⟩
    .rintro ⟨y,h|h,h'⟩
     .rw [hx]at h;cases h
     .rw [hx]at h;cases h;exact h'
   .rename_i c hx;simp[hx]at hm
   .rename_i h1 h2 _;split at hm
    .rename_i x hx;exact absurd hx (h1 x)
    .rename_i x hx;exact absurd hx (h2 x)
    .cases hm
  cases hg:(O i).guard with
  |none=>
   rw[hg]at hy
   simp only at hy⊢
   rw[mv]at hy⊢
   obtain⟨x,hx,h⟩:=hy
   exact⟨x,hx,h▸hK⟩
  |some p=>
   obtain⟨j,want⟩:=p
   simp only[hg]at hy⊢
   unfold Gd at*
   cases hb:sL (G i) (wQ ops j) want with
   |true=>
    simp only[hb]at hy⊢
    rw[mv]at hy⊢
    obtain⟨x,hx,h⟩:=hy
    exact⟨x,hx,h▸hK⟩
   |false=>
    simp only[hb]at hy⊢
    rwa [hy]
 rcases Nat.le_total k i with hki|hki
 .by_cases hx:∃h,k<=h/\h<i/\lL h an.1=true
  .obtain ⟨h,h1,h2,h3,h4⟩:=Md hx
   have e:W h=W k:=r.still' h1 (by omega) h4
   have p:=st.pair h i h2 hi
   unfold DV at p
   simp only[Vo,UT,VD]at p
   rcases p with p|p
   .have:=hbi h (by omega) p
    have:=(hS h (by omega) h3).1 this
    omega
   .have p2:=p.2
    rw[h3,hl]at p2
    simp only[Vo]at p2
    cases hmv:Cm (O i)with
    |true=>exact moved hmv
    |false=>
     rcases p2 with p2|p2
     .rw [hmv]at p2;cases p2
     .refine same ?_ hmv
      have c:=r.chk h i h2 hi p2
      unfold Og FW Ih at c
      simp only[h3]at c
      rw[<-e];exact c
  .have e:W i=W k:=r.still' hki (by omega) (λh a b=>by
    cases hm:lL h an.1
    .rfl
    .exact absurd ⟨h,a,b,hm⟩ hx)
   have hy:=r.yld i hi
   rw[r.light i hi hl,e]at hy
   exact hy
 .by_cases hx:∃h,i<=h/\h<k/\lL h an.1=true
  .obtain ⟨h,h1,h2,h3,h4⟩:=Jl hx
   have hne:h≠i:=λe=>by rw[e,hl]at h3;cases h3
   have e:W k=W (h+1):=r.still' (by omega) hk (λh' a b=>h4 h' (by omega) b)
   have p:=st.pair i h (by omega) (by omega)
   unfold DV at p
   simp only[Vo,UT,VD]at p
   rcases p with p|p
   .exact absurd (hdown i h (by omega) (by omega) ((hS h (by omega) h3).2 h2) p) hni
   .have p2:=p.2
    rw[h3,hl]at p2
    simp only[Vo]at p2
    cases hmv:Cm (O i)with
    |true=>exact moved hmv
    |false=>
     rcases p2 with p2|p2
     .rw [hmv]at p2;cases p2
     .refine same ?_ hmv
      have c:=r.chk i h (by omega) (by omega) p2
      unfold Og FW Ih at c
      simp only[hl]at c
      rw[e];exact c
  .have e:W k=W i:=r.still' hki hk (λh a b=>by
    cases hm:lL h an.1
    .rfl
    .exact absurd ⟨h,a,b,hm⟩ hx)
   have hy:=r.yld i hi
   rw[r.light i hi hl,<-e]at hy
   exact hy
def iF(listed:Array Bool)(i:Nat):Prop:=listed.getD i false=true
theorem P8 {N n:Nat}(hn:n=ops.size)(hd:FN N ops)(hca:Gw P ops){b:Array Nat}(r:Pv P ops an g0 w0 n O G W V)(st:I6 ops an O b)
 {Q:Act->Wm->Prop} (hQ:∀a,Di N (G n) a->Q a (W n)):
 ∀(fuel:Nat) (listed:Array Bool) (g:Env) (a:Act) (k:Nat),listed.size=n->Di N g a->k<=n→
  (∀j,j<n->iF listed j->∀e∈(O j).after,Region.binds .any e=true->iF listed e.on)→
  Ce n O V g0 (iF listed) g->(∀h,h<n->lL h an.1=true->(iF listed h↔h<k))→
  ((List.range n).filter λi=> !listed.getD i false).length<=fuel→
  J3 P ops Q fuel listed a (W k):=by
 subst hn
 have ready_iff:∀(listed:Array Bool),listed.size=ops.size->∀i,i∈Region.ready .any ops listed↔(i<ops.size/\¬iF listed i/\∀e∈(O i).after,Region.binds .any e=true->iF listed e.on):=by
  intro listed hsz i
  unfold Region.ready iF
  rw[Wf,Vg]
  constructor
  .rintro ⟨h1,h2⟩
   rw[r.op i h1]at h2
   simp only[UT,Vx,VI]at h2
   refine⟨h1, ?_,λe he hb=> ?_⟩
   .have:=h2.1
    rw[US]at this⊢
    rw[U2 (by omega)]at this⊢
    simpa using this
   .have:=Vq.1 h2.2 e he
    simpa[hb]using this
  .rintro ⟨h1,h2,h3⟩
   refine⟨h1, ?_⟩
   rw[r.op i h1]
   simp only[UT,Vx,VI]
   refine⟨?_,Vq.2 λe he=> ?_⟩
   .rw [US]at h2⊢
    rw[U2 (by omega)]at h2⊢
    simpa using h2
   .by_cases hb:Region.binds .any e=true
    .simp [hb,h3 e he hb]
    .simp [hb]
 have none_ready:∀(listed:Array Bool),listed.size=ops.size->Region.ready .any ops listed=[]->∀i,i<ops.size->iF listed i:=by
  intro listed hsz hr i
  induction i using Nat.strongRecOn with
  |_ i ih=>
   intro hi
   refine Classical.byContradiction λhl=> ?_
   have:i∈Region.ready .any ops listed:=(ready_iff listed hsz i).2 ⟨hi,hl,λe he hb=>by
    have:=st.back i hi e he hb
    exact ih e.on this (by omega)⟩
   rw[hr]at this;cases this
 have all_done:∀(listed:Array Bool) (g:Env) (a:Act) (k:Nat),Di N g a->k<=ops.size->Ce ops.size O V g0 (iF listed) g→
     (∀h,h<ops.size->lL h an.1=true->(iF listed h↔h<k))->(∀i,i<ops.size->iF listed i)->Q a (W k):=by
  intro listed g a k hr hk he hh hall
  have e:W ops.size=W k:=r.still' hk (U0 _) (λh h1 h2=>by
   cases hm:lL h an.1
   .rfl
   .have:=(hh h h2 hm).1 (hall h h2);omega)
  have eg:g=G ops.size:=funext λs=>he.agree (r.envFor ops.size (U0 _)) s (λj hj _=>⟨λ_=>hj,λ_=>hall j hj⟩)
  rw[<-e];exact hQ a (eg▸hr)
 intro fuel
 induction fuel with
 |zero=>
  intro listed g a k hsz hr hk hdep henv hh hc
  have hall:∀i,i<ops.size->iF listed i:=by
   intro i hi
   have hnil:((List.range ops.size).filter λi=> !listed.getD i false)=[]:=Ve.1 (by omega)
   have:=List.filter_eq_nil_iff.1 hnil i (Vg.2 hi)
   unfold iF;simpa using this
  refine⟨?_,all_done listed g a k hr hk henv hh hall⟩
  rw[List.eq_nil_iff_forall_not_mem]
  intro i hi
  have:=(ready_iff listed hsz i).1 hi
  exact this.2.1 (hall i this.1)
 |succ fuel ih=>
  intro listed g a k hsz hr hk hdep henv hh hc
  refine⟨λhn=>all_done listed g a k hr hk henv hh (none_ready listed hsz hn),λi hi=> ?_⟩
  obtain⟨h1,h2,h3⟩:=(ready_iff listed hsz i).1 hi
  have hdown:∀k j,j<ops.size->k<ops.size->iF listed k->Pw b j k=true->iF listed j:=by
   intro k
   induction k using Nat.strongRecOn with
   |_ k ihk=>
    intro j hj hk hl hb
    obtain⟨e,he,hbi,h⟩:=st.closed j k hj hk hb
    have hle:=hdep k hk hl e he hbi
    rcases h with h|h
    .exact h▸hle
    .have hlt:=st.back k hk e he hbi
     exact ihk e.on hlt j hj (by omega) hle h
  have hbi:∀j,j<ops.size->Pw b j i=true->iF listed j:=by
   intro j hj hb
   obtain⟨e,he,hbi,h⟩:=st.closed j i hj h1 hb
   have hle:=h3 e he hbi
   rcases h with h|h
   .exact h▸hle
   .have hlt:=st.back i h1 e he hbi
    exact hdown e.on j hj (by omega) hle h
  have hdown':∀j k,j<ops.size->k<ops.size->iF listed k->Pw b j k=true->iF listed j:=λj k=>hdown k j
  have hlooks:∀s∈looks ops (O i),(G i) s=g s:=λs hs=>
   (r.envFor i (by omega)).agree henv s (λj hj hd=>by
     by_cases hji:j=i
     .subst hji
      exact⟨λh=>absurd h (by omega),λh=>absurd h h2⟩
     .exact (st.order h1 hdown' hbi h2 (.inl hs) hj hji hd).symm)
  have hl':∀j,iF (listed.setIfInBounds i true) j↔(iF listed j∨j=i):=by
   intro j
   unfold iF
   rw[US,US]
   by_cases hji:j=i
   .subst hji
    rw[U4 (by omega)]
    simp
   .rw [U5 (λe=>hji e.symm)]
    simp[hji]
  have next:∀k',k'<=ops.size->(∀h,h<ops.size->lL h an.1=true->((iF listed h∨h=i)↔h<k'))->HY P ops g (O i) (W k) (V i) (W k')→
      Ej P ops i (J3 P ops Q fuel (listed.setIfInBounds i true)) a (W k):=by
   intro k' hk' hh' hy
   refine Ip (r.op i h1) (hca i _ (r.op i h1)) hd hr hy ?_
   refine ih _ (put g (O i).dst (V i)) _ k' (by simp[hsz]) (hr.put _ _ (hd i _ (r.op i h1))) hk' ?_ ?_ ?_ ?_
   .intro j hj hlj e he hb
    rw[hl']at hlj⊢
    rcases hlj with hlj|rfl
    .exact .inl (hdep j hj hlj e he hb)
    .exact .inl (h3 e he hb)
   .have:=henv.step i h1 (λs hs j hj hji hd hlj=>(st.order h1 hdown' hbi h2 (.inr hs) hj hji hd).1 hlj)
    intro s
    rcases this s with⟨j,j1,j2,j3,j4,j5⟩|⟨j1,j2⟩
    .exact .inl ⟨j,j1,(hl' j).2 j2,j3,λk k1 k2 k3=>j4 k k1 ((hl' k).1 k2) k3,j5⟩
    .exact .inr ⟨λj a b=>j1 j a ((hl' j).1 b),j2⟩
   .intro h a b;rw[hl'];exact hh' h a b
   .have hin:i∈(List.range ops.size).filter λi=> !listed.getD i false:=
     Wf.2 ⟨Vg.2 h1,by unfold iF at h2;simpa using h2⟩
    have e1:((List.range ops.size).filter λj=> !(listed.setIfInBounds i true).getD j false)=((List.range ops.size).filter λj=> !listed.getD j false).filter λj=>j !=i:=by
     rw[List.filter_filter]
     refine List.filter_congr λj _=> ?_
     have:=hl' j
     unfold iF at this
     by_cases hji:j=i
     .have hh:(listed.setIfInBounds i true).getD j false=true:=this.2 (.inr hji)
      rw[hh,hji];simp
     .have hne:(j !=i)=true:=by simpa using hji
      rw[hne,Bool.true_and]
      cases ha:listed.getD j false with
      |true=>rw[this.2 (.inl ha)]
      |false=>
       cases hb:(listed.setIfInBounds i true).getD j false with
       |false=>rfl
       |true=>rcases this.1 hb with h|h
              .rw [ha]at h;cases h
              .exact absurd h hji
    have hnd:((List.range ops.size).filter λj=> !listed.getD j false).Nodup:=List.nodup_range.filter _
    rw[e1,<-List.Nodup.erase_eq_filter hnd,List.length_erase_of_mem hin]
    omega
  cases hm:lL i an.1 with
  |true=>
   have hS:∀h,h<ops.size->lL h an.1=true->(iF listed h↔h<i):=by
    intro h hh1 hhm
    rcases Nat.lt_trichotomy h i with hlt|heq|hgt
    .refine ⟨λ_=>hlt,λ_=> ?_⟩
     have p:=st.pair h i hlt h1
     unfold DV at p
     rw[hhm,hm]at p
     simp only[Vo,UT,UY,and_false,or_false]at p
     exact hbi h hh1 p
    .subst heq;exact⟨λhh=>absurd hh h2,λhh=>absurd hh (by omega)⟩
    .refine ⟨λhl=> ?_,λhh=>absurd hh (by omega)⟩
     have p:=st.pair i h hgt hh1
     unfold DV at p
     rw[hhm,hm]at p
     simp only[Vo,UT,UY,and_false,or_false]at p
     exact absurd (hdown h i h1 hh1 hl p) h2
   have eW:W k=W i:=by
    rcases Nat.le_total k i with hki|hki
    .exact (r.still' hki (by omega) (λh a b=>by
      cases hx:lL h an.1
      .rfl
      .have:=(hh h (by omega) hx).1 ((hS h (by omega) hx).2 b);omega)).symm
    .exact r.still' hki hk (λh a b=>by
      cases hx:lL h an.1
      .rfl
      .have:=(hS h (by omega) hx).1 ((hh h (by omega) hx).2 b);omega)
   refine next (i+1) (by omega) (λh a b=> ?_) ?_
   .rw [hS h a b];omega
   .rw [eW]
    intro K hK
    exact GW (ops:=ops) (st.sel i h1) hlooks (r.yld i h1 K hK)
  |false=>
   refine next k hk (λh a b=> ?_) ?_
   .rw [<-hh h a b]
    constructor
    .rintro (h'|rfl)
     .exact h'
     .rw [hm]at b;cases b
    .exact .inl
   .intro K hK
    exact GW (ops:=ops) (st.sel i h1) hlooks (Mg rfl r st h1 hk hdown' hbi h2 hh hm K hK)
end
abbrev I7 (P:Program):Machine->Prop:=Machine.fenced P Fence.wide
def J4 (P:Program)(f:FuncId)(ro:Option Nat)(c:Code)(Q:Exit->Act->Wm->Prop)(a:Act)(w:Wm):Prop:=
 ∀(b:Frame) (k:List Item) (cs:List Frame),b.fn=f->b.roundOf=ro->∃e a' w',Q e a' w'/\ArrivesIn (I7 P) P (lone (b.atR a (.code c::k)) cs w) b k cs e a' w'
section
variable{P:Program}{f:FuncId}{ro:Option Nat}{Q:Exit->Act->Wm->Prop}{a:Act}{w:Wm}
theorem As{m m1:Machine}(h:step P m= .next m1):StepsIn (I7 P) P m m1:= .one (fenced_wide P m) h
theorem CQ{m m1 m2:Machine}(h:step P m= .next m1)(h':StepsIn (I7 P) P m1 m2):StepsIn (I7 P) P m m2:= .head (fenced_wide P m) h h'
theorem Rd(h:Q .normal a w):J4 P f ro .skip Q a w:=λ_ _ _ _ _=>⟨.normal,a,w,h,As Go.stepR_skip⟩
theorem Pq{l:Nat}(h:Q .normal a w):J4 P f ro (.label l) Q a w:=λ_ _ _ _ _=>⟨.normal,a,w,h,As stepR_label⟩
theorem MS{id:Nat}(h:Q (.exit id) a w):J4 P f ro (.exit id) Q a w:=
 λ_ k _ _ _=>⟨.exit id,a,w,h,λ_ hk=>As (stepR_exit hk),λ_ hk=>⟨k,hk,.refl _⟩⟩
theorem ON(h:Q .ret a w):J4 P f ro .ret Q a w:=
 λ_ k _ _ _=>⟨.ret,a,w,h,λhn=>⟨_,As (stepR_ret hn)⟩,λ_=>⟨k,.refl _⟩⟩
theorem Sb{x y:Code}(h:J4 P f ro x (Exit.then (J4 P f ro y Q) Q) a w):J4 P f ro (.seq x y) Q a w:=by
 intro b k cs hb hro
 obtain⟨e,a1,w1,hq,har⟩:=h b (.code y::k) cs hb hro
 cases e with
 |normal=>
  obtain⟨e2,a2,w2,hq2,har2⟩:=hq b k cs hb hro
  exact⟨e2,a2,w2,hq2,.of_steps (CQ stepR_seq har) har2⟩
 |_=>exact⟨_,a1,w1,hq,.of_steps (As stepR_seq) (.pass (x:= .code y) rfl (λ_ _=> .inl (by simp)) har)⟩
theorem Rb{c:Operand}{x y:Code}{t:Bool}(hc:a.eval c= .bool t)(h:J4 P f ro (if t then x else y) Q a w):J4 P f ro (.cond c x y) Q a w:=
 λb k cs hb hro=>let⟨e,a1,w1,q,r⟩:=h b k cs hb hro;⟨e,a1,w1,q,.of_steps (As (stepR_cond hc)) r⟩
theorem Pp{id:Nat}{c:Code}(h:J4 P f ro c (Exit.inBlock id Q) a w):J4 P f ro (.block id c) Q a w:=by
 intro b k cs hb hro
 obtain⟨e,a1,w1,hq,har⟩:=h b (.inBlock id::k) cs hb hro
 cases e with
 |normal=>exact⟨.normal,a1,w1,hq,CQ stepR_block (StepsIn.trans har (As stepR_inBlock))⟩
 |exit i=>
  by_cases hid:i=id
  .simp only[Exit.inBlock,hid,if_true]at hq
   exact⟨.normal,a1,w1,hq,CQ stepR_block (har.1 k (by simp[exitTo,hid]))⟩
  .simp only[Exit.inBlock,hid,if_false]at hq
   have this:(id==i)=false:=by simp;exactλh=>hid h.symm
   have hx:exitTo i (.inBlock id::k)=exitTo i k:=by simp[exitTo,this]
   exact⟨.exit i,a1,w1,hq,λk' hk=>CQ stepR_block (har.1 k' (by rw[hx];exact hk)),
    λhr' hk=>let⟨k1,h1,h2⟩:=har.2 hr' (by rw[hx];exact hk);⟨k1,h1,CQ stepR_block h2⟩⟩
 |goto l=>
  have hx:gotoIn l (.inBlock id::k)=gotoIn l k:=by simp[gotoIn]
  exact⟨_,a1,w1,hq,λk' hk=>CQ stepR_block (har.1 k' (by rw[hx];exact hk)),
   λhr' hk=>let⟨k1,h1,h2⟩:=har.2 hr' (by rw[hx];exact hk);⟨k1,h1,CQ stepR_block h2⟩⟩
 |ret=>exact⟨_,a1,w1,hq,.of_steps (As stepR_block) har⟩
 |panic ch=>exact⟨_,a1,w1,hq,.of_steps (As stepR_block) har⟩
 |outgrown=>exact⟨_,a1,w1,hq,.of_steps (As stepR_block) har⟩
theorem tW{b:Frame}{k:List Item}{cs:List Frame}{c:Code}:
 step P (lone (b.atR a (.code (.scope c)::k)) cs w)= .next (lone (b.atR a (.code c:: .inScope c::k)) cs w):=
 step_lone_go (by simp[stepG,stepG.exec,Frame.atR])
theorem Ko{b:Frame}{k:List Item}{cs:List Frame}{c:Code}:
 step P (lone (b.atR a (.inScope c::k)) cs w)= .next (lone (b.atR a k) cs w):=
 step_lone_go (by simp[stepG,stepG.exec,Frame.atR])
theorem Ps{c:Code}(h:J4 P f ro c (Exit.noGoto Q) a w):J4 P f ro (.scope c) Q a w:=by
 intro b k cs hb hro
 obtain⟨e,a1,w1,hq,har⟩:=h b (.inScope c::k) cs hb hro
 cases e with
 |normal=>exact⟨.normal,a1,w1,hq,CQ tW (StepsIn.trans har (As Ko))⟩
 |exit id=>
  have hx:exitTo id (.inScope c::k)=exitTo id k:=by simp[exitTo]
  exact⟨.exit id,a1,w1,hq,λk' hk=>CQ tW (har.1 k' (by rw[hx];exact hk)),
   λhr' hk=>let⟨k1,h1,h2⟩:=har.2 hr' (by rw[hx];exact hk);⟨k1,h1,CQ tW h2⟩⟩
 |goto l=>exact hq.elim
 |ret=>exact⟨_,a1,w1,hq,.of_steps (As tW) har⟩
 |panic ch=>exact⟨_,a1,w1,hq,.of_steps (As tW) har⟩
 |outgrown=>exact⟨_,a1,w1,hq,.of_steps (As tW) har⟩
theorem Rc{c:Code}(I:Act->Wm->Prop)(μ:Act->Wm->Nat)(h0:I a w)
 (round:∀a w,I a w->J4 P f ro c (Exit.then (λa' w'=>I a' w'/\μ a' w'<μ a w) Q) a w):J4 P f ro (.loop c) Q a w:=by
 intro b k cs hb hro
 have key:∀n a w,μ a w=n->I a w→
     ∃e a' w',Q e a' w'/\ArrivesIn (I7 P) P (lone (b.atR a (.code c:: .inLoop c::k)) cs w) b k cs e a' w':=by
  intro n
  induction n using Nat.strongRecOn with
  |_ n ih=>
   intro a w hn hI
   obtain⟨e,a1,w1,hq,har⟩:=round a w hI b (.inLoop c::k) cs hb hro
   cases e with
   |normal=>
    obtain⟨hI1,hlt⟩:=hq
    obtain⟨e2,a2,w2,hq2,har2⟩:=ih (μ a1 w1) (hn▸hlt) a1 w1 rfl hI1
    exact⟨e2,a2,w2,hq2,.of_steps (StepsIn.trans har (As stepR_inLoop)) har2⟩
   |_=>exact⟨_,a1,w1,hq,.pass (x:= .inLoop c) rfl (λ_ _=> .inl (by simp)) har⟩
 obtain⟨e,a',w',hq,har⟩:=key _ a w rfl h0
 exact⟨e,a',w',hq,.of_steps (As stepR_loop) har⟩
theorem OL{ops:Array Oper}{L:List Nat}(h:wS P ops (Q .normal) L a w)(b:Frame)(k:List Item)(cs:List Frame)(hro:b.roundOf=ro):
 ∃e a' w',Q e a' w'/\ArrivesIn (I7 P) P (lone (b.atR a (.inRegion ops L::k)) cs w) b k cs e a' w':=by
 obtain⟨e,a',w',⟨rfl,hq⟩,hs⟩:=wp_opsIn (F:=J2 ro) (n:=0) L a w (Pt ro L a w h) b k cs hro trivial (λ_ h=>by simp[J2,Fence.wide]at h)
 exact⟨.normal,a',w',hq,hs⟩
theorem NV{id:Nat}{ops:Array Oper}(h:wS P ops (Q .normal) (List.range ops.size) a w):J4 P f ro (.region id ops false) Q a w:=by
 intro b k cs hb hro
 obtain⟨e,a1,w1,q,r⟩:=OL h b k cs hro
 exact⟨e,a1,w1,q,.of_steps (As stepR_region) r⟩
theorem IN(hm:P.follows .mixedOrders=true){id:Nat}{ops:Array Oper}
 (h:wS P ops (Q .normal) (Region.schedule true ops (w.tape w.drawn (.order f id))) a {w with drawn:=w.drawn+1}):J4 P f ro (.region id ops true) Q a w:=by
 intro b k cs hb hro
 obtain⟨e,a1,w1,q,r⟩:=OL h b k cs hro
 refine⟨e,a1,w1,q,.of_steps (As ?_) r⟩
 have:= @stepR_region_draw P b a k cs w ops id
 rw[hm,hb]at this
 exact this
def AB(v:Wn)(w:Wm)(K:Wm->Prop):Prop:=
 match v with
 | .pointer (some a)=>w.heap[a.block]?=some (.deferred (some []))/\K (w.putObj a.block (.deferred none))
 |_=>K w
def OS(P:Program)(fn:Func)(R:Wn->Wm->Prop):Exit->Act->Wm->Prop
 | .normal,a,w| .ret,a,w=>∃m,a.defers=LY m/\AB m w λw'=>∃v,(results fn a.tmps).run P w'= .ok v w'/\R v w'
 |_,_,_=>False
theorem Me{fn:Func}{R:Wn->Wm->Prop}{fr:Frame}{cs:List Frame}(hm:fr.mode= .returning)(hf:P.funcs[fr.fn]?=some fn)(hk:fr.kind= .normal){m:Wn}(hd:fr.defers=LY m)
 (h:AB m w λw'=>∃v,(results fn fr.tmps).run P w'= .ok v w'/\R v w'):
 ∃v w' fr',R v w'/\Steps P (lone fr cs w) (lone fr' cs w')/\fr'.fn=fr.fn/\fr'.leaving P w' (.returned v):=by
 have nil:fr.defers=[]->(∃v,(results fn fr.tmps).run P w= .ok v w/\R v w)→
     ∃v w' fr',R v w'/\Steps P (lone fr cs w) (lone fr' cs w')/\fr'.fn=fr.fn/\fr'.leaving P w' (.returned v):=by
  rintro hd ⟨v,hv,hR⟩
  exact⟨v,w,fr,hR,.refl _ _,rfl,hm,hd,hk,fn,hf,hv⟩
 cases m with
 |pointer p=>
  cases p with
  |none=>exact nil hd h
  |some a=>
   obtain⟨h1,v,hv,hR⟩:=h
   have hs:=step_collected (P:=P) (fr:=fr) (cs:=cs) (w:=w) (d:={target:= .collected a.block,args:= #[]}) (r:=a.block) (ds:=[]) (calls:=[])
    (by rw[hm];simp) hd rfl (run_takeDeferred h1)
   exact⟨v,_,{fr with defers:=[]},hR,.head hs (.refl _ _),rfl,hm,rfl,hk,fn,hf,hv⟩
 |_=>exact nil hd h
theorem KY{fn:Func}{c:Code}{args:Array Wn}{w:Wm}{R:Wn->Wm->Prop}
 (hf:P.funcs[f]?=some fn) (hb:fn.body=some c)
 (h:J4 P f none c (OS P fn R) {tmps:=args++Array.replicate (fn.ntmps-args.size) undef,defers:=[]} w):Calls P f args w λe w'=>∃v,e= .returned v/\R v w':=by
 intro cs
 let b:Frame:={(default:Frame)with fn:=f,kind:= .normal,roundOf:=none}
 have henter:Frame.enter P f args .normal=b.atR {tmps:=args++Array.replicate (fn.ntmps-args.size) undef,defers:=[]} [.code c]:=by
  simp[Frame.enter,Frame.atR,hf,hb,b]
 obtain⟨e,a',w',hq,har⟩:=h b [] cs rfl rfl
 rw[<-henter]at har
 cases e with
 |normal=>
  obtain⟨m,hd,hq⟩:=hq
  obtain⟨v,w2,fr,hR,hs,hfn,hl⟩:=Me (P:=P) (cs:=cs) (fr:={b.atR a' []with mode:= .returning}) rfl hf rfl hd hq
  exact⟨.returned v,w2,fr,⟨v,rfl,hR⟩,(StepsIn.steps har).trans (.head (stepR_end rfl) hs),hfn,hl⟩
 |ret=>
  obtain⟨m,hd,hq⟩:=hq
  obtain⟨todo,hs0⟩:=har.1 rfl
  obtain⟨v,w2,fr,hR,hs,hfn,hl⟩:=Me (P:=P) (cs:=cs) (fr:={b.atR a' todo with mode:= .returning}) rfl hf rfl hd hq
  exact⟨.returned v,w2,fr,⟨v,rfl,hR⟩,(StepsIn.steps hs0).trans hs,hfn,hl⟩
 |panic chain=>exact hq.elim
 |exit id=>exact hq.elim
 |goto l=>exact hq.elim
 |outgrown=>exact hq.elim
def Sk(P:Program)(f:FuncId)(Q:Exit->Act->Wm->Prop)(a:Act)(w:Wm):Option Code->Prop
 |none=>Q .normal a w
 |some c=>J4 P f none c Q a w
theorem Pr{gf:Operand}{ps:Array Tmp}{UN bd:Code}{d:Deferred}{g:FuncId}{args:Array Wn}{w1:Wm}{l:Nat}{mark:List Deferred}{w2 w3:Wm}{v:Wn}
 (he:(Instr.enterLoop f a.tmps ps UN bd none).run P w= .ok (l,mark) w1)
 (hres:(resolve a.eval (rangeCall gf l) 0).run P w1= .ok d w1) (hinv:(invoke d.target d.args).run P w1= .ok (.enter g args) w2)
 (hcall:Uc P g args w2 v w3)
 {jump:Option Code} {w4:Wm} (hend:(Instr.endLoop l).run P w3= .ok jump w4)
 (hj:Sk P f Q {a with defers:=mark++a.defers} w4 jump):
 J4 P f none (.rangeFunc gf ps UN bd) Q a w:=by
 intro b k cs hb hro
 rw[<-hb,<-hro]at he
 have henter:=stepR_rangeFunc (P:=P) (b:=b) (a:=a) (k:=k) (cs:=cs) (w:=w) he hres hinv
 obtain⟨e,w3',fr,⟨rfl,rfl⟩,hsteps,hfn,hleave⟩:=hcall (b.atR {a with defers:=mark++a.defers} (.inRangeFunc l::k)::cs)
 have sback:StepsIn (I7 P) P (lone (b.atR a (.code (.rangeFunc gf ps UN bd)::k)) cs w) (lone (b.atR {a with defers:=mark++a.defers} ((jump.map Item.code).toList++k)) cs w4):=by
  refine CQ henter (StepsIn.trans (stepsIn_wide.2 hsteps) (CQ (m1:=lone (b.atR {a with defers:=mark++a.defers} (.endRangeFunc l::k)) cs w3') ?_ (As (stepR_endRangeFunc hend))))
  rw[<-finish_atR_inRangeFunc l v];exact step_leave_returned hleave
 cases jump with
 |none=>exact⟨.normal,_,w4,hj,sback⟩
 |some c=>
  obtain⟨e',a'',w5,hq,harr⟩:=hj b k cs hb hro
  exact⟨e',a'',w5,hq,.of_steps sback harr⟩
def Ny(P:Program)(l:Nat)(R:Wn->Wm->Prop):Exit->Act->Wm->Prop
 | .normal,_,w=>∃v w',(Instr.endRound l none).run P w= .ok v w'/\R v w'
 | .ret,_,w=>∃v w',(Instr.endRound l (some .ret)).run P w= .ok v w'/\R v w'
 | .exit id,_,w=>∃v w',(Instr.endRound l (some (.exit id))).run P w= .ok v w'/\R v w'
 |_,_,_=>False
theorem Lp{l:Nat}{tmps:Array Wn}{UN bd:Code}{R:Wn->Wm->Prop}
 (h:J4 P f (some l) UN (Exit.then (λa1 w1=>∃w2,(Instr.beginRound l).run P w1= .ok () w2/\J4 P f (some l) bd (Ny P l R) a1 w2) (λ_ _ _=>False))
   {tmps:=tmps,defers:=[]} w):
 RoundIn Fence.wide 0 P l f tmps UN bd w λe w'=>∃v,e= .returned v/\R v w':=by
 refine⟨trivial,λc cs _=> ?_⟩
 let b:Frame:={(default:Frame)with fn:=f,kind:= .normal,roundOf:=some l}
 have hb0:Frame.round l f tmps UN bd .normal=b.atR {tmps:=tmps,defers:=[]} [.code UN,.beginRound,.code bd]:=by
  simp[Frame.round,Frame.atR,b]
 obtain⟨e,a1,w1,hq,harr⟩:=h b [.beginRound,.code bd] (c::cs) rfl rfl
 rw[<-hb0]at harr
 cases e with
 |normal=>
  obtain⟨w2,hbr,hbody⟩:=hq
  have s1:=As (stepR_beginRound (P:=P) (b:=b) (a:=a1) (k:=[.code bd]) (cs:=c::cs) rfl hbr)
  obtain⟨e2,a2,w3,hq2,harr2⟩:=hbody b [] (c::cs) rfl rfl
  cases e2 with
  |normal=>
   obtain⟨v,w4,hend,hR⟩:=hq2
   exact⟨.returned v,w4,⟨v,rfl,hR⟩,(StepsIn.trans harr s1).trans (StepsIn.trans harr2 (As (stepR_round_end rfl rfl hend)))⟩
  |ret=>
   obtain⟨v,w4,hend,hR⟩:=hq2
   obtain⟨k1,hs⟩:=harr2.2 rfl
   exact⟨.returned v,w4,⟨v,rfl,hR⟩,(StepsIn.trans harr s1).trans (StepsIn.trans hs (As (stepR_round_ret rfl rfl hend)))⟩
  |exit id=>
   obtain⟨v,w4,hend,hR⟩:=hq2
   obtain⟨k1,hk,hs⟩:=harr2.2 rfl rfl
   exact⟨.returned v,w4,⟨v,rfl,hR⟩,(StepsIn.trans harr s1).trans (StepsIn.trans hs (As (stepR_round_exit rfl rfl hk hend)))⟩
  |goto t=>exact hq2.elim
  |panic chain=>exact hq2.elim
  |outgrown=>exact hq2.elim
 |exit id=>exact hq.elim
 |goto t=>exact hq.elim
 |ret=>exact hq.elim
 |panic chain=>exact hq.elim
 |outgrown=>exact hq.elim
end
def KS(ops:Array Oper):Nat->Array Bool->List Nat->Prop
 |0,_,L=>L=[]
 |_+1,listed,[]=>Region.ready .any ops listed=[]
 |n+1,listed,i::L=>i∈Region.ready .any ops listed/\KS ops n (listed.setIfInBounds i true) L
section
variable{P:Program}{ops:Array Oper}{Q:Act->Wm->Prop}
theorem RP:∀(fuel t:Nat) (listed:Array Bool),KS ops fuel listed (Region.linearise.go .any ops fuel t listed []):=by
 intro fuel
 induction fuel with
 |zero=>intro t listed;simp[Region.linearise.go,KS]
 |succ fuel ih=>
  intro t listed
  simp only[Region.linearise.go]
  change KS ops (fuel+1) listed (match(Region.ready .any ops listed)[t%(Region.ready .any ops listed).length]? with
   |some i=>Region.linearise.go .any ops fuel (t/(Region.ready .any ops listed).length) (listed.setIfInBounds i true) [i]
   |none=>[].reverse)
  cases hi:(Region.ready .any ops listed)[t%(Region.ready .any ops listed).length]? with
  |none=>
   have:Region.ready .any ops listed=[]:=by
    cases hr:Region.ready .any ops listed with
    |nil=>rfl
    |cons x xs=>
     rw[hr]at hi
     have hlt:t%(x::xs).length<(x::xs).length:=Nat.mod_lt _ (by simp)
     rw[U1 hlt]at hi
     cases hi
   simpa[KS]using this
  |some i=>
   simp only[]
   rw[linearise_go_acc]
   exact⟨VO hi,ih _ _⟩
theorem Hj:∀(fuel:Nat) (listed:Array Bool) (L:List Nat) (a:Act) (w:Wm),J3 P ops Q fuel listed a w->KS ops fuel listed L->wS P ops Q L a w:=by
 intro fuel
 induction fuel with
 |zero=>intro listed L a w h hL;obtain rfl:L=[]:=hL;exact h.2
 |succ fuel ih=>
  intro listed L a w h hL
  cases L with
  |nil=>exact h.1 hL
  |cons i L=>
   exact NW (λa w hh=>ih _ _ a w hh hL.2) (h.2 i hL.1)
end
structure Perm(π:List Nat)(ops:Array Oper):Prop where
 len:π.length=ops.size
 to:∀i,i<ops.size->qD π i<ops.size/\π[qD π i]?=some i
 back:∀k,k<ops.size->∃i,π[k]?=some i/\qD π i=k/\i<ops.size
 after:∀(i:Nat) (o:Oper),ops[i]?=some o->∀e∈o.after,e.on<ops.size
 guard:∀(i:Nat) (o:Oper) (j:Nat) (b:Bool),ops[i]?=some o->o.guard=some (j,b)->j<ops.size
theorem RV{π:List Nat}{ops:Array Oper}(h:Nm π ops=true):Perm π ops:=by
 unfold Nm at h
 simp only[UT]at h
 obtain⟨⟨⟨h1,h2⟩,h3⟩,h4⟩:=h
 have h1:=U9 h1
 have at4:∀(i:Nat) (o:Oper),ops[i]?=some o->(o.after.all λe=>Nat.blt e.on ops.size)=true/\(match o.guard with|some (j,_)=>Nat.blt j ops.size|none=>true)=true:=by
  intro i o ho
  have hi:i<ops.size:=by
   rcases Vk i ops.size with h|h
   .exact h
   .rw [Vc h]at ho;cases ho
  have:=Vh.1 h4 i (Vg.2 hi)
  rw[ho]at this
  simp only[UT]at this
  refine⟨this.1, ?_⟩
  have h:=this.2
  revert h
  cases o.guard<;>exact id
 refine⟨h1,λi hi=> ?_,λk hk=> ?_,λi o ho e he=> ?_,λi o j b ho hg=> ?_⟩
 .have:=Vh.1 h3 i (Vg.2 hi)
  cases hp:π[qD π i]? with
  |none=>rw[hp]at this;cases this
  |some j=>
   rw[hp]at this
   obtain rfl:=U9 this
   refine⟨?_,rfl⟩
   rcases Vk (qD π j) π.length with h|h
   .omega
   .rw [Vy h]at hp;cases hp
 .have:=Vh.1 h2 k (Vg.2 hk)
  cases hp:π[k]? with
  |none=>rw[hp]at this;cases this
  |some i=>
   rw[hp]at this
   simp only[UT]at this
   exact⟨i,rfl,U9 this.1,(V0 (x:=i) (y:=ops.size))▸this.2⟩
 .have:=Vq.1 (at4 i o ho).1 e he
  exact(V0 (x:=e.on) (y:=ops.size))▸this
 .have:=(at4 i o ho).2
  rw[hg]at this
  exact(V0 (x:=j) (y:=ops.size))▸this
theorem KH{π:List Nat}{es:List (Nat×Nat)}{l:List Oper}:∀(r:List Nat),(∀i∈r,i<l.length)->(GX π es l r).length=r.length/\∀k i:Nat,r[k]?=some i->(GX π es l r)[k]?=(l[i]?).map (Bq π es i):=by
 intro r
 induction r with
 |nil=>intro _;exact⟨rfl,λk i h=>by simp at h⟩
 |cons j r ih=>
  intro h
  obtain⟨h1,h2⟩:=ih λi hi=>h i (UX _ hi)
  have hj:j<l.length:=h j (by simp)
  simp only[GX,U1 hj]
  refine⟨by simp[h1],λk i hk=> ?_⟩
  cases k with
  |zero=>simp at hk;subst hk;simp[U1 hj]
  |succ k=>simp at hk⊢;exact h2 k i hk
section
variable{P:Program}{ops:Array Oper}{Q:Act->Wm->Prop}{π:List Nat}{es:List (Nat×Nat)}
theorem Perm.mem (p:Perm π ops):∀i∈π,i<ops.toList.length:=by
 intro i hi
 obtain⟨k,hk,e⟩:=List.getElem_of_mem hi
 obtain⟨j,h1,_,h2⟩:=p.back k (by rw[<-p.len];exact hk)
 rw[U1 hk]at h1
 cases h1
 rw[<-e];simpa using h2
theorem Perm.size (p:Perm π ops):(lF π es ops).size=ops.size:=by
 unfold lF
 rw[V7,(KH (es:=es) (π:=π) π p.mem).1,p.len]
theorem Perm.get (p:Perm π ops){i:Nat}(hi:i<ops.size):(lF π es ops)[qD π i]?=(ops[i]?).map (Bq π es i):=by
 unfold lF
 have:=(KH (es:=es) (π:=π) π p.mem).2 (qD π i) i (p.to i hi).2
 rw[VK]at this
 simpa using this
theorem Nn{i:Nat}{o:Oper}{a:Act}{w:Wm}{K:Act->Wm->Prop}:NB P (Bq π es i o) a w K↔NB P o a w K:=by
 unfold NB
 have h1:execOp a.eval (Bq π es i o)=execOp a.eval o:=by
  obtain⟨d,op,ty,ps,af,g⟩:=o
  cases op<;>rfl
 have h2:KB (Bq π es i o)=KB o:=rfl
 rw[h1,h2]
 generalize(execOp a.eval o).run P w=r
 cases r with
 |ok n w=>cases n<;>exact Iff.rfl
 |halt x w=>exact Iff.rfl
theorem Mr(p:Perm π ops){i:Nat}{o:Oper}(ho:ops[i]?=some o)(tmps:Array Wn):
 Region.wanted (Bq π es i o) (yielded (lF π es ops) tmps)=Region.wanted o (yielded ops tmps):=by
 unfold Region.wanted Bq
 simp only
 cases hg:o.guard with
 |none=>rfl
 |some q=>
  obtain⟨j,b⟩:=q
  simp only
  have hj:=p.guard i o j b ho hg
  have:(lF π es ops)[qD π j]?.bind (·.dst)=(ops[j]?).bind (·.dst):=by
   rw[p.get hj]
   cases ops[j]?<;>rfl
  unfold yielded
  rw[this]
theorem NX(p:Perm π ops):∀(L:List Nat),(∀i∈L,i<ops.size)->∀(a:Act) (w:Wm),wS P (lF π es ops) Q (L.map (qD π)) a w->wS P ops Q L a w:=by
 intro L
 induction L with
 |nil=>intro _ a w h;exact h
 |cons i L ih=>
  intro hL a w h
  rw[UW]at h
  simp only[wS]at h⊢
  have hi:=hL i (by simp)
  have ih:=ih λi hi=>hL i (UX _ hi)
  unfold Ej at h⊢
  rw[p.get hi]at h
  rw[U2 hi]at h⊢
  simp only[Vx]at h
  rw[Mr p (U2 hi)]at h
  simp only
  split
  .rename_i hw
   rw[if_pos hw,Nn]at h
   exact KK (λa w=>ih a w) h
  .rename_i hw
   rw[if_neg hw]at h
   exact ih _ _ h
theorem Ev{ops:Array Oper}{listed:Array Bool}(hsz:listed.size=ops.size)(i:Nat):
 i∈Region.ready .any ops listed↔(i<ops.size/\listed.getD i false=false/\∀o,ops[i]?=some o->∀e∈o.after,Region.binds .any e=true->listed.getD e.on false=true):=by
 unfold Region.ready
 rw[Wf,Vg]
 constructor
 .rintro ⟨h1,h2⟩
  rw[U2 h1]at h2
  simp only[UT,Vx,VI]at h2
  refine⟨h1, ?_,λo ho e he hb=> ?_⟩
  .have:=h2.1
   rw[US]at this⊢
   rw[U2 (by omega)]at this⊢
   simpa using this
  .rw [U2 h1]at ho
   cases ho
   have:=Vq.1 h2.2 e he
   simpa[hb]using this
 .rintro ⟨h1,h2,h3⟩
  refine⟨h1, ?_⟩
  rw[U2 h1]
  simp only[UT,Vx,VI]
  refine⟨?_,Vq.2 λe he=> ?_⟩
  .rw [US]at h2⊢
   rw[U2 (by omega)]at h2⊢
   simpa using h2
  .by_cases hb:Region.binds .any e=true
   .simp [hb,h3 _ (U2 h1) e he hb]
   .simp [hb]
theorem QE{π:List Nat}{i:Nat}:∀{es:List (Nat×Nat)} {e:Edge},e∈zO π i es->∃a,(a,i)∈es/\e.on=qD π a:=by
 intro es
 induction es with
 |nil=>intro e h;simp[zO]at h
 |cons q r ih=>
  obtain⟨a,b⟩:=q
  intro e h
  simp only[zO]at h
  cases hb:Nat.beq b i with
  |true=>
   rw[hb]at h
   obtain rfl:=U9 hb
   rcases UZ.1 h with rfl|h
   .exact ⟨a,by simp,rfl⟩
   .obtain ⟨a,h1,h2⟩:=ih h;exact⟨a,UX _ h1,h2⟩
  |false=>rw[hb]at h;obtain⟨a,h1,h2⟩:=ih h;exact⟨a,UX _ h1,h2⟩
theorem O3 (p:Perm π ops){L0:List Nat}(hes:∀q∈es,L0.idxOf q.1<=L0.idxOf q.2/\q.1≠q.2/\q.1<ops.size):
 ∀(fuel:Nat) (listed listed':Array Bool) (pre L:List Nat),L0=pre++L->listed.size=ops.size->listed'.size=ops.size→
  (∀j,j<ops.size->listed'.getD (qD π j) false=listed.getD j false)->(∀j∈pre,listed.getD j false=true)->(∀j,listed.getD j false=true->j∈pre)→
  KS ops fuel listed L->KS (lF π es ops) fuel listed' (L.map (qD π))/\∀i∈L,i<ops.size:=by
 intro fuel
 induction fuel with
 |zero=>intro listed listed' pre L _ _ _ _ _ _ h;obtain rfl:L=[]:=h;exact⟨rfl,by simp⟩
 |succ fuel ih=>
  intro listed listed' pre L hL0 hs hs' hrel hpre hpre' h
  have hsz:(lF π es ops).size=ops.size:=p.size
  cases L with
  |nil=>
   refine⟨?_,by simp⟩
   show Region.ready .any (lF π es ops) listed'=[]
   rw[List.eq_nil_iff_forall_not_mem]
   intro k hk
   obtain⟨h1,h2,h3⟩:=(Ev (by omega) k).1 hk
   obtain⟨i,hi1,hi2,hi3⟩:=p.back k (by omega)
   have:i∈Region.ready .any ops listed:=by
    refine(Ev hs i).2 ⟨hi3, ?_,λo ho e he hb=> ?_⟩
    .rw [<-hrel i hi3,hi2];exact h2
    .have g:=p.get (es:=es) hi3
     rw[hi2,ho]at g
     have hon:=p.after i o ho e he
     have:=h3 _ g ⟨qD π e.on,e.ground⟩ (by
      simp only[Bq,List.mem_toArray,Vw,Vl]
      exact .inl ⟨e,by simpa using he,rfl⟩) (by unfold Region.binds at hb⊢;exact hb)
     rw[<-hrel e.on hon];exact this
   rw[show Region.ready .any ops listed=[]from h]at this
   cases this
  |cons i L=>
   obtain⟨h1,h2⟩:=h
   obtain⟨r1,r2,r3⟩:=(Ev hs i).1 h1
   have hnot:i∉pre:=λhm=>by rw[hpre i hm]at r2;cases r2
   have hidx:L0.idxOf i=pre.length:=by
    rw[hL0,List.idxOf_append,if_neg hnot];simp
   have ready':qD π i∈Region.ready .any (lF π es ops) listed':=by
    refine(Ev (by omega) _).2 ⟨by rw[hsz];exact(p.to i r1).1,by rw[hrel i r1];exact r2,λo' ho' e' he' hb=> ?_⟩
    rw[p.get r1,U2 r1]at ho'
    simp only[Vx,V1]at ho'
    subst ho'
    simp only[Bq,List.mem_toArray,Vw,Vl]at he'
    rcases he' with⟨e,he,rfl⟩|he'
    .have ho:=U2 r1
     have he2:e∈ops[i].after:=by simpa using he
     rw[hrel e.on (p.after i _ ho e he2)]
     exact r3 _ ho e he2 (by unfold Region.binds at hb⊢;exact hb)
    .obtain ⟨a,ha,hon⟩:=QE he'
     obtain⟨q1,q2,q3⟩:=hes _ ha
     simp only at q1 q2 q3
     rw[hon,hrel a q3]
     refine hpre a ?_
     rw[hidx]at q1
     rw[hL0,List.idxOf_append]at q1
     by_cases hm:a∈pre
     .exact hm
     .rw [if_neg hm]at q1
      exfalso
      have hz:(i::L).idxOf a=0:=by omega
      rw[List.idxOf_cons]at hz
      cases hb:(i==a)with
      |true=>exact q2 (by simpa using(beq_iff_eq.1 hb).symm)
      |false=>rw[hb]at hz;simp at hz
   have hlen':listed'.size=ops.size:=hs'
   obtain⟨k1,k2⟩:=ih (listed.setIfInBounds i true) (listed'.setIfInBounds (qD π i) true) (pre++[i]) L (by rw[hL0];simp) (by simp[hs]) (by simp[hs'])
    (λj hj=>by
     by_cases hji:j=i
     .subst hji
      rw[US,US,U4 (by rw[hs'];exact(p.to j hj).1),U4 (by omega)]
     .have hne:qD π i≠qD π j:=λe=>by
       have a1:=(p.to i r1).2
       have a2:=(p.to j hj).2
       rw[e]at a1
       rw[a1]at a2
       exact hji (Vp a2).symm
      have:=hrel j hj
      rw[US,US]at this⊢
      rw[U5 hne,U5 (λe=>hji e.symm)]
      exact this)
    (λj hj=>by
     rw[US]
     rcases Vw.1 hj with hj|hj
     .by_cases hji:j=i
      .subst hji;rw[U4 (by omega)]<;>rfl
      .rw [U5 (λe=>hji e.symm),<-US];exact hpre j hj
     .have:j=i:=by simpa using hj
      subst this
      rw[U4 (by omega)]<;>rfl)
    (λj hj=>by
     by_cases hji:j=i
     .subst hji;simp
     .rw [US,U5 (λe=>hji e.symm),<-US]at hj
      exact VN _ (hpre' j hj))
    h2
   exact⟨⟨ready',k1⟩,λj hj=>(UZ.1 hj).elim (λe=>e▸r1) (k2 j)⟩
end
section
variable{P:Program}{ops:Array Oper}
theorem H6 {N:Nat}{an:NZ}{pl:LL}(hok:Jg ops an=true)(hpl:JA ops.size an pl=true)(hd:FN N ops)(hca:Gw P ops)
 {K:Env->Wm->Prop} {Q:Act->Wm->Prop} (hQ:∀g a w,Di N g a->K g w->Q a w) {g:Env} {a:Act} {w:Wm} (hr:Di N g a)
 (h:mS P ops ops.toList pl [] g w K):J3 P ops Q ops.size (Array.replicate ops.size false) a w:=by
 have r0:Pv P ops an g w 0 (λ_=>default) (λ_=>g) (λ_=>w) (λ_=>undef):=
  ⟨rfl,rfl,λi hi=>by omega,λi hi=>by omega,λi hi=>by omega,λi hi=>by omega,λi j _ hj=>by omega⟩
 obtain⟨O,G,W,V,r,hk⟩:=MD hpl ops.toList 0 [] _ _ _ _ (λj=>by simp) (by simp) r0 (λi hi=>by omega) h
 simp only[UQ,V5]at r hk
 have st:=Pj hok r.op
 have:=P8 (Q:=Q) (n:=ops.size) rfl hd hca r st (λa hra=>hQ _ a _ hra hk) ops.size (Array.replicate ops.size false) g a 0 (by simp) hr (by omega)
  (λj hj hl=>by unfold iF at hl;simp[US,hj]at hl)
  (λs=> .inr ⟨λj hj hl=>by unfold iF at hl;simp[US,hj]at hl,rfl⟩)
  (λh hh _=>⟨λhl=>by unfold iF at hl;simp[US,hh]at hl,λhl=>by omega⟩)
  (VG (Wb _ _) (by simp))
 rw[r.w0]at this
 exact this
theorem Hn{N:Nat}{ops:Array Oper}(h:ops.all (Ol N)=true):FN N ops:=by
 intro i o ho t ht
 have:=Vq.1 h o (Wa ho)
 unfold Ol at this
 rw[ht]at this
 exact(V0 (x:=t) (y:=N))▸this
theorem I8 {ops:Array Oper}(h:ops.all (uM P)=true):Gw P ops:=
 λ_ o ho=>Vq.1 h o (Wa ho)
theorem NN{N:Nat}{f:FuncId}{id:Nat}(hd:FN N ops)(hca:Gw P ops)
 {K:Env->Wm->Prop} {Q:Act->Wm->Prop} (hQ:∀g a w,Di N g a->K g w->Q a w) {g:Env} {a:Act} {w0 w:Wm} (hr:Di N g a):
 ∀(T:HT) (path:List (Nat×Nat)),Gn P N ops path T=true→
  (∀q∈path,(Region.schedule true ops (w0.tape w0.drawn (.order f id))).idxOf q.1<=(Region.schedule true ops (w0.tape w0.drawn (.order f id))).idxOf q.2/\q.1≠q.2)→
  LV P f id ops T g w0 w K->wS P ops Q (Region.schedule true ops (w0.tape w0.drawn (.order f id))) a w:=by
 have lin:KS ops ops.size (Array.replicate ops.size false) (Region.schedule true ops (w0.tape w0.drawn (.order f id))):=by
  unfold Region.schedule
  simp only[Bool.true_or,if_true]
  exact RP _ _ _
 generalize hL:Region.schedule true ops (w0.tape w0.drawn (.order f id))=L at lin⊢
 intro T
 induction T with
 |leaf an pl=>
  intro path hok _ h
  simp only[Gn,UT]at hok
  exact Hj _ _ _ _ _ (H6 hok.1 hok.2 hd hca hQ hr h) lin
 |perm π es an pl=>
  intro path hok hpath h
  simp only[Gn,UT]at hok
  obtain⟨⟨⟨⟨⟨h1,h2⟩,h3⟩,h4⟩,h5⟩,h6⟩:=hok
  have p:=RV h2
  have hes:∀q∈es,L.idxOf q.1<=L.idxOf q.2/\q.1≠q.2/\q.1<ops.size:=λq hq=>by
   have:=Vh.1 h1 q hq
   simp only[UT]at this
   have hp:=hpath q (Qt this.1)
   exact⟨hp.1,hp.2,(V0 (x:=q.1) (y:=ops.size))▸this.2⟩
  obtain⟨k1,k2⟩:=O3 (es:=es) p hes ops.size (Array.replicate ops.size false) (Array.replicate ops.size false) [] L rfl (by simp) (by simp)
   (λj hj=>by simp[US,hj,(p.to j hj).1]) (by simp)
   (λj hj=>by rw[US]at hj;by_cases hh:j<ops.size<;>simp[hh]at hj) lin
  have hw:=H6 h5 h6 (Hn h3) (I8 h4) hQ hr h
  rw[p.size]at hw
  exact NX (es:=es) p L k2 a w (Hj _ _ _ _ _ hw k1)
 |split x y A B ihA ihB=>
  intro path hok hpath h
  simp only[Gn,UT]at hok
  have hne:x≠y:=by
   intro e
   have:=hok.1.1
   rw[e]at this
   simp at this
  simp only[LV]at h
  unfold Ord SX at h
  rw[hL]at h
  cases hb:Nat.ble (L.idxOf x) (L.idxOf y)with
  |true=>
   rw[hb]at h
   refine ihA _ hok.1.2 (λq hq=> ?_) h
   rcases UZ.1 hq with rfl|hq
   .exact ⟨VM hb,hne⟩
   .exact hpath q hq
  |false=>
   rw[hb]at h
   refine ihB _ hok.2 (λq hq=> ?_) h
   rcases UZ.1 hq with rfl|hq
   .refine ⟨?_,hne.symm⟩
    simp only
    rcases Vk (L.idxOf y) (L.idxOf x)with hh|hh
    .omega
    .have:=Nat.ble_eq_true_of_le hh;rw[this]at hb;cases hb
   .exact hpath q hq
end
section
variable{P:Program}{ann:FA}
def kC:List Oper->List Nat
 |[]=>[]
 |o::r=>match o.dst with|some d=>d::kC r|none=>kC r
def EP:Code->List Nat
 | .region _ ops _=>kC ops.toList
 | .seq x y=>EP x++EP y
 | .cond _ x y=>EP x++EP y
 | .block _ c=>EP c
 | .scope c=>EP c
 | .loop c=>EP c
 | .rangeFunc .. =>[DS]
 |_=>[]
def iE(l:List Nat)(g g':Env):Prop:=∀s,s∉l->g' s=g s
theorem iE.refl (l:List Nat)(g:Env):iE l g g:=λ_ _=>rfl
theorem iE.trans {l l1 l2:List Nat}{a b c:Env}(h:iE l1 a b)(k:iE l2 b c)(h1:∀s,s∈l1->s∈l)(h2:∀s,s∈l2->s∈l):iE l a c:=
 λs hs=>(k s λh=>hs (h2 s h)).trans (h s λh=>hs (h1 s h))
theorem iE.mono {l l1:List Nat}{a b:Env}(h:iE l1 a b)(h1:∀s,s∈l1->s∈l):iE l a b:=λs hs=>h s λhh=>hs (h1 s hh)
theorem iE.put {l:List Nat}{a:Env}(d:Option Tmp)(v:Wn)(h:∀t,d=some t->t∈l):iE l a (put a d v):=by
 intro s hs
 cases d with
 |none=>rfl
 |some t=>
  rw[B3,if_neg (λe=>hs (by rw[e];exact h t rfl))]
theorem M6 {ops:Array Oper}{K:Env->Wm->Prop}:∀(l:List Oper) (g:Env) (w:Wm),Je P ops l g w K→
 ∃g' w',K g' w'/\iE (kC l) g g'/\∀K':Env->Wm->Prop,K' g' w'->Je P ops l g w K':=by
 intro l
 induction l with
 |nil=>intro g w h;exact⟨g,w,h,iE.refl _ _,λ_ h=>h⟩
 |cons o l ih=>
  intro g w h
  obtain⟨v,w1,hy,h1⟩:=Cq h
  obtain⟨g',w',hk,ha,hall⟩:=ih _ _ h1
  refine⟨g',w',hk, ?_,λK' hk'=>hy _ (hall K' hk')⟩
  refine iE.trans (iE.put o.dst v (l:=kC (o::l)) λt ht=>by simp[kC,ht]) ha (λ_ h=>h) (λs hs=> ?_)
  unfold kC
  split
  .exact UX _ hs
  .exact hs
theorem H4 {ops:Array Oper}{K:Env->Wm->Prop}:∀(l:List Oper) (pl:LL) (hist:List Rec) (g:Env) (w:Wm),mS P ops l pl hist g w K→
 ∃g' w',K g' w'/\iE (kC l) g g'/\∀K':Env->Wm->Prop,K' g' w'->mS P ops l pl hist g w K':=by
 intro l
 induction l with
 |nil=>intro pl hist g w h;unfold mS at h;exact⟨g,w,h,iE.refl _ _,λ_ h=>(by unfold mS;exact h)⟩
 |cons o l ih=>
  intro pl hist g w h
  cases pl with
  |nil=>exact h.elim
  |cons p pl=>
   obtain⟨hv,ks⟩:=p
   obtain⟨v,w1,hy,h1⟩:=Cq h
   have tail:∀(w2:Wm) (hist':List Rec),mS P ops l pl hist' (put g o.dst v) w2 K→
       ∃g' w',K g' w'/\iE (kC (o::l)) g g'/\∀K':Env->Wm->Prop,K' g' w'->mS P ops l pl hist' (put g o.dst v) w2 K':=by
    intro w2 hist' c2
    obtain⟨g',w',hk,ha,hall⟩:=ih _ _ _ _ c2
    refine⟨g',w',hk, ?_,hall⟩
    refine iE.trans (iE.put o.dst v (l:=kC (o::l)) λt ht=>by simp[kC,ht]) ha (λ_ h=>h) (λs hs=> ?_)
    unfold kC
    split
    .exact UX _ hs
    .exact hs
   cases hv with
   |true=>
    cases ks with
    |nil=>
     obtain⟨g',w',hk,ha,hall⟩:=tail w1 _ h1
     exact⟨g',w',hk,ha,λK' hk'=>hy _ (hall K' hk')⟩
    |cons k ks=>
     obtain⟨hc,h1⟩:=h1
     obtain⟨g',w',hk,ha,hall⟩:=tail w1 _ h1
     exact⟨g',w',hk,ha,λK' hk'=>hy _ ⟨hc,hall K' hk'⟩⟩
   |false=>
    cases ks with
    |nil=>
     obtain⟨rfl,h1⟩:=h1
     obtain⟨g',w',hk,ha,hall⟩:=tail w1 _ h1
     exact⟨g',w',hk,ha,λK' hk'=>hy _ ⟨rfl,hall K' hk'⟩⟩
    |cons k ks=>
     obtain⟨rfl,hc,h1⟩:=h1
     obtain⟨g',w',hk,ha,hall⟩:=tail w1 _ h1
     exact⟨g',w',hk,ha,λK' hk'=>hy _ ⟨rfl,hc,hall K' hk'⟩⟩
theorem AU{l:List Oper}{s:Nat}:s∈kC l↔∃o∈l,o.dst=some s:=by
 induction l with
 |nil=>simp[kC]
 |cons o l ih=>
  unfold kC
  cases hd:o.dst with
  |none=>simp[ih,hd]
  |some d=>simp[ih,hd,eq_comm]
theorem M9 {π:List Nat}{es:List (Nat×Nat)}{l:List Oper}{s:Nat}:∀(r:List Nat),s∈kC (GX π es l r)->s∈kC l:=by
 intro r
 induction r with
 |nil=>intro h;simp[GX,kC]at h
 |cons i r ih=>
  intro h
  simp only[GX]at h
  cases ho:l[i]? with
  |none=>rw[ho]at h;exact ih h
  |some o=>
   rw[ho]at h
   obtain⟨o',h1,h2⟩:=AU.1 h
   rcases UZ.1 h1 with rfl|h1
   .exact AU.2 ⟨o,VO ho,h2⟩
   .exact ih (AU.2 ⟨o',h1,h2⟩)
theorem PZ{f:FuncId}{id:Nat}{ops:Array Oper}{K:Env->Wm->Prop}{g:Env}{w0:Wm}:∀(T:HT) (w:Wm),LV P f id ops T g w0 w K→
 ∃g' w',K g' w'/\iE (kC ops.toList) g g'/\∀K':Env->Wm->Prop,K' g' w'->LV P f id ops T g w0 w K':=by
 intro T
 induction T with
 |leaf an pl=>intro w h;exact H4 _ _ _ _ _ h
 |perm π es an pl=>
  intro w h
  obtain⟨g',w',a,b,c⟩:=H4 _ _ _ _ _ h
  exact⟨g',w',a,b.mono (λs hs=>M9 π (by simpa[lF]using hs)),c⟩
 |split x y A B ihA ihB=>
  intro w h
  simp only[LV,Ord]at h⊢
  cases hb:SX f id ops x y w0 with
  |true=>rw[hb]at h;exact ihA w h
  |false=>rw[hb]at h;exact ihB w h
theorem bL.head {α:Type}{F:(α->Wm->Prop)->α->Wm->Prop}(hmono:∀X Y g w,(∀g w,X g w->Y g w)->F X g w->F Y g w)
 {g:α} {w:Wm} (h:F (λg' w'=>bL F g' w') g w) (hdet:∃g' w',bL F g' w'/\∀X:α->Wm->Prop,X g' w'->F X g w):bL F g w:=by
 obtain⟨g1,w1,⟨I,⟨n1,h1⟩,hI⟩,hF⟩:=hdet
 refine⟨λn g' w'=>I n g' w'∨(n=n1+1/\g'=g/\w'=w),⟨n1+1,.inr ⟨rfl,rfl,rfl⟩⟩, ?_⟩
 rintro n g' w' (h|⟨rfl,rfl,rfl⟩)
 .exact hmono _ _ _ _ (λ_ _ ⟨m,hm,hh⟩=>⟨m,hm,.inl hh⟩) (hI _ _ _ h)
 .exact hF _ ⟨n1,by omega,.inl h1⟩
theorem SC{f:FuncId}{gf:Operand}{ps:Array Tmp}{UN bd:Code}{Q:Exit->Env->Wm->Prop}{g:Env}{w:Wm}(h:RF P f gf ps UN bd Q g w):
 ∃e g' w',Q e g' w'/\iE [DS] g g'/\∀Q':Exit->Env->Wm->Prop,Q' e g' w'->RF P f gf ps UN bd Q' g w:=by
 unfold RF at h⊢
 cases hn:noMark (g DS)with
 |false=>rw[hn]at h;exact h.elim
 |true=>
  rw[hn]at h
  simp only at h⊢
  generalize(AA (ev g gf) [AI (w.heap.size+1)]).run P (PD f (HB P f) ps UN bd g w)=r at*
  match r,h with
  | .ok (.enter f2 args) w1,h=>
    obtain⟨v,w3,hret,r,h1,h2,h3⟩:=h
    have ha:iE [DS] g (put g (some DS) (.pointer (some ⟨w.heap.size,0,none⟩))):=iE.put _ _ (λt ht=>by cases ht;simp)
    cases hp:r.pending with
    |none=>
     rw[hp]at h3
     exact⟨.normal,_,_,h3,ha,λQ' h=>⟨v,w3,hret,r,h1,h2,by rw[hp];exact h⟩⟩
    |some c=>
     rw[hp]at h3
     cases c<;>first
      |exact h3.elim
      |exact⟨.ret,_,_,h3,ha,λQ' h=>⟨v,w3,hret,r,h1,h2,by rw[hp];exact h⟩⟩
      |exact⟨.exit _,_,_,h3,ha,λQ' h=>⟨v,w3,hret,r,h1,h2,by rw[hp];exact h⟩⟩
theorem IQ:∀(c:Code) (Q:Exit->Env->Wm->Prop) (g:Env) (w:Wm),eI P ann c Q g w→
 ∃e g' w',Q e g' w'/\iE (EP c) g g'/\∀Q':Exit->Env->Wm->Prop,Q' e g' w'->eI P ann c Q' g w:=by
 intro c
 induction c with
 |skip=>intro Q g w h;exact⟨_,_,_,h,iE.refl _ _,λ_ h=>h⟩
 |region id ops draw=>
  intro Q g w h
  cases draw with
  |false=>
   obtain⟨g',w',a,b,c⟩:=M6 _ _ _ h
   exact⟨.normal,g',w',a,b,λQ' h=>c _ h⟩
  |true=>
   obtain⟨g',w',a,b,c⟩:=PZ _ _ h
   exact⟨.normal,g',w',a,b,λQ' h=>c _ h⟩
 |seq x y ihx ihy=>
  intro Q g w h
  obtain⟨e,g1,w1,a,b,c⟩:=ihx _ _ _ h
  cases e with
  |normal=>
   obtain⟨e2,g2,w2,a2,b2,c2⟩:=ihy _ _ _ a
   exact⟨e2,g2,w2,a2,b.trans b2 (λs h=>VN _ h) (λs h=>V2 _ h),λQ' h=>c _ (c2 _ h)⟩
  |_=>exact⟨_,g1,w1,a,b.mono (λs h=>VN _ h),λQ' h=>c _ h⟩
 |cond c x y ihx ihy=>
  intro Q g w h
  simp only[eI]at h⊢
  unfold eU at h⊢
  cases hc:ev g c with
  |bool b=>
   rw[hc]at h
   cases b with
   |true=>
    obtain⟨e,g',w',a,b,c⟩:=ihx _ _ _ h
    exact⟨e,g',w',a,b.mono (λs h=>VN _ h),c⟩
   |false=>
    obtain⟨e,g',w',a,b,c⟩:=ihy _ _ _ h
    exact⟨e,g',w',a,b.mono (λs h=>V2 _ h),c⟩
  |_=>rw[hc]at h;exact h.elim
 |block id c ih=>
  intro Q g w h
  obtain⟨e,g',w',a,b,c⟩:=ih _ _ _ h
  cases e with
  |exit i=>
   simp only[Rw]at a
   cases hb:Nat.beq i id with
   |true=>
    simp only[hb]at a
    refine⟨.normal,g',w',a,b,λQ' h=>c _ ?_⟩
    simp only[Rw,hb];exact h
   |false=>
    simp only[hb]at a
    refine⟨.exit i,g',w',a,b,λQ' h=>c _ ?_⟩
    simp only[Rw,hb];exact h
  |_=>exact⟨_,g',w',a,b,λQ' h=>c _ h⟩
 |loop c ih=>
  intro Q g w h
  have hmono:∀(Q:Exit->Env->Wm->Prop) (X Y:Env->Wm->Prop) g w,(∀g w,X g w->Y g w)->eI P ann c (tX X Q) g w->eI P ann c (tX Y Q) g w:=by
   intro Q X Y g w hxy h
   obtain⟨e,g',w',a,_,k⟩:=ih _ _ _ h
   refine k _ ?_
   cases e with
   |normal=>exact hxy _ _ a
   |_=>exact a
  obtain⟨I,⟨n,h0⟩,hI⟩:=h
  have key:∀n g w,I n g w->∃e g' w',Q e g' w'/\iE (EP c) g g'/\∀Q':Exit->Env->Wm->Prop,Q' e g' w'->bL (λX g w=>eI P ann c (tX X Q') g w) g w:=by
   intro n
   induction n using Nat.strongRecOn with
   |_ n ih2=>
    intro g w hg
    obtain⟨e,g1,w1,a,b,k⟩:=ih _ _ _ (hI n g w hg)
    have once:∀(Q':Exit->Env->Wm->Prop),(∀X:Env->Wm->Prop,eI P ann c (tX X Q') g w)->bL (λX g w=>eI P ann c (tX X Q') g w) g w:=by
     intro Q' h
     refine⟨λn g' w'=>g'=g/\w'=w,⟨0,rfl,rfl⟩, ?_⟩
     rintro _ g' w' ⟨rfl,rfl⟩
     exact h _
    cases e with
    |normal=>
     obtain⟨m,hm,hIm⟩:=a
     obtain⟨e2,g2,w2,a2,b2,k2⟩:=ih2 m hm g1 w1 hIm
     refine⟨e2,g2,w2,a2,b.trans b2 (λ_ h=>h) (λ_ h=>h),λQ' h=> ?_⟩
     have hl:=k2 Q' h
     exact bL.head (hmono Q') (k _ hl) ⟨g1,w1,hl,λX hx=>k _ hx⟩
    |_=>exact⟨_,g1,w1,a,b,λQ' h=>once Q' λX=>k _ h⟩
  exact key n g w h0
 |exit id=>intro Q g w h;exact⟨_,_,_,h,iE.refl _ _,λ_ h=>h⟩
 |label l=>intro Q g w h;exact⟨_,_,_,h,iE.refl _ _,λ_ h=>h⟩
 |scope c ih=>intro Q g w h;exact ih Q g w h
 |ret=>intro Q g w h;exact⟨_,_,_,h,iE.refl _ _,λ_ h=>h⟩
 |rangeFunc gf ps UN bd=>intro Q g w h;exact SC h
 |_=>intro Q g w h;exact h.elim
theorem xQ{c:Code}{Q Q':Exit->Env->Wm->Prop}{g:Env}{w:Wm}(h:eI P ann c Q g w)
 (hq:∀e g' w',iE (EP c) g g'->Q e g' w'->Q' e g' w'):eI P ann c Q' g w:=
 let⟨_,_,_,a,b,k⟩:=IQ c Q g w h
 k _ (hq _ _ _ b a)
def SW(Q:Exit->Env->Wm->Prop):Exit->Env->Wm->Prop
 | .goto _,_,_=>False
 |e,g,w=>Q e g w
theorem M7:∀(c:Code) (Q:Exit->Env->Wm->Prop) (g:Env) (w:Wm),eI P ann c Q g w->eI P ann c (SW Q) g w:=by
 intro c
 induction c with
 |skip=>intro Q g w h;exact h
 |region id ops draw=>intro Q g w h;cases draw<;>exact h
 |seq x y ihx ihy=>
  intro Q g w h
  show eI P ann x (tX (λg w=>eI P ann y (SW Q) g w) (SW Q)) g w
  refine xQ (ihx _ _ _ h) (λe g' w' _ hq=> ?_)
  cases e with
  |normal=>exact ihy _ _ _ hq
  |goto l=>exact hq.elim
  |_=>exact hq
 |cond c x y ihx ihy=>
  intro Q g w h
  simp only[eI]at h⊢
  unfold eU at h⊢
  cases hc:ev g c with
  |bool b=>
   rw[hc]at h
   cases b with
   |true=>exact ihx _ _ _ h
   |false=>exact ihy _ _ _ h
  |_=>rw[hc]at h;exact h.elim
 |block id c ih=>
  intro Q g w h
  show eI P ann c (Rw id (SW Q)) g w
  refine xQ (ih _ _ _ h) (λe g' w' _ hq=> ?_)
  cases e with
  |exit i=>
   simp only[SW,Rw]at hq⊢
   cases hb:Nat.beq i id with
   |true=>rw[hb]at hq;exact hq
   |false=>rw[hb]at hq;exact hq
  |goto l=>exact hq.elim
  |_=>exact hq
 |loop c ih=>
  intro Q g w h
  obtain⟨I,h0,hI⟩:=h
  refine⟨I,h0,λn g w hi=> ?_⟩
  refine xQ (ih _ _ _ (hI n g w hi)) (λe g' w' _ hq=> ?_)
  cases e with
  |normal=>exact hq
  |goto l=>exact hq.elim
  |_=>exact hq
 |exit id=>intro Q g w h;exact h
 |label l=>intro Q g w h;exact h
 |scope c ih=>intro Q g w h;exact ih Q g w h
 |ret=>intro Q g w h;exact h
 |rangeFunc gf ps UN bd=>
  intro Q g w h
  have h:RF P ann.f gf ps UN bd Q g w:=h
  show RF P ann.f gf ps UN bd (SW Q) g w
  unfold RF at h⊢
  cases hn:noMark (g DS)with
  |false=>rw[hn]at h;exact h.elim
  |true=>
   rw[hn]at h
   simp only at h⊢
   generalize(AA (ev g gf) [AI (w.heap.size+1)]).run P (PD ann.f (HB P ann.f) ps UN bd g w)=r at*
   match r,h with
   | .ok (.enter f2 args) w1,h=>
     obtain⟨v,w3,hret,r,h1,h2,h3⟩:=h
     refine⟨v,w3,hret,r,h1,h2, ?_⟩
     cases hp:r.pending with
     |none=>rw[hp]at h3;exact h3
     |some c=>rw[hp]at h3;cases c<;>exact h3
 |_=>intro Q g w h;exact h.elim
theorem JZ{N:Nat}{g:Env}{a:Act}(h:Di N g a):a.tmps=tmpsOf N g:=by
 refine Array.ext (by simp[tmpsOf,h.size]) λi h1 h2=> ?_
 have hi:i<N:=by rw[<-h.size];exact h1
 have:=h.at_ i (Wk (Vb hi h.le))
 rw[US,U2 h1]at this
 simp[tmpsOf]at this⊢
 exact this
theorem P1 {v:Wn}(h:noMark v=true):LY v=[]:=by cases v<;>first|rfl|cases h
theorem Ht{N:Nat}(hm:P.follows .mixedOrders=true){ro:Option Nat}(hN:HB P ann.f=N):∀(c:Code),codeOk P N ann c=true->ro=none∨mW c=true→
 ∀(Q:Exit->Env->Wm->Prop) (QA:Exit->Act->Wm->Prop) (g:Env) (a:Act) (w:Wm),Di N g a→
  (∀e g a w,Di N g a->Q e g w->QA e a w)->eI P ann c Q g w->J4 P ann.f ro c QA a w:=by
 intro c
 induction c with
 |skip=>intro _ _ Q QA g a w hr hq h;exact Rd (hq _ _ _ _ hr h)
 |region id ops draw=>
  intro hok _ Q QA g a w hr hq h
  simp only[codeOk,UT,Vo,VD]at hok
  have hd:=Hn hok.1.1
  have hca:=I8 hok.1.2
  cases draw with
  |false=>
   refine NV ?_
   have:=O5 hd hca (P:=P) (Q:=QA .normal) (K:=Q .normal) (λg a w=>hq .normal g a w) ops.toList 0 g a w (λj=>by simp) hr h
   rw[List.range_eq_range']
   simpa using this
  |true=>
   rcases hok.2 with h1|h1
   .cases h1
   .exact IN hm (NN hd hca (λg a w=>hq .normal g a w) hr _ [] h1 (by simp) h)
 |seq x y ihx ihy=>
  intro hok hfl Q QA g a w hr hq h
  simp only[codeOk,UT]at hok
  have hfx:ro=none∨mW x=true:=hfl.imp id λh=>by simp only[mW,UT]at h;exact h.1
  have hfy:ro=none∨mW y=true:=hfl.imp id λh=>by simp only[mW,UT]at h;exact h.2
  refine Sb (ihx hok.1 hfx _ _ g a w hr (λe g a w hr h=> ?_) h)
  cases e with
  |normal=>exact ihy hok.2 hfy _ _ g a w hr hq h
  |_=>exact hq _ _ _ _ hr h
 |cond c x y ihx ihy=>
  intro hok hfl Q QA g a w hr hq h
  simp only[codeOk,UT]at hok
  have hfx:ro=none∨mW x=true:=hfl.imp id λh=>by simp only[mW,UT]at h;exact h.1
  have hfy:ro=none∨mW y=true:=hfl.imp id λh=>by simp only[mW,UT]at h;exact h.2
  simp only[eI]at h
  unfold eU at h
  have he:=hr.ev c hok.1
  cases hc:ev g c with
  |bool b=>
   rw[hc]at h he
   refine Rb he ?_
   cases b with
   |true=>exact ihx hok.2.1 hfx _ _ g a w hr hq h
   |false=>exact ihy hok.2.2 hfy _ _ g a w hr hq h
  |_=>rw[hc]at h;exact h.elim
 |block id c ih=>
  intro hok hfl Q QA g a w hr hq h
  refine Pp (ih hok hfl _ _ g a w hr (λe g a w hr h=> ?_) h)
  cases e with
  |exit i=>
   unfold Exit.inBlock
   simp only[Rw]at h
   by_cases hi:i=id
   .subst hi
    simp only[if_true]
    simp only[Nat.beq_refl]at h
    exact hq _ _ _ _ hr h
   .simp only[hi,if_false]
    have:Nat.beq i id=false:=by
     cases hb:Nat.beq i id
     .rfl
     .exact absurd (U9 hb) hi
    simp only[this]at h
    exact hq _ _ _ _ hr h
  |_=>exact hq _ _ _ _ hr h
 |loop c ih=>
  intro hok hfl Q QA g a w hr hq h
  obtain⟨I,h0,hround⟩:=h
  have hex:∀a w,(∃n g,Di N g a/\I n g w)->∃n,(∃g,Di N g a/\I n g w)/\∀m,(∃g,Di N g a/\I m g w)->n<=m:=by
   rintro a w ⟨n,hn⟩
   induction n using Nat.strongRecOn with
   |_ n ih2=>
    by_cases hx:∃m,m<n/\∃g,Di N g a/\I m g w
    .obtain ⟨m,hm,h⟩:=hx;exact ih2 m hm h
    .exact ⟨n,hn,λm hm=>Nat.le_of_not_lt λhlt=>hx ⟨m,hlt,hm⟩⟩
  have hdec:∀a w,Decidable (∃n g,Di N g a/\I n g w):=λa w=>Classical.propDecidable _
  let μ:Act->Wm->Nat:=λa w=>if hh:∃n g,Di N g a/\I n g w then Classical.choose (hex a w hh)else 0
  have hμ:∀a w n g,Di N g a->I n g w->μ a w<=n/\∃g,Di N g a/\I (μ a w) g w:=by
   intro a w n g hr hI
   have hh:∃n g,Di N g a/\I n g w:=⟨n,g,hr,hI⟩
   have e:μ a w=Classical.choose (hex a w hh):=dif_pos hh
   have s:=Classical.choose_spec (hex a w hh)
   rw[e]
   exact⟨s.2 n ⟨g,hr,hI⟩,s.1⟩
  obtain⟨n0,h0⟩:=h0
  refine Rc (λa w=>∃n g,Di N g a/\I n g w) μ ⟨n0,g,hr,h0⟩ ?_
  rintro a w ⟨n,g,hr,hI⟩
  obtain⟨_,g',hr',hI'⟩:=hμ a w n g hr hI
  refine ih hok hfl _ _ g' a w hr' (λe g1 a1 w1 hr1 h=> ?_) (hround _ _ _ hI')
  cases e with
  |normal=>
   obtain⟨m,hm,hIm⟩:=h
   have:=hμ a1 w1 m g1 hr1 hIm
   exact⟨⟨m,g1,hr1,hIm⟩,by omega⟩
  |_=>exact hq _ _ _ _ hr1 h
 |label l=>intro _ _ Q QA g a w hr hq h;exact Pq (hq _ _ _ _ hr h)
 |scope c ih=>
  intro hok hfl Q QA g a w hr hq h
  refine Ps (ih hok hfl (SW Q) _ g a w hr (λe g a w hr h=> ?_) (M7 c _ g w h))
  cases e with
  |goto l=>exact h.elim
  |_=>exact hq _ _ _ _ hr h
 |exit id=>intro _ _ Q QA g a w hr hq h;exact MS (hq _ _ _ _ hr h)
 |ret=>intro _ _ Q QA g a w hr hq h;exact ON (hq _ _ _ _ hr h)
 |rangeFunc gf ps UN bd=>
  intro hok hfl Q QA g a w hr hq h
  have hro:ro=none:=hfl.resolve_right (by simp[mW])
  subst hro
  have hok:KF gf=true:=hok
  have h:RF P ann.f gf ps UN bd Q g w:=h
  unfold RF at h
  cases hn:noMark (g DS)with
  |false=>rw[hn]at h;exact h.elim
  |true=>
   rw[hn]at h
   simp only[hN]at h
   have ed:a.defers=[]:=by rw[hr.defers,P1 hn]
   have er:=run_enterLoop_outer (P:=P) (w:=w) ann.f a.tmps ps UN bd
   rw[JZ hr]at er
   have er:(Instr.enterLoop ann.f a.tmps ps UN bd none).run P w= .ok (w.heap.size+1,[{target:= .collected w.heap.size,args:= #[]}]) (PD ann.f N ps UN bd g w):=by rw[JZ hr];exact er
   generalize PD ann.f N ps UN bd g w=w1 at*
   have ee:=hr.ev gf hok
   unfold AA at h
   have hres:resolve a.eval (rangeCall gf (w.heap.size+1)) 0=Deferred.ofValue (ev g gf) #[AI (w.heap.size+1)]:=by
    have:resolve a.eval (rangeCall gf (w.heap.size+1)) 0=Deferred.ofValue (a.eval gf) #[AI (w.heap.size+1)]:=by
     simp only[resolve,List.map_toArray,UW,List.map_nil];rfl
    rw[this,ee]
   rw[show([AI (w.heap.size+1)]:List Wn).toArray= #[AI (w.heap.size+1)]from rfl,<-hres,Sem.run_bind]at h
   cases hv:(resolve a.eval (rangeCall gf (w.heap.size+1)) 0).run P w1 with
   |halt x wx=>rw[hv]at h;exact h.elim
   |ok d wx=>
    have hwx:wx=w1:=by
     rw[hres]at hv
     unfold Deferred.ofValue at hv
     split at hv<;>first|(simp only[Sem.run_pure]at hv;cases hv;rfl)|(simp[stuck]at hv)
    subst hwx
    rw[hv]at h
    simp only[Result.andThen]at h
    cases hi:(invoke d.target d.args).run P wx with
    |halt x w2=>rw[hi]at h;exact h.elim
    |ok nx w2=>
     rw[hi]at h
     cases nx<;>try(exact h.elim)
     obtain⟨v,w3,hret,r,h1,h2,h3⟩:=h
     have hrel:∀w,Di N (put g (some DS) (.pointer (some ⟨w,0,none⟩))) {a with defers:=[{target:= .collected w,args:= #[]}]++a.defers}:=λw=>by
      refine⟨hr.le, ?_,hr.size,λi hi=> ?_⟩
      .rw [B3,if_pos rfl,ed]<;>rfl
      .rw [B3,if_neg hi];exact hr.at_ i hi
     have key:∀(j:Option Code) (w5:Wm),SL Q (put g (some DS) (.pointer (some ⟨w.heap.size,0,none⟩))) j w5→
         Sk P ann.f QA {a with defers:=[{target:= .collected w.heap.size,args:= #[]}]++a.defers} w5 j:=by
      intro j w5 h
      cases j with
      |none=>exact hq _ _ _ _ (hrel _) h
      |some c=>
       cases c<;>first
        |exact h.elim
        |exact ON (hq _ _ _ _ (hrel _) h)
        |exact MS (hq _ _ _ _ (hrel _) h)
     exact Pr er hv hi hret (run_endLoop h1 h2) (key _ _ h3)
 |_=>intro hok;simp[codeOk]at hok
def mT(P:Program):List ResultVar->Env->Wm->(List Wn->Prop)->Prop
 |[],_,_,K=>K []
 | .tmp t::r,g,w,K=>mT P r g w λvs=>K (g t::vs)
 | .cell a t::r,g,w,K=>∃v,(do loadVar t (<-asAddr (g a)):Sem Wn).run P w= .ok v w/\mT P r g w λvs=>K (v::vs)
def Kq:List Wn->Wn
 |[v]=>v
 |vs=> .tuple vs.toArray
def TK(P:Program)(rs:List ResultVar)(R:Wn->Wm->Prop):Exit->Env->Wm->Prop
 | .normal,g,w=>mT P rs g w λvs=>R (Kq vs) w
 | .ret,g,w=>mT P rs g w λvs=>R (Kq vs) w
 |_,_,_=>False
theorem Mx{N:Nat}{g:Env}{a:Act}{w:Wm}(hr:Di N g a):∀(rs:List ResultVar),rs.all KJ=true->∀(K:List Wn->Prop),mT P rs g w K→
 ∃vs,K vs/\(rs.mapM λ| .tmp t=>pure (a.tmps.getD t undef)| .cell b t=>do loadVar t (<-asAddr (a.tmps.getD b undef)):Sem (List Wn)).run P w= .ok vs w:=by
 have ne:∀t:Nat,Nat.blt t DS=true->a.tmps.getD t undef=g t:=λt h=>hr.at_ t (Wk ((V0 (x:=t) (y:=DS))▸h))
 intro rs
 induction rs with
 |nil=>intro _ K h;exact⟨[],h,by simp⟩
 |cons r rs ih=>
  intro hok K h
  simp only[List.all_cons,UT]at hok
  cases r with
  |tmp t=>
   obtain⟨vs,h1,h2⟩:=ih hok.2 _ h
   refine⟨_,h1, ?_⟩
   rw[List.mapM_cons]
   rw[pure_bind,Sem.run_bind]
   simp only[h2,Result.andThen,Sem.run_pure,ne t hok.1]
  |cell b t=>
   obtain⟨v,hv,h⟩:=h
   obtain⟨vs,h1,h2⟩:=ih hok.2 _ h
   refine⟨_,h1, ?_⟩
   rw[List.mapM_cons]
   rw[<-ne b hok.1]at hv
   rw[Sem.run_bind]
   simp only[hv,Result.andThen]
   rw[Sem.run_bind]
   simp only[h2,Result.andThen]
   rfl
theorem Ti(vs:Array Wn):(if h:vs.size=1 then vs[0]else Value.tuple vs)=Kq vs.toList:=by
 obtain⟨l⟩:=vs
 match l with
 |[]=>rfl
 |[v]=>rfl
 |a::b::r=>simp[Kq]
theorem ME{N:Nat}{g:Env}{a:Act}{w:Wm}(fn:Func){rs:List ResultVar}(hok:rs.all KJ=true)(hrs:fn.results=rs.toArray)(hr:Di N g a){R:Wn->Wm->Prop}
 (h:mT P rs g w λvs=>R (Kq vs) w):∃v,(results fn a.tmps).run P w= .ok v w/\R v w:=by
 obtain⟨vs,h1,h2⟩:=Mx hr rs hok _ h
 refine⟨Kq vs, ?_,h1⟩
 unfold results
 rw[hrs,Array.mapM_eq_mapM_toList,List.toList_toArray]
 simp only[bind_assoc,map_eq_pure_bind]
 rw[Sem.run_bind]
 refine Eq.trans (congrArg (λr=>Result.andThen r _) h2) ?_
 simp only[Result.andThen]
 simp only[pure_bind,Sem.run_pure,Ti]
def H7 (args:List Wn):Env:=λi=>args.getD i undef
def Tc(P:Program)(rs:List ResultVar)(R:Wn->Wm->Prop):Exit->Env->Wm->Prop
 | .normal,g,w=>AB (g DS) w λw=>mT P rs g w λvs=>R (Kq vs) w
 | .ret,g,w=>AB (g DS) w λw=>mT P rs g w λvs=>R (Kq vs) w
 |_,_,_=>False
theorem Mw{g:Env}{w:Wm}:∀(rs:List ResultVar) (K:List Wn->Prop),mT P rs g w K->∃vs,K vs/\∀K':List Wn->Prop,K' vs->mT P rs g w K':=by
 intro rs
 induction rs with
 |nil=>intro K h;exact⟨_,h,λ_ h=>h⟩
 |cons r rs ih=>
  intro K h
  cases r with
  |tmp t=>
   obtain⟨vs,a,b⟩:=ih _ h
   exact⟨_,a,λK' h=>b _ h⟩
  |cell b t=>
   obtain⟨v,hv,h⟩:=h
   obtain⟨vs,a,b⟩:=ih _ h
   exact⟨_,a,λK' h=>⟨v,hv,b _ h⟩⟩
theorem KL{v:Wn}{w:Wm}{K:Wm->Prop}(h:AB v w K):∃w',K w'/\∀K':Wm->Prop,K' w'->AB v w K':=by
 cases v with
 |pointer p=>
  cases p with
  |none=>exact⟨_,h,λ_ h=>h⟩
  |some a=>exact⟨_,h.2,λ_ h'=>⟨h.1,h'⟩⟩
 |_=>exact⟨_,h,λ_ h=>h⟩
theorem NH{v:Wn}{w:Wm}{K K':Wm->Prop}(h:AB v w K)(hk:∀w,K w->K' w):AB v w K':=
 let⟨w',a,b⟩:=KL h;b _ (hk w' a)
theorem L4 {args:List Wn}{N i:Nat}(hle:args.length<=N)(hi:N<=i):H7 args i=undef:=by
 unfold H7
 rw[V4,Vy (by omega)]<;>rfl
theorem GI{f:FuncId}{fn:Func}{c:Code}{args:List Wn}{w:Wm}{rs:List ResultVar}{R:Wn->Wm->Prop}(hm:P.follows .mixedOrders=true)(hAf:ann.f=f)
 (hf:P.funcs[f]?=some fn) (hb:fn.body=some c) (hrs:fn.results=rs.toArray) {N:Nat} (hN:fn.ntmps=N) (hle:args.length<=N)
 (hok:codeOk P N ann c=true) (hro:rs.all KJ=true) (hND:Nat.ble N DS=true) (h:eI P ann c (Tc P rs R) (H7 args) w):aH P f args.toArray w R:=by
 obtain⟨e,g',w',hq,_,hall⟩:=IQ _ _ _ _ h
 have hND:=VM hND
 have hNt:HB P ann.f=N:=by unfold HB;rw[hAf,hf];exact hN
 have hrv:AB (g' DS) w' λw=>mT P rs g' w λvs=>R (Kq vs) w:=by cases e<;>first|exact hq|exact hq.elim
 obtain⟨w2,hrv2,hsh⟩:=KL hrv
 obtain⟨vs,hv,hrest⟩:=Mw _ _ hrv2
 refine⟨Kq vs,w2, ?_,hv⟩
 have hrel:Di N (H7 args) {tmps:=args.toArray++Array.replicate (fn.ntmps-args.toArray.size) undef,defers:=[]}:=by
  refine⟨hND,by rw[L4 hle hND]<;>rfl,by simp[hN];omega,λi _=> ?_⟩
  simp only[H7,US,V4]
  by_cases hi:i<args.length
  .simp [Array.getElem?_append,hi]
  .simp only[Array.getElem?_append,V7,hi,if_false,Array.getElem?_replicate]
   rw[Vy (by omega)]
   split<;>rfl
 have key:=KY (P:=P) (f:=f) hf hb (R:=λv3 w3=>v3=Kq vs/\w3=w2) (args:=args.toArray) (w:=w)
  (hAf▸Ht hm hNt c hok (.inl rfl) (Tc P rs λv3 w3=>v3=Kq vs/\w3=w2) _ _ _ _ hrel (λe g a w hr h=> ?_) (hall _ ?_))
 .refine Calls.mono key ?_
  rintro e w3 ⟨v,rfl,rfl,rfl⟩
  exact⟨rfl,rfl⟩
 .have hx:∀{w},(AB (g DS) w λw=>mT P rs g w λvs'=>Kq vs'=Kq vs/\w=w2)->∃m,a.defers=LY m/\AB m w λw'=>∃v,(results fn a.tmps).run P w'= .ok v w'/\(v=Kq vs/\w'=w2):=by
   intro w h
   exact⟨_,hr.defers,NH h λw h=>ME fn hro hrs hr (R:=λv3 w3=>v3=Kq vs/\w3=w2) h⟩
  cases e with
  |normal=>exact hx h
  |ret=>exact hx h
  |_=>exact h.elim
 .have:=hsh (λw=>mT P rs g' w λvs'=>Kq vs'=Kq vs/\w=w2) (hrest _ ⟨rfl,rfl⟩)
  cases e<;>first|exact this|exact hq.elim
theorem RE{N:Nat}:∀(c:Code),codeOk P N ann c=true->mW c=true->∀s∈EP c,s<N:=by
 intro c
 induction c with
 |region id ops draw=>
  intro hok _ s hs
  simp only[codeOk,UT]at hok
  obtain⟨o,h1,h2⟩:=AU.1 hs
  obtain⟨i,hi,rfl⟩:=List.getElem_of_mem h1
  exact Hn hok.1.1 i _ (by simp at hi⊢) s h2
 |seq x y ihx ihy=>
  intro hok hfl s hs
  simp only[codeOk,mW,UT]at hok hfl
  rcases Vw.1 hs with hs|hs
  .exact ihx hok.1 hfl.1 s hs
  .exact ihy hok.2 hfl.2 s hs
 |cond c x y ihx ihy=>
  intro hok hfl s hs
  simp only[codeOk,mW,UT]at hok hfl
  rcases Vw.1 hs with hs|hs
  .exact ihx hok.2.1 hfl.1 s hs
  .exact ihy hok.2.2 hfl.2 s hs
 |block id c ih=>intro hok hfl s hs;exact ih hok hfl s hs
 |loop c ih=>intro hok hfl s hs;exact ih hok hfl s hs
 |scope c ih=>intro hok hfl s hs;exact ih hok hfl s hs
 |rangeFunc=>intro _ hfl;simp[mW]at hfl
 |_=>intro _ _ s hs;simp[EP]at hs
theorem L1 {f:FuncId}{fn:Func}{c:Code}{args:List Wn}{w:Wm}{rs:List ResultVar}{R:Wn->Wm->Prop}(hm:P.follows .mixedOrders=true)(hAf:ann.f=f)
 (hf:P.funcs[f]?=some fn) (hb:fn.body=some c) (hrs:fn.results=rs.toArray) {N:Nat} (hN:fn.ntmps=N) (hle:args.length<=N)
 (hok:codeOk P N ann c=true) (hro:rs.all KJ=true) (hND:Nat.ble N DS=true) (hfl:mW c=true) (h:eI P ann c (TK P rs R) (H7 args) w):aH P f args.toArray w R:=by
 refine GI hm hAf hf hb hrs hN hle hok hro hND (xQ h λe g' w' ha hq=> ?_)
 have hND:=VM hND
 have:g' DS=undef:=by
  rw[ha DS (λhd=>absurd (RE c hok hfl DS hd) (Nat.not_lt.2 hND)),L4 hle hND]
 cases e with
 |normal=>show AB (g' DS) w' (λw=>mT P rs g' w λvs=>R (Kq vs) w);rw[this];exact hq
 |ret=>show AB (g' DS) w' (λw=>mT P rs g' w λvs=>R (Kq vs) w);rw[this];exact hq
 |_=>exact hq.elim
def F3 (tmps:Array Wn):Env:=λi=>tmps.getD i undef
def Lo(l:Nat)(R:Wn->Wm->Prop):Exit->Env->Wm->Prop
 | .normal,_,w=>∃r:Loop,w.heap[l]?=some (.loop r)/\R (.bool true) (w.putObj l (.loop {r with state:= .ready,pending:=none}))
 | .ret,_,w=>∃r:Loop,w.heap[l]?=some (.loop r)/\R (.bool false) (w.putObj l (.loop {r with state:= .done,pending:=some .ret}))
 | .exit i,_,w=>∃r:Loop,w.heap[l]?=some (.loop r)/\R (.bool false) (w.putObj l (.loop {r with state:= .done,pending:=some (.exit i)}))
 |_,_,_=>False
def Ue(P:Program)(ann:FA)(l:Nat)(bd:Code)(R:Wn->Wm->Prop):Exit->Env->Wm->Prop
 | .normal,g,w=>∃r:Loop,w.heap[l]?=some (.loop r)/\r.state= .ready/\eI P ann bd (Lo l R) g (w.putObj l (.loop {r with state:= .busy}))
 |_,_,_=>False
theorem Lb{f:FuncId}{l:Nat}{tmps:Array Wn}{UN bd:Code}{w:Wm}{R:Wn->Wm->Prop}(hm:P.follows .mixedOrders=true)(hAf:ann.f=f){N:Nat}(hN:HB P f=N)(hND:Nat.ble N DS=true)
 (hsz:tmps.size=N) (hok1:codeOk P N ann UN=true) (hf1:mW UN=true) (hok2:codeOk P N ann bd=true) (hf2:mW bd=true)
 (h:eI P ann UN (Ue P ann l bd R) (F3 tmps) w):Ks P l f tmps UN bd w R:=by
 subst hAf
 have hND:=VM hND
 obtain⟨e,g1,w1,hq,ha,hall⟩:=IQ _ _ _ _ h
 cases e with
 |normal=>
  obtain⟨r,h1,h2,hd⟩:=hq
  obtain⟨e2,g2,w2,hq2,ha2,hall2⟩:=IQ _ _ _ _ hd
  have hx:∃v w4,R v w4/\∀R':Wn->Wm->Prop,R' v w4->Lo l R' e2 g2 w2:=by
   cases e2 with
   |normal=>obtain⟨r2,k1,k2⟩:=hq2;exact⟨_,_,k2,λR' h=>⟨r2,k1,h⟩⟩
   |ret=>obtain⟨r2,k1,k2⟩:=hq2;exact⟨_,_,k2,λR' h=>⟨r2,k1,h⟩⟩
   |exit i=>obtain⟨r2,k1,k2⟩:=hq2;exact⟨_,_,k2,λR' h=>⟨r2,k1,h⟩⟩
   |_=>exact hq2.elim
  obtain⟨v,w4,hR,hrest⟩:=hx
  refine⟨v,w4, ?_,hR⟩
  have hrel:Di N (F3 tmps) {tmps:=tmps,defers:=[]}:=by
   refine⟨hND, ?_,hsz,λi _=>rfl⟩
   have:F3 tmps DS=undef:=by unfold F3;rw[US,Vc (by omega)]<;>rfl
   rw[this]<;>rfl
  have key:RoundIn Fence.wide 0 P l ann.f tmps UN bd w λe w'=>∃v',e= .returned v'/\(v'=v/\w'=w4):=by
   refine Lp (Ht hm hN UN hok1 (.inr hf1) (λe g w=>e= .normal/\g=g1/\w=w1) _ _ _ _ hrel ?_ (hall _ ⟨rfl,rfl,rfl⟩))
   rintro e g a w hra ⟨rfl,rfl,rfl⟩
   refine⟨_,run_beginRound h1 h2,Ht hm hN bd hok2 (.inr hf2) (Lo l λv' w'=>v'=v/\w'=w4) _ _ _ _ hra ?_ (hall2 _ (hrest _ ⟨rfl,rfl⟩))⟩
   intro e g a w _ h
   cases e with
   |normal=>obtain⟨r,k1,k2⟩:=h;exact⟨_,_,run_endRound none k1,k2⟩
   |ret=>obtain⟨r,k1,k2⟩:=h;exact⟨_,_,run_endRound (some .ret) k1,k2⟩
   |exit i=>obtain⟨r,k1,k2⟩:=h;exact⟨_,_,run_endRound (some (.exit i)) k1,k2⟩
   |_=>exact h.elim
  refine RoundIn.mono key ?_
  rintro e w' ⟨v',rfl,rfl,rfl⟩
  exact⟨rfl,rfl⟩
 |_=>exact hq.elim
theorem J8 {f:FuncId}{args:Array Wn}{w:Wm}{R:Wn->Wm->Prop}(h:aH P f args w R):
 Calls P f args w λe w'=>∃v,e= .returned v/\R v w':=by
 obtain⟨v,w',hr,hR⟩:=h
 refine Calls.mono hr ?_
 rintro e w'' ⟨rfl,rfl⟩
 exact⟨v,rfl,hR⟩
end
def sA:Code->Code| .seq a _=>a|c=>c
def cT:Code->Code| .cond _ a _=>a|c=>c
def cE:Code->Code| .cond _ _ b=>b|c=>c
def bI:Code->Code| .block _ c=>c| .loop c=>c| .scope c=>c|c=>c
def bM(f:Func):Code:=match f.body with|some c=>c|none=> .skip
def bN:Nat->Code->Code
 |0,c=>c
 |1,c=>sA c
 |n+1,.seq a b=> .seq a (bN n b)
 |_,c=>c
def aM:Nat->Code->Code
 |0,c=>c
 |n+1,.seq _ b=>aM n b
 |_,c=>c
def Ng:Nat->Code->Bool
 |1,.seq _ _=>true
 |n+1,.seq _ b=>Ng n b
 |_,_=>false
def dr(w:Wm):Wm:={w with drawn:=w.drawn+1}
def Iq(P:Program)(t:TypeId)(a:Wn)(w:Wm)(K:Wn->Prop):Prop:=∃v,(do loadVar t (<-asAddr a):Sem Wn).run P w= .ok v w/\K v
def T6:List (Nat×(Env->Wm->Prop))->Nat->Env->Wm->Prop
 |[],_,_,_=>False
 |(j,k)::r,i,g,w=>match Nat.beq i j with|true=>k g w|false=>T6 r i g w
def SN(kn kr:Env->Wm->Prop)(l:List (Nat×(Env->Wm->Prop))):Exit->Env->Wm->Prop
 | .normal,g,w=>kn g w
 | .ret,g,w=>kr g w
 | .exit i,g,w=>T6 l i g w
 |_,_,_=>False
def LI(Q:Exit->Env->Wm->Prop):List (Nat×(Env->Wm->Prop))->Prop
 |[]=>True
 |(i,k)::r=>(∀g w,k g w->Q (.exit i) g w)/\LI Q r
def dW(c a b:Wn):Sem Next:=do pure (.value (if<-asBool c then a else b))
def lM(t:TypeId):Sem Next:=V (Instr.alloc t true (.tuple #[]))
def AL(t:TypeId)(x:Wn):Sem Next:=V (Instr.box t x)
def aD(t:TypeId)(a:Wn):Sem Next:=V (Instr.loadAt t a)
def aO(t:TypeId)(a x:Wn):Sem Next:=U (Instr.storeAt t a x)
def lW(x:Wn):Sem Next:=execOp (λ_=>x) ⟨none,.nilCheck (.tmp 0),0,default,#[],none⟩
def Io(op:UnOp)(x:Wn):Sem Next:=V (Op.unary op x)
def rH(s d:TypeId)(x:Wn):Sem Next:=V (convert s d x)
def HV(t:TypeId)(r:Option Wn):Sem Next:=V (Instr.makeMap t r)
def Ee(t:TypeId)(l c:Wn):Sem Next:=V (Instr.makeSlice t l c)
def wJ(t:TypeId)(x:Wn)(lo hi mx:Option Wn):Sem Next:=V (Instr.sliceAt t x lo hi mx)
def aF(t:TypeId)(x:Wn)(f:Nat):Sem Next:=V (Instr.fieldAt t x f)
def aL(t:TypeId)(x i:Wn):Sem Next:=V (Instr.indexAt t x i)
def Pg(t:TypeId)(x i:Wn):Sem Next:=V (Instr.index t x i)
def uY(t:TypeId)(x i:Wn)(ok:Bool):Sem Next:=V (Instr.lookup t x i ok)
def Gk(t:TypeId)(m k x:Wn):Sem Next:=U (Instr.mapUpdate t m k x)
def HW(t:TypeId)(x:Wn):Sem Next:=V (Instr.range t x)
def Ls(it:Wn):Sem Next:=V (Instr.entry it)
def MH(it:Wn)(str:Bool)(ty:TypeId):Sem Next:=V (Instr.next it str ty)
def cB(t:Wn)(i:Nat):Sem Next:=V (Instr.extract t i)
section
variable{P:Program}{ann:FA}
theorem SM{Q:Exit->Env->Wm->Prop}:∀{l:List (Nat×(Env->Wm->Prop))},LI Q l->∀{i:Nat} {g:Env} {w:Wm},T6 l i g w->Q (.exit i) g w:=by
 intro l
 induction l with
 |nil=>intro _ i g w h;exact h.elim
 |cons p r ih=>
  obtain⟨j,k⟩:=p
  rintro⟨h1,h2⟩ i g w h
  simp only[T6]at h
  cases hb:Nat.beq i j with
  |true=>
   simp only[hb]at h
   obtain rfl:=U9 hb
   exact h1 _ _ h
  |false=>simp only[hb]at h;exact ih h2 h
theorem RD{c:Code}{kn kr:Env->Wm->Prop}{l:List (Nat×(Env->Wm->Prop))}{Q:Exit->Env->Wm->Prop}{g:Env}{w:Wm}{A:Prop}
 (e:A=eI P ann c (SN kn kr l) g w) (h:A) (hn:∀g w,kn g w->Q .normal g w) (hr:∀g w,kr g w->Q .ret g w) (hl:LI Q l):eI P ann c Q g w:=by
 rw[e]at h
 refine xQ h (λe g' w' _ hq=> ?_)
 cases e with
 |normal=>exact hn _ _ hq
 |ret=>exact hr _ _ hq
 |exit i=>exact SM hl hq
 |_=>exact hq.elim
theorem OU{x y z:Code}{Q:Exit->Env->Wm->Prop}{g:Env}{w:Wm}(h:eI P ann (.seq (.seq x y) z) Q g w):eI P ann (.seq x (.seq y z)) Q g w:=by
 show eI P ann x (tX (λg w=>eI P ann y (tX (λg w=>eI P ann z Q g w) Q) g w) Q) g w
 have h:eI P ann x (tX (λg w=>eI P ann y (tX (λg w=>eI P ann z Q g w) Q) g w) (tX (λg w=>eI P ann z Q g w) Q)) g w:=h
 refine xQ h (λe g' w' _ hq=> ?_)
 cases e<;>exact hq
theorem aI{K:Env->Wm->Prop}{Q:Exit->Env->Wm->Prop}{g:Env}{w:Wm}(h:K g w):tX K Q .normal g w:=h
theorem OW{Q:Exit->Env->Wm->Prop}:∀(n:Nat) (c:Code) (g:Env) (w:Wm),Ng n c=true->eI P ann (.seq (bN n c) (aM n c)) Q g w->eI P ann c Q g w:=by
 intro n
 induction n with
 |zero=>intro c g w h;simp[Ng]at h
 |succ n ih=>
  intro c g w h hd
  cases c with
  |seq a b=>
   cases n with
   |zero=>exact hd
   |succ n=>
    have hb:Ng (n+1) b=true:=by simpa[Ng]using h
    have hd':eI P ann (.seq (.seq a (bN (n+1) b)) (aM (n+1) b)) Q g w:=hd
    have:=OU hd'
    show eI P ann a (tX (λg w=>eI P ann b Q g w) Q) g w
    have h2:eI P ann a (tX (λg w=>eI P ann (.seq (bN (n+1) b) (aM (n+1) b)) Q g w) Q) g w:=this
    refine xQ h2 (λe g' w' _ hq=> ?_)
    cases e with
    |normal=>exact ih b g' w' hb hq
    |_=>exact hq
  |_=>cases n<;>simp[Ng]at h
def Sj(id:Nat):Code->Bool| .block i _=>Nat.beq i id|_=>false
def Qj:Code->Bool| .loop _=>true|_=>false
def PW:Code->Option Operand| .cond o _ _=>some o|_=>none
theorem RA{Q:Exit->Env->Wm->Prop}(id:Nat)(c:Code)(g:Env)(w:Wm)(h:Sj id c=true)(hd:eI P ann (bI c) (Rw id Q) g w):eI P ann c Q g w:=by
 cases c with
 |block i c=>
  obtain rfl:=U9 (show Nat.beq i id=true from h)
  exact hd
 |_=>cases h
theorem RC{Q:Exit->Env->Wm->Prop}(o:Operand)(c:Code)(g:Env)(w:Wm)(h:PW c=some o)
 (hd:eU (ev g o) (eI P ann (cT c) Q g w) (eI P ann (cE c) Q g w)):eI P ann c Q g w:=by
 cases c with
 |cond o' a b=>obtain rfl:=Vp h;exact hd
 |_=>cases h
theorem PF{v:Wn}{A B A' B':Prop}(ha:A->A')(hb:B->B')(h:eU v A B):eU v A' B':=by
 unfold eU at*
 cases v with
 |bool b=>cases b<;>first|exact ha h|exact hb h
 |_=>exact h
theorem P0 {T:Type}(proj:Env->T)(F:(T->Wm->Prop)->T->Wm->Prop){c:Code}{Q:Exit->Env->Wm->Prop}{g:Env}{w:Wm}
 (hF:∀(X:T->Wm->Prop) g' w',iE (EP c) g g'->F X (proj g') w'->eI P ann c (tX (λg'' w''=>X (proj g'') w'') Q) g' w')
 (h:bL F (proj g) w):eI P ann (.loop c) Q g w:=by
 obtain⟨I,⟨n,h0⟩,hI⟩:=h
 refine⟨λn g' w'=>iE (EP c) g g'/\I n (proj g') w',⟨n,iE.refl _ _,h0⟩, ?_⟩
 rintro n g' w' ⟨ha,hi⟩
 have:=hF _ g' w' ha (hI n _ _ hi)
 refine xQ this (λe g2 w2 ha2 hq=> ?_)
 cases e with
 |normal=>
  obtain⟨m,hm,hh⟩:=hq
  exact⟨m,hm,ha.trans ha2 (λ_ h=>h) (λ_ h=>h),hh⟩
 |_=>exact hq
theorem OV{T:Type}(proj:Env->T)(F:(T->Wm->Prop)->T->Wm->Prop)(c:Code){Q:Exit->Env->Wm->Prop}{g:Env}{w:Wm}(hl:Qj c=true)
 (h:bL F (proj g) w)
 (hF:∀(X:T->Wm->Prop) g' w',iE (EP (bI c)) g g'->F X (proj g') w'->eI P ann (bI c) (tX (λg'' w''=>X (proj g'') w'') Q) g' w'):eI P ann c Q g w:=by
 cases c with
 |loop c=>exact P0 proj F hF h
 |_=>cases hl
theorem Nk{l:List Nat}{s:Nat}(hs:lL s l=false):s∉l:=by
 induction l with
 |nil=>simp
 |cons a r ih=>
  unfold lL at hs
  cases hb:Nat.beq a s with
  |true=>simp only[hb]at hs;cases hs
  |false=>
   simp only[hb]at hs
   intro hm
   rcases UZ.1 hm with e|hm
   .subst e;simp at hb
   .exact ih hs hm
theorem PL{l:List Nat}{g g':Env}(h:iE l g g'){s:Nat}(hs:lL s l=false):g' s=g s:=h s (Nk hs)
theorem bL.rule {α:Type}{F:(α->Wm->Prop)->α->Wm->Prop}(I:Nat->α->Wm->Prop){g:α}{w:Wm}(n:Nat)(h0:I n g w)
 (hr:∀n g w,I n g w->F (λg' w'=>∃m,m<n/\I m g' w') g w):bL F g w:=⟨I,⟨n,h0⟩,hr⟩
theorem jG(A B:Prop):eU (.bool true) A B=A:=Eq.trans rfl rfl
theorem eE(A B:Prop):eU (.bool false) A B=B:=Eq.trans rfl rfl
theorem lT(s:(Wn->Wm->Prop)->Prop)(w:Wm)(K:Wn->Wm->Prop):Gd true s w K=s K:=Eq.trans rfl rfl
theorem kN(s:(Wn->Wm->Prop)->Prop)(w:Wm)(K:Wn->Wm->Prop):Gd false s w K=K undef w:=Eq.trans rfl rfl
theorem Oa(p:Prop):Gs true p=p:=Eq.trans rfl rfl
theorem LJ(p:Prop):Gs false p=True:=Eq.trans rfl rfl
theorem vY:bB (.bool true) true=true:=Eq.trans rfl rfl
theorem F6:bB (.bool true) false=false:=Eq.trans rfl rfl
theorem uS:bB (.bool false) true=false:=Eq.trans rfl rfl
theorem uR:bB (.bool false) false=true:=Eq.trans rfl rfl
def aK:Operand:= .tmp 0
theorem TE{c:Code}{kn kr:Env->Wm->Prop}{l:List (Nat×(Env->Wm->Prop))}{Q:Exit->Env->Wm->Prop}{g:Env}{w:Wm}{A:Prop}
 (h:A) (hn:∀g w,kn g w->Q .normal g w) (hr:∀g w,kr g w->Q .ret g w) (hl:LI Q l) (e:A=eI P ann c (SN kn kr l) g w:=by kernel_rfl):eI P ann c Q g w:=RD e h hn hr hl
theorem kA{Q:Exit->Env->Wm->Prop}(n:Nat){c:Code}{g:Env}{w:Wm}
 (hd:eI P ann (bN n c) (tX (λg w=>eI P ann (aM n c) Q g w) Q) g w) (h:Ng n c=true:=by kernel_rfl):eI P ann c Q g w:=OW n c g w h hd
theorem CG{Q:Exit->Env->Wm->Prop}(id:Nat){c:Code}{g:Env}{w:Wm}(hd:eI P ann (bI c) (Rw id Q) g w)(h:Sj id c=true:=by kernel_rfl):eI P ann c Q g w:=RA id c g w h hd
theorem Rh{Q:Exit->Env->Wm->Prop}(o:Operand){c:Code}{g:Env}{w:Wm}{A B:Prop}(ha:A->eI P ann (cT c) Q g w)(hb:B->eI P ann (cE c) Q g w)(hd:eU (ev g o) A B)(h:PW c=some o:=by kernel_rfl):eI P ann c Q g w:=
 RC o c g w h (PF ha hb hd)
theorem Gv{T:Type}(proj:Env->T)(F:(T->Wm->Prop)->T->Wm->Prop){c:Code}{Q:Exit->Env->Wm->Prop}{g:Env}{w:Wm}
 (h:bL F (proj g) w)
 (hF:∀(X:T->Wm->Prop) g' w',iE (EP (bI c)) g g'->F X (proj g') w'->eI P ann (bI c) (tX (λg'' w''=>X (proj g'') w'') Q) g' w') (hl:Qj c=true:=by kernel_rfl):eI P ann c Q g w:=OV proj F c hl h hF
theorem mB{l:List Nat}{g g':Env}(s:Nat)(h:iE l g g')(hs:lL s l=false:=by kernel_rfl):g' s=g s:=PL h hs
theorem vX{ann:FA}(fn:Func)(c:Code)(args:List Wn)(rs:List ResultVar)(N:Nat){f:FuncId}{w:Wm}{R:Wn->Wm->Prop}(hm:P.follows .mixedOrders=true)
 (hf:P.funcs[f]?=some fn) (h:eI P ann c (TK P rs R) (H7 args) w) (hAf:ann.f=f:=by kernel_rfl) (hb:fn.body=some c:=by kernel_rfl) (hrs:fn.results=rs.toArray:=by kernel_rfl) (hN:fn.ntmps=N:=by kernel_rfl) (hle:Nat.ble args.length N=true:=by kernel_rfl)
 (hok:codeOk P N ann c=true:=by kernel_rfl) (hro:rs.all KJ=true:=by kernel_rfl) (hND:Nat.ble N DS=true:=by kernel_rfl) (hfl:mW c=true:=by kernel_rfl):aH P f args.toArray w R:=
 L1 hm hAf hf hb hrs hN (VM hle) hok hro hND hfl h
def Ki:Code->Option (Operand×Array Tmp×Code×Code)
 | .rangeFunc g ps UN bd=>some (g,ps,UN,bd)
 | .seq a b=>(match Ki a with|some r=>some r|none=>Ki b)
 | .cond _ a b=>(match Ki a with|some r=>some r|none=>Ki b)
 | .block _ c=>Ki c
 | .loop c=>Ki c
 | .scope c=>Ki c
 |_=>none
def QQ(c:Code):Array Tmp:=match Ki c with|some (_,ps,_)=>ps|none=> #[]
def Pb(c:Code):Code:=match Ki c with|some (_,_,UN,_)=>UN|none=> .skip
def Nv(c:Code):Code:=match Ki c with|some (_,_,_,bd)=>bd|none=> .skip
def Ub(l:Nat)(w:Wm)(K:Wm->Prop):Prop:=∃r:Loop,w.heap[l]?=some (.loop r)/\r.state= .ready/\K (w.putObj l (.loop {r with state:= .busy}))
def Us:Option Code->LoopState
 |none=> .ready
 |some _=> .done
def Rq(l:Nat)(j:Option Code)(R:Wn->Wm->Prop)(w:Wm):Prop:=
 ∃r:Loop,w.heap[l]?=some (.loop r)/\R (.bool j.isNone) (w.putObj l (.loop {r with state:=Us j,pending:=j}))
theorem UJ{ann:FA}(fn:Func)(c:Code)(args:List Wn)(rs:List ResultVar)(N:Nat){f:FuncId}{w:Wm}{R:Wn->Wm->Prop}(hm:P.follows .mixedOrders=true)
 (hf:P.funcs[f]?=some fn) (h:eI P ann c (Tc P rs R) (H7 args) w) (hAf:ann.f=f:=by kernel_rfl) (hb:fn.body=some c:=by kernel_rfl) (hrs:fn.results=rs.toArray:=by kernel_rfl) (hN:fn.ntmps=N:=by kernel_rfl) (hle:Nat.ble args.length N=true:=by kernel_rfl)
 (hok:codeOk P N ann c=true:=by kernel_rfl) (hro:rs.all KJ=true:=by kernel_rfl) (hND:Nat.ble N DS=true:=by kernel_rfl):aH P f args.toArray w R:=
 GI hm hAf hf hb hrs hN (VM hle) hok hro hND h
theorem UK{ann:FA}(N:Nat){f:FuncId}{l:Nat}{tmps:Array Wn}{UN bd:Code}{w:Wm}{R:Wn->Wm->Prop}(hm:P.follows .mixedOrders=true)(hsz:tmps.size=N)
 (h:eI P ann UN (Ue P ann l bd R) (F3 tmps) w) (hN:HB P f=N) (hok1:codeOk P N ann UN=true) (hok2:codeOk P N ann bd=true) (hAf:ann.f=f:=by kernel_rfl) (hND:Nat.ble N DS=true:=by kernel_rfl)
 (hf1:mW UN=true:=by kernel_rfl) (hf2:mW bd=true:=by kernel_rfl):Ks P l f tmps UN bd w R:=
 Lb hm hAf hN hND hsz hok1 hf1 hok2 hf2 h
end
end Go.En
namespace Go.Proofs.Ytmhokapokchneaa
open Go Go.En
noncomputable abbrev pg:Program:=Try.prog
theorem TryM.mixed:pg.follows .mixedOrders=true:=Try.checked.mixed
abbrev K0:=Wm->Prop
abbrev K1:=Wn->K0
abbrev K2:=Wn->K1
abbrev K3:=Wn->K2
abbrev K4:=Wn->K3
abbrev K5:=Wn->K4
abbrev K6:=Wn->K5
abbrev K7:=Wn->K6
abbrev K8:=Wn->K7
abbrev K9:=Wn->K8
abbrev HR(rs:List ResultVar)(R:K1)(Q:Exit->Env->Wm->Prop):Prop:=∀g w,(mT pg rs g w λvs=>R (Kq vs) w)->Q .ret g w
abbrev no:Env->Wm->Prop:=λ_ _=>False
theorem GV{Q:Env->Wm->Prop}:∀g w,no g w->Q g w:=λ_ _ h=>h.elim
def fz:Nat->List (Bool×List Nat)->List (Bool×List Nat)
 |0,l=>l
 |n+1,l=>(false,[])::fz n l
def ft(a:List Nat)(l:List (Bool×List Nat)):List (Bool×List Nat):=(true,a)::l
def fu(a:List Nat)(l:List (Bool×List Nat)):List (Bool×List Nat):=(false,a)::l
theorem jQ{Q:Env->Wm->Prop}:∀g w,Q g w->Q g w:=λ_ _ h=>h
section
variable{P:Program}{ann:FA}{c:Code}{kr:Env->Wm->Prop}{Q:Exit->Env->Wm->Prop}{g:Env}{w:Wm}{A:Prop}
theorem Gt(l:List (Nat×(Env->Wm->Prop)))(kn:Env->Wm->Prop)(h:A)(hn:∀g w,kn g w->Q .normal g w)(hr:∀g w,kr g w->Q .ret g w)(hl:LI Q l)(e:A=eI P ann c (SN kn kr l) g w:=by kernel_rfl):eI P ann c Q g w:=TE h hn hr hl e
theorem Px(kn:Env->Wm->Prop)(h:A)(hn:∀g w,kn g w->Q .normal g w)(hr:∀g w,kr g w->Q .ret g w)(e:A=eI P ann c (SN kn kr []) g w:=by kernel_rfl):eI P ann c Q g w:=TE (l:=[]) h hn hr trivial e
theorem pG(kn:Env->Wm->Prop)(h:A)(hn:∀g w,kn g w->Q .normal g w)(e:A=eI P ann c (SN kn no []) g w:=by kernel_rfl):eI P ann c Q g w:=TE (l:=[]) h hn GV trivial e
theorem yO(h:A)(hr:∀g w,kr g w->Q .ret g w)(e:A=eI P ann c (SN no kr []) g w:=by kernel_rfl):eI P ann c Q g w:=TE (l:=[]) h GV hr trivial e
end
abbrev MY(k:K0):Env->Wm->Prop:=λg w=>k w
abbrev Tt(k:K1)(x0:Nat):Env->Wm->Prop:=λg w=>k (g x0) w
abbrev MZ(k:K2)(x0 x1:Nat):Env->Wm->Prop:=λg w=>k (g x0) (g x1) w
abbrev KT(k:K3)(x0 x1 x2:Nat):Env->Wm->Prop:=λg w=>k (g x0) (g x1) (g x2) w
abbrev CW(k:K4)(x0 x1 x2 x3:Nat):Env->Wm->Prop:=λg w=>k (g x0) (g x1) (g x2) (g x3) w
abbrev I3 (k:K5)(x0 x1 x2 x3 x4:Nat):Env->Wm->Prop:=λg w=>k (g x0) (g x1) (g x2) (g x3) (g x4) w
abbrev LK(k:K6)(x0 x1 x2 x3 x4 x5:Nat):Env->Wm->Prop:=λg w=>k (g x0) (g x1) (g x2) (g x3) (g x4) (g x5) w
abbrev Ua(k:K7)(x0 x1 x2 x3 x4 x5 x6:Nat):Env->Wm->Prop:=λg w=>k (g x0) (g x1) (g x2) (g x3) (g x4) (g x5) (g x6) w
abbrev UG(k:K8)(x0 x1 x2 x3 x4 x5 x6 x7:Nat):Env->Wm->Prop:=λg w=>k (g x0) (g x1) (g x2) (g x3) (g x4) (g x5) (g x6) (g x7) w
abbrev UH(k:K9)(x0 x1 x2 x3 x4 x5 x6 x7 x8:Nat):Env->Wm->Prop:=λg w=>k (g x0) (g x1) (g x2) (g x3) (g x4) (g x5) (g x6) (g x7) (g x8) w
abbrev uH:FuncId:=5
abbrev wT:FuncId:=7
abbrev vQ:FuncId:=8
abbrev lP:FuncId:=9
abbrev jS:FuncId:=10
abbrev lO:FuncId:=11
abbrev fT:FuncId:=12
abbrev nX:FuncId:=13
abbrev xJ:FuncId:=14
abbrev zA:FuncId:=15
abbrev yZ:FuncId:=16
abbrev qM:FuncId:=17
abbrev nY:FuncId:=18
abbrev mV:FuncId:=19
abbrev pI:FuncId:=20
abbrev jH:FuncId:=21
abbrev vR:FuncId:=22
abbrev pJ:FuncId:=23
abbrev kM:FuncId:=24
abbrev jT:FuncId:=25
abbrev oP:FuncId:=26
abbrev pK:FuncId:=27
abbrev lR:FuncId:=28
abbrev uJ:FuncId:=29
abbrev rN:FuncId:=30
abbrev uI:FuncId:=31
abbrev nZ:FuncId:=32
abbrev lQ:FuncId:=33
abbrev lS:FuncId:=34
abbrev qN:FuncId:=35
abbrev KR:FuncId:=36
abbrev zB:FuncId:=37
abbrev rO:FuncId:=38
abbrev sM:FuncId:=39
abbrev qO:FuncId:=40
abbrev pF:FuncId:=41
abbrev iT:FuncId:=42
abbrev eX:FuncId:=43
abbrev uK:FuncId:=44
abbrev oS:FuncId:=45
abbrev aW:FuncId:=46
abbrev aY:FuncId:=47
abbrev oQ:FuncId:=48
abbrev aZ:FuncId:=49
abbrev fD:FuncId:=50
abbrev dT:FuncId:=51
abbrev eA:FuncId:=52
abbrev dX:FuncId:=53
abbrev cA:FuncId:=54
abbrev bQ:FuncId:=55
abbrev rP:FuncId:=56
abbrev cY:FuncId:=57
abbrev Gx:FuncId:=58
abbrev pL:FuncId:=59
abbrev dQ:FuncId:=60
abbrev jK:FuncId:=61
abbrev kB:FuncId:=62
abbrev fH:FuncId:=63
abbrev fZ:FuncId:=64
abbrev mU:FuncId:=65
abbrev cO:FuncId:=66
abbrev N0 (Q : Exit -> Env -> Wm -> Prop) (k : K0) : Prop := ∀ g w, k w -> Q .normal g w
abbrev E0 (Q : Exit -> Env -> Wm -> Prop) (k : K0) (x0 : Nat) : Prop := ∀ g w, k w -> Q (.exit x0) g w
abbrev N1 (Q : Exit -> Env -> Wm -> Prop) (k : K1) (a_ : Nat) : Prop := ∀ g w, k (g a_) w -> Q .normal g w
abbrev E1 (Q : Exit -> Env -> Wm -> Prop) (k : K1) (x0 : Nat) (a_ : Nat) : Prop := ∀ g w, k (g a_) w -> Q (.exit x0) g w
abbrev N2 (Q : Exit -> Env -> Wm -> Prop) (k : K2) (a_ b_ : Nat) : Prop := ∀ g w, k (g a_) (g b_) w -> Q .normal g w
abbrev E2 (Q : Exit -> Env -> Wm -> Prop) (k : K2) (x0 : Nat) (a_ b_ : Nat) : Prop := ∀ g w, k (g a_) (g b_) w -> Q (.exit x0) g w
abbrev N3 (Q : Exit -> Env -> Wm -> Prop) (k : K3) (a_ b_ c_ : Nat) : Prop := ∀ g w, k (g a_) (g b_) (g c_) w -> Q .normal g w
abbrev E3 (Q : Exit -> Env -> Wm -> Prop) (k : K3) (x0 : Nat) (a_ b_ c_ : Nat) : Prop := ∀ g w, k (g a_) (g b_) (g c_) w -> Q (.exit x0) g w
abbrev N4 (Q : Exit -> Env -> Wm -> Prop) (k : K4) (a_ b_ c_ d_ : Nat) : Prop := ∀ g w, k (g a_) (g b_) (g c_) (g d_) w -> Q .normal g w
abbrev E4 (Q : Exit -> Env -> Wm -> Prop) (k : K4) (x0 : Nat) (a_ b_ c_ d_ : Nat) : Prop := ∀ g w, k (g a_) (g b_) (g c_) (g d_) w -> Q (.exit x0) g w
abbrev N5 (Q : Exit -> Env -> Wm -> Prop) (k : K5) (a_ b_ c_ d_ e_ : Nat) : Prop := ∀ g w, k (g a_) (g b_) (g c_) (g d_) (g e_) w -> Q .normal g w
abbrev E5 (Q : Exit -> Env -> Wm -> Prop) (k : K5) (x0 : Nat) (a_ b_ c_ d_ e_ : Nat) : Prop := ∀ g w, k (g a_) (g b_) (g c_) (g d_) (g e_) w -> Q (.exit x0) g w
abbrev N6 (Q : Exit -> Env -> Wm -> Prop) (k : K6) (a_ b_ c_ d_ e_ f_ : Nat) : Prop := ∀ g w, k (g a_) (g b_) (g c_) (g d_) (g e_) (g f_) w -> Q .normal g w
abbrev Wo (n_ : Int) : Wn := .int .i64 n_
end Go.Proofs.Ytmhokapokchneaa
namespace Go.Proofs.Ytmhokapokchneaa
open Go Go.En
set_option maxRecDepth 20000
attribute [local irreducible] Go.En.eI
variable (Q : Exit -> Env -> Wm -> Prop) (g : Env) (w : Wm)
def rG:FA:=⟨uH,λi=>match Nat.beq i 14 with|true=> .leaf ([6,10],[(9,10)]) (fz 6 (ft [] (fz 3 (ft [0] (fz 1 [])))))|false=> .leaf ([],[]) []⟩
def tB:List ResultVar:=[.tmp 4]
noncomputable def pW:Code:=bM Try.f5
def kT(R:K1) w:=
 R (.bool true) w
def oC(kn:K5)(k0:K0)(R:K1) gT PY Ri NU bF w:=
 aB pg (lG .len #[37] 3 [gT]) w λe7 w=>
 aB pg (aE .lss 3 aK aK bF e7) w λe8 w=>
 Gd (bB e8 true) (λK=>K bF w) w λf0 w=>
 Gd (bB e8 true) (λK=>aB pg (aE .lss 3 aK aK f0 (Wo 30)) w K) w λf1 w=>
 aB pg (dW e8 f1 (.bool false)) w λf2 w=>
 Gd (bB f2 true) (λK=>K Ri w) w λf4 w=>
 Gd (bB f2 true) (λK=>aB pg (aE .eql 26 (.tmp 44) (.const (Wo 0)) f4 (Wo 0)) w K) w λf5 w=>
 aB pg (dW f2 f5 (.bool false)) w λf6 w=>
 eU f6
  (aB pg (aL 37 gT bF) w λi1 w=>
  aB pg (aF 45 i1 4) w λi2 w=>
  aB pg (aD 23 i2) w λi3 w=>
  aB pg (lG .len #[23] 3 [i3]) w λi4 w=>
  aB pg (aE .gtr 3 aK aK i4 (Wo 200)) w λi5 w=>
  Gd (bB i5 false) (λK=>K gT w) w λi7 w=>
  Gd (bB i5 false) (λK=>K bF w) w λi8 w=>
  Gd (bB i5 false) (λK=>aB pg (aL 37 i7 i8) w K) w λi9 w=>
  Gd (bB i5 false) (λK=>aB pg (aF 45 i9 1) w K) w λj0 w=>
  Gd (bB i5 false) (λK=>aB pg (aD 9 j0) w K) w λj1 w=>
  Gd (bB i5 false) (λK=>aB pg (lG .len #[9] 3 [j1]) w K) w λj2 w=>
  Gd (bB i5 false) (λK=>aB pg (aE .gtr 3 aK aK j2 (Wo 100)) w K) w λj3 w=>
  aB pg (dW i5 (.bool true) j3) w λj4 w=>
  Gd (bB j4 false) (λK=>K gT w) w λj6 w=>
  Gd (bB j4 false) (λK=>K bF w) w λj7 w=>
  Gd (bB j4 false) (λK=>aB pg (aL 37 j6 j7) w K) w λj8 w=>
  Gd (bB j4 false) (λK=>aB pg (aF 45 j8 2) w K) w λj9 w=>
  Gd (bB j4 false) (λK=>aB pg (aD 9 j9) w K) w λl0 w=>
  Gd (bB j4 false) (λK=>aB pg (lG .len #[9] 3 [l0]) w K) w λl1 w=>
  Gd (bB j4 false) (λK=>aB pg (aE .gtr 3 aK aK l1 (Wo 100)) w K) w λl2 w=>
  aB pg (dW j4 (.bool true) l2) w λl3 w=>
  Gd (bB l3 false) (λK=>K gT w) w λl5 w=>
  Gd (bB l3 false) (λK=>K bF w) w λl6 w=>
  Gd (bB l3 false) (λK=>aB pg (aL 37 l5 l6) w K) w λl7 w=>
  Gd (bB l3 false) (λK=>aB pg (aF 45 l7 3) w K) w λl8 w=>
  Gd (bB l3 false) (λK=>aB pg (aD 3 l8) w K) w λl9 w=>
  Gd (bB l3 false) (λK=>aB pg (aE .gtr 3 aK aK l9 (Wo 1099511627776)) w K) w λm0 w=>
  aB pg (dW l3 (.bool true) m0) w λm1 w=>
  eU m1
   (R (.bool true) w)
   ((dr w)=(dr w)/\
   aB pg (aD 41 NU) (dr w) λm4 w_=>w_=(dr w)/\
   (dr w)=(dr w)/\
   (dr w)=(dr w)/\
   aB pg (aL 37 gT bF) (dr w) λm7 w_=>w_=(dr w)/\
   aB pg (aD 45 m7) (dr w) λm8 w_=>w_=(dr w)/\
   aH pg zA #[PY,m4,m8] (dr w) λm9 J0=>
   J0=J0/\
   aB pg (cB m9 0) J0 λn0 w_=>w_=J0/\
   aB pg (cB m9 1) J0 λn1 w_=>w_=J0/\
   aB pg (aO 41 NU n0) J0 λ_u10 Ly=>
   (vS pg (cB m9 1) n1 Ly/\True)/\
   Ly=Ly/\
   aB pg (Io .not n1) Ly λn3 w=>
   Gd (bB n3 false) (λK=>K PY w) w λn5 w=>
   Gd (bB n3 false) (λK=>aB pg (aD 41 NU) w K) w λn6 w=>
   Gd (bB n3 false) (λK=>aH pg yZ #[n5,n6] w K) w λn7 w=>
   Gd (bB n3 false) (λK=>aB pg (Io .not n7) w K) w λn8 w=>
   aB pg (dW n3 (.bool true) n8) w λn9 w=>
   eU n9
    (R (.bool false) w)
    (aB pg (aE .add 3 aK aK bF (Wo 1)) w λf8 w=>
    kn gT PY Ri NU f8 w)))
  (k0 w)
def kU(k0:K0)(R:K1) gT PY Ri NU bF w:=
 bL (λ(X:Wn->K0) (t:Wn) (w:Wm)=>oC (λ_ _ _ _ bF w=>X bF w) k0 R gT PY Ri NU t w) bF w
theorem C9 (k0:K0)(R:K1)(h0:E0 Q k0 0)(hr:HR tB R Q)(h:kU k0 R (g 1) (g 6) (g 7) (g 8) (g 10) w):eI pg rG (bI (aM 1 (bN 1 (aM 6 pW)))) Q g w:=by
 refine Gv (λg:Env=>g 10) (λX t w=>oC (λ_ _ _ _ bF w=>X bF w) k0 R (g 1) (g 6) (g 7) (g 8) t w) h (λX g1 w1 ha hL=> ?_)
 rw[<-mB 1 ha,<-mB 6 ha,<-mB 7 ha,<-mB 8 ha]at hL
 exact(Gt [(0,(MY k0))] (I3 (λ_ _ _ _ bF w=>X bF w) 1 6 7 8 10) hL jQ hr ⟨h0,trivial⟩)
def sZ(kn:K5) gT PY Ri NU w:=
 kn gT PY Ri NU (Wo 0) w
def oE(kn:K0)(R:K1) gT PY Ri NU w:=
 sZ (kU kn R) gT PY Ri NU w
def kV(R:K1) gT PY Ri NU w:=
 oE (kT R) R gT PY Ri NU w
theorem Da(kn:K0)(R:K1)(hn:N0 Q kn)(hr:HR tB R Q)(h:oE kn R (g 1) (g 6) (g 7) (g 8) w):eI pg rG (bN 1 (aM 6 pW)) Q g w:=
 kA 1 (pG (I3 (kU kn R) 1 6 7 8 10) h (λg w h=>aI (CG 0 (C9 _ g w kn R hn hr h))))
def Ai(kn:K4)(R:K1) yP gT w:=
 aH pg wT #[] w λc2 w=>
 aB pg (Io .not c2) w λc4 w=>
 eU c4
  (R (.bool false) w)
  (aH pg vQ #[yP] w λc7 w=>
  aB pg (cB c7 0) w λc8 w=>
  aB pg (cB c7 1) w λc9 w=>
  aH pg xJ #[yP] w λd2 w=>
  aB pg (cB d2 0) w λd3 w=>
  aB pg (cB d2 1) w λd4 w=>
  aB pg (lM 41) w λNU w=>
  aB pg (aO 41 NU d3) w λ_u w=>
  aB pg (aE .neq 26 (.tmp 25) (.tmp 26) c9 d4) w λd7 w=>
  Gd (bB d7 false) (λK=>K c8 w) w λd9 w=>
  Gd (bB d7 false) (λK=>aB pg (aE .eql 25 (.tmp 29) (.const (.pointer none)) d9 (.pointer none)) w K) w λe0 w=>
  Gd (bB d7 false) (λK=>K c9 w) w λe1 w=>
  Gd (bB d7 false) (λK=>aB pg (aE .neq 26 (.tmp 31) (.const (Wo 0)) e1 (Wo 0)) w K) w λe2 w=>
  Gd (bB d7 false) (λK=>aB pg (aE .neq 4 (.tmp 30) (.tmp 32) e0 e2) w K) w λe3 w=>
  aB pg (dW d7 (.bool true) e3) w λe4 w=>
  eU e4
   (R (.bool false) w)
   (kn gT c8 c9 NU w))
def Aj(R:K1) yP gT w:=
 Ai (kV R) R yP gT w
def CS a0 a1 w(R:K1):=
 Aj R a0 a1 w
theorem DL{a0 a1 w R}(h:CS a0 a1 w R):aH pg uH #[a0,a1] w R:=
 vX (ann:=rG) Try.f5 pW [a0,a1] tB 100 TryM.mixed Try.func5 (kA 6 (Px (CW (kV R) 1 6 7 8) h (λg w h=>aI (kA 1 (Da _ g w (kT R) R (λg w h=>aI (yO h jQ)) jQ h))) jQ))
def It:FA:=⟨wT,λi=> .leaf ([],[]) []⟩
def JQ:List ResultVar:=[.tmp 0]
noncomputable def Hr:Code:=bM Try.f7
def DN(R:K1) w:=
 aH pg vQ #[(Wo 100)] w λc0 w=>
 aB pg (cB c0 0) w λc1 w=>
 aB pg (cB c0 1) w λc2 w=>
 aB pg (aE .neq 26 (.tmp 13) (.const (Wo 0)) c2 (Wo 0)) w λc4 w=>
 Gd (bB c4 false) (λK=>K c1 w) w λc6 w=>
 Gd (bB c4 false) (λK=>aB pg (aE .eql 25 (.tmp 16) (.const (.pointer none)) c6 (.pointer none)) w K) w λc7 w=>
 aB pg (dW c4 (.bool true) c7) w λc8 w=>
 eU c8
  (R (.bool false) w)
  (aB pg (bZ 23 2 [(0,(.int .u8 120)),(1,(.int .u8 121))]) w λd0 w=>
  aB pg (rH 23 23 d0) w λd1 w=>
  aH pg lP #[c1,(.string ⟨#[97]⟩),(Wo 0),d1] w λd2 w=>
  aH pg fT #[c1,(.string ⟨#[97]⟩)] w λd5 w=>
  aB pg (cB d5 0) w λd6 w=>
  aB pg (cB d5 1) w λd7 w=>
  aH pg jS #[c1] w λd9 w=>
  aH pg lO #[c1,(.slice none 0 0)] w λe1 w=>
  aH pg fT #[c1,(.string ⟨#[97]⟩)] w λe4 w=>
  aB pg (cB e4 0) w λe5 w=>
  aB pg (cB e4 1) w λe6 w=>
  aB pg (aE .eql 26 (.tmp 37) (.const (Wo 0)) d2 (Wo 0)) w λe8 w=>
  Gd (bB e8 true) (λK=>K d6 w) w λf0 w=>
  Gd (bB e8 true) (λK=>aB pg (rH 23 9 f0) w K) w λf1 w=>
  Gd (bB e8 true) (λK=>aB pg (aE .eql 9 (.tmp 41) (.const (.string ⟨#[120,121]⟩)) f1 (.string ⟨#[120,121]⟩)) w K) w λf2 w=>
  aB pg (dW e8 f2 (.bool false)) w λf3 w=>
  Gd (bB f3 true) (λK=>K d7 w) w λf5 w=>
  Gd (bB f3 true) (λK=>aB pg (aE .eql 26 (.tmp 45) (.const (Wo 0)) f5 (Wo 0)) w K) w λf6 w=>
  aB pg (dW f3 f6 (.bool false)) w λf7 w=>
  Gd (bB f7 true) (λK=>K d9 w) w λf9 w=>
  Gd (bB f7 true) (λK=>aB pg (aE .eql 3 (.tmp 49) (.const (Wo 1)) f9 (Wo 1)) w K) w λi0 w=>
  aB pg (dW f7 i0 (.bool false)) w λi1 w=>
  Gd (bB i1 true) (λK=>K e6 w) w λi3 w=>
  Gd (bB i1 true) (λK=>aB pg (aE .eql 26 (.tmp 53) (.const (Wo 21)) i3 (Wo 21)) w K) w λi4 w=>
  aB pg (dW i1 i4 (.bool false)) w λi5 w=>
  Gd (bB i5 true) (λK=>K c1 w) w λi7 w=>
  Gd (bB i5 true) (λK=>aH pg mV #[i7] w K) w λi8 w=>
  Gd (bB i5 true) (λK=>aB pg (aE .eql 26 (.tmp 58) (.const (Wo 0)) i8 (Wo 0)) w K) w λi9 w=>
  aB pg (dW i5 i9 (.bool false)) w λj0 w=>
  R j0 w)
def Ia w(R:K1):=
 DN R w
theorem Hx{w R}(h:Ia w R):aH pg wT #[] w R:=
 vX (ann:=It) Try.f7 Hr [] JQ 61 TryM.mixed Try.func7 (yO h jQ)
def KV:FA:=⟨vQ,λi=> .leaf ([],[]) []⟩
def Mz:List ResultVar:=[.tmp 2,.tmp 3]
noncomputable def J9:Code:=bM Try.f8
def DG(R:K1) yP w:=
 aB pg (aE .lss 3 aK aK yP (Wo 0)) w λb5 w=>
 Gd (bB b5 false) (λK=>K yP w) w λb7 w=>
 Gd (bB b5 false) (λK=>aB pg (aE .gtr 3 aK aK b7 (Wo 16777216)) w K) w λb8 w=>
 aB pg (dW b5 (.bool true) b8) w λb9 w=>
 eU b9
  (R (.tuple #[(.pointer none),(Wo 1)]) w)
  (aB pg (HV 57 none) w λc1 w=>
  aB pg (HV 57 none) w λc2 w=>
  aB pg (lA 60 [(0,yP),(1,c1),(2,c2),(4,(Wo (-1)))]) w λc3 w=>
  aB pg (AL 60 c3) w λc4 w=>
  R (.tuple #[c4,(Wo 0)]) w)
def Jf a0 w(R:K1):=
 DG R a0 w
theorem Fa{a0 w R}(h:Jf a0 w R):aH pg vQ #[a0] w R:=
 vX (ann:=KV) Try.f8 J9 [a0] Mz 15 TryM.mixed Try.func8 (yO h jQ)
def EB:FA:=⟨lP,λi=>match Nat.beq i 9 with|true=> .leaf ([4],[(4,7),(4,8),(4,10),(4,11),(4,14),(4,15),(4,16)]) (fz 4 (ft [] (fz 2 (fu [2] (fu [3] (fz 1 (fu [5] (fu [6] (fz 2 (fu [9] (fu [10] (fu [11] (fz 2 [])))))))))))))|false=> .leaf ([],[]) []⟩
def Gg:List ResultVar:=[.tmp 8]
noncomputable def Ds:Code:=bM Try.f9
def Aa(R:K1) cH cK PN Uf w:=
 aH pg jH #[cH] w λc2 w=>
 aB pg (aE .neq 26 (.tmp 13) (.const (Wo 0)) c2 (Wo 0)) w λc4 w=>
 eU c4
  (R c2 w)
  (aB pg (lW cH) w λc7 w=>
  aB pg (aF 60 c7 2) w λc8 w=>
  aB pg (aD 57 c8) w λc9 w=>
  aB pg (uY 57 c9 cK false) w λd1 w=>
  aB pg (lG .len #[23] 3 [d1]) w λd2 w=>
  aH pg vR #[cK] w λd5 w=>
  aB pg (Io .not d5) w λd6 w=>
  Gd (bB d6 false) (λK=>K PN w) w λd8 w=>
  Gd (bB d6 false) (λK=>aB pg (aE .lss 3 aK aK d8 (Wo 0)) w K) w λd9 w=>
  aB pg (dW d6 (.bool true) d9) w λe0 w=>
  eU e0
   (R (Wo 1) w)
   (aB pg (aE .gtr 3 aK aK PN d2) w λe4 w=>
   eU e4
    (R (Wo 17) w)
    ((dr w)=(dr w)/\
    aB pg (lW cH) (dr w) λe7 w_=>w_=(dr w)/\
    aB pg (aF 60 e7 2) (dr w) λe8 w_=>w_=(dr w)/\
    aB pg (aD 57 e8) (dr w) λe9 w_=>w_=(dr w)/\
    aH pg pJ #[e9] (dr w) λf0 uG=>
    uG=uG/\
    uG=uG/\
    aB pg (lG .len #[23] 3 [Uf]) uG λf3 w_=>w_=uG/\
    (vS pg (lG .len #[23] 3 [Uf]) f3 (dr w)/\True)/\
    aB pg (aE .add 3 aK aK PN f3) uG λf4 w_=>w_=uG/\
    (vS pg (aE .add 3 aK aK PN f3) f4 (dr w)/\True)/\
    uG=uG/\
    aB pg (aE .sub 3 aK aK f4 d2) uG λf6 w_=>w_=uG/\
    (vS pg (aE .sub 3 aK aK f4 d2) f6 (dr w)/\True)/\
    aB pg (lG .max #[3,3] 3 [f6,(Wo 0)]) uG λf7 w_=>w_=uG/\
    (vS pg (lG .max #[3,3] 3 [f6,(Wo 0)]) f7 (dr w)/\True)/\
    aB pg (aE .add 3 aK aK f0 f7) uG λf8 w_=>w_=uG/\
    uG=uG/\
    aB pg (lW cH) uG λi0 w_=>w_=uG/\
    (vS pg (lW cH) i0 (dr w)/\True)/\
    aB pg (aF 60 i0 0) uG λi1 w_=>w_=uG/\
    (vS pg (aF 60 i0 0) i1 (dr w)/\True)/\
    aB pg (aD 3 i1) uG λi2 w_=>w_=uG/\
    (vS pg (aD 3 i1) i2 (dr w)/\True)/\
    aB pg (aE .gtr 3 aK aK f8 i2) uG λi3 w_=>w_=uG/\
    uG=uG/\
    eU i3
     (R (Wo 22) uG)
     (aH pg jT #[Uf] uG λi8 w=>
     aB pg (lA 65 [(0,(Wo 0)),(1,cK),(3,PN),(4,i8)]) w λi9 w=>
     aH pg kM #[cH,i9] w λj0 w=>
     R j0 w))))
def CL a0 a1 a2 a3 w(R:K1):=
 Aa R a0 a1 a2 a3 w
theorem DD{a0 a1 a2 a3 w R}(h:CL a0 a1 a2 a3 w R):aH pg lP #[a0,a1,a2,a3] w R:=
 vX (ann:=EB) Try.f9 Ds [a0,a1,a2,a3] Gg 61 TryM.mixed Try.func9 (yO h jQ)
def CX:FA:=⟨jS,λi=> .leaf ([],[]) []⟩
def Ec:List ResultVar:=[.tmp 2]
noncomputable def Ch:Code:=bM Try.f10
def xR(R:K1) cH w:=
 aB pg (aE .eql 25 (.tmp 3) (.const (.pointer none)) cH (.pointer none)) w λb4 w=>
 eU b4
  (R (Wo 0) w)
  (aB pg (lW cH) w λb6 w=>
  aB pg (aF 60 b6 3) w λb7 w=>
  aB pg (aD 58 b7) w λb8 w=>
  aB pg (lG .len #[58] 3 [b8]) w λb9 w=>
  R b9 w)
def AP a0 w(R:K1):=
 xR R a0 w
theorem Ck{a0 w R}(h:AP a0 w R):aH pg jS #[a0] w R:=
 vX (ann:=CX) Try.f10 Ch [a0] Ec 10 TryM.mixed Try.func10 (yO h jQ)
def rE:FA:=⟨lO,λi=>match Nat.beq i 5 with|true=> .leaf ([5],[]) (fz 5 (ft [] []))|false=> .leaf ([],[]) []⟩
def Ge:List ResultVar:=[]
noncomputable def pU:Code:=bM Try.f11
def sO(kn:K0) cH w:=
 aB pg (lW cH) w λf0 w=>
 aB pg (aF 60 f0 1) w λf1 w=>
 aB pg (aD 57 f1) w λf2 w=>
 aH pg pK #[f2] w λf3 w=>
 aB pg (lW cH) w λf4 w=>
 aB pg (aF 60 f4 2) w λf5 w=>
 aB pg (aO 57 f5 f3) w λ_u w=>
 aB pg (lW cH) w λf6 w=>
 aB pg (aF 60 f6 3) w λf7 w=>
 aB pg (aO 58 f7 (.slice none 0 0)) w λ_u w=>
 aB pg (lW cH) w λf8 w=>
 aB pg (aF 60 f8 4) w λf9 w=>
 aB pg (aO 3 f9 (Wo (-1))) w λ_u w=>
 aB pg (lW cH) w λi0 w=>
 aB pg (aF 60 i0 5) w λi1 w=>
 aB pg (aO 4 i1 (.bool false)) w λ_u w=>
 kn w
def sP(kn:K5) cH cZ c1 c2 c3 w:=
 aB pg (aE .add 3 aK aK c3 (Wo 1)) w λe4 w=>
 kn cH cZ c1 c2 e4 w
def zX(kn:K5)(k0:K1) cH cZ c1 c2 c3 w:=
 aB pg (aE .lss 3 aK aK c3 c2) w λc4 w=>
 eU c4
  (aB pg (aL 58 c1 c3) w λc6 w=>
  aB pg (aD 65 c6) w λc7 w=>
  aB pg (lM 65) w λUt w=>
  aB pg (aO 65 Ut c7) w λ_u w=>
  aB pg (lG .len #[22] 3 [cZ]) w λd0 w=>
  aB pg (aE .lss 3 aK aK c3 d0) w λd1 w=>
  Gd (bB d1 true) (λK=>K cZ w) w λd3 w=>
  Gd (bB d1 true) (λK=>K c3 w) w λd4 w=>
  Gd (bB d1 true) (λK=>aB pg (aL 22 d3 d4) w K) w λd5 w=>
  Gd (bB d1 true) (λK=>aB pg (aD 4 d5) w K) w λd6 w=>
  aB pg (dW d1 d6 (.bool false)) w λd7 w=>
  eU d7
   ((dr w)=(dr w)/\
   aB pg (lW cH) (dr w) λd9 w_=>w_=(dr w)/\
   aB pg (aF 60 d9 1) (dr w) λe0 w_=>w_=(dr w)/\
   aB pg (aD 57 e0) (dr w) λe1 w_=>w_=(dr w)/\
   aB pg (aD 65 Ut) (dr w) λe2 w_=>w_=(dr w)/\
   aH pg oP #[e1,e2] (dr w) λe3 Un=>
   kn cH cZ c1 c2 c3 Un)
   (kn cH cZ c1 c2 c3 w))
  (k0 cH w)
def sQ(kn:K5)(k0:K1) cH cZ c1 c2 c3 w:=
 zX (sP kn) k0 cH cZ c1 c2 c3 w
def oA(k0:K1) cH cZ c1 c2 c3 w:=
 bL (λ(X:Wn->K0) (t:Wn) (w:Wm)=>sQ (λ_ _ _ _ c3 w=>X c3 w) k0 cH cZ c1 c2 t w) c3 w
theorem C2 (k0:K1)(h0:E1 Q k0 0 0)(h:oA k0 (g 0) (g 1) (g 11) (g 12) (g 13) w):eI pg rE (bI (aM 1 (bN 1 (aM 1 pU)))) Q g w:=by
 refine Gv (λg:Env=>g 13) (λX t w=>sQ (λ_ _ _ _ c3 w=>X c3 w) k0 (g 0) (g 1) (g 11) (g 12) t w) h (λX g1 w1 ha hL=> ?_)
 rw[<-mB 0 ha,<-mB 1 ha,<-mB 11 ha,<-mB 12 ha]at hL
 exact(kA 3 (Gt [(0,(Tt k0 0))] (kr:=no) (I3 (sP (λ_ _ _ _ c3 w=>X c3 w)) 0 1 11 12 13) hL (λg w h=>aI (pG (I3 (λ_ _ _ _ c3 w=>X c3 w) 0 1 11 12 13) h jQ)) GV ⟨h0,trivial⟩))
def zY(kn:K5) cH cZ w:=
 aB pg (lW cH) w λb9 w=>
 aB pg (aF 60 b9 3) w λc0 w=>
 aB pg (aD 58 c0) w λc1 w=>
 aB pg (lG .len #[58] 3 [c1]) w λc2 w=>
 kn cH cZ c1 c2 (Wo 0) w
def sR(kn:K1) cH cZ w:=
 zY (oA kn) cH cZ w
def sS(kn:K0) cH cZ w:=
 sR (sO kn) cH cZ w
theorem C4 (kn:K1)(hn:N1 Q kn 0)(h:sR kn (g 0) (g 1) w):eI pg rE (bN 1 (aM 1 pU)) Q g w:=
 kA 1 (pG (I3 (oA kn) 0 1 11 12 13) h (λg w h=>aI (CG 0 (C2 _ g w kn hn h))))
def yS(kn:K2)(R:K1) cH cZ w:=
 aB pg (aE .eql 25 (.tmp 6) (.const (.pointer none)) cH (.pointer none)) w λb7 w=>
 eU b7
  (R (.tuple #[]) w)
  (kn cH cZ w)
def yT(kn:K0)(R:K1) cH cZ w:=
 yS (sS kn) R cH cZ w
def CJ a0 a1 w(R:K1):=
 yT (λw=>R (.tuple #[]) w) R a0 a1 w
theorem Dy{a0 a1 w R}(h:CJ a0 a1 w R):aH pg lO #[a0,a1] w R:=
 vX (ann:=rE) Try.f11 pU [a0,a1] Ge 52 TryM.mixed Try.func11 (kA 1 (Px (MZ (sS (λw=>R (.tuple #[]) w)) 0 1) h (λg w h=>aI (kA 1 (C4 _ g w (sO (λw=>R (.tuple #[]) w)) (λg w h=>aI (pG (MY (λw=>R (.tuple #[]) w)) h jQ)) h))) jQ))
def FQ:FA:=⟨fT,λi=> .leaf ([],[]) []⟩
def Hb:List ResultVar:=[.tmp 4,.tmp 5]
noncomputable def EG:Code:=bM Try.f12
def AQ(R:K1) cH cK w:=
 aH pg jH #[cH] w λc0 w=>
 aB pg (aE .neq 26 (.tmp 11) (.const (Wo 0)) c0 (Wo 0)) w λc2 w=>
 eU c2
  (R (.tuple #[(.slice none 0 0),c0]) w)
  (aB pg (lW cH) w λc6 w=>
  aB pg (aF 60 c6 2) w λc7 w=>
  aB pg (aD 57 c7) w λc8 w=>
  aB pg (uY 57 c8 cK true) w λd0 w=>
  aB pg (cB d0 0) w λd1 w=>
  aB pg (cB d0 1) w λd2 w=>
  aB pg (Io .not d2) w λd4 w=>
  eU d4
   (R (.tuple #[(.slice none 0 0),(Wo 21)]) w)
   (aH pg jT #[d1] w λd6 w=>
   R (.tuple #[d6,(Wo 0)]) w))
def DA a0 a1 w(R:K1):=
 AQ R a0 a1 w
theorem EL{a0 a1 w R}(h:DA a0 a1 w R):aH pg fT #[a0,a1] w R:=
 vX (ann:=FQ) Try.f12 EG [a0,a1] Hb 27 TryM.mixed Try.func12 (yO h jQ)
def Dj:FA:=⟨nX,λi=> .leaf ([],[]) []⟩
def EW:List ResultVar:=[.tmp 4]
noncomputable def CZ:Code:=bM Try.f13
def yU(R:K1) cH cK w:=
 aH pg jH #[cH] w λb9 w=>
 aB pg (aE .neq 26 (.tmp 10) (.const (Wo 0)) b9 (Wo 0)) w λc1 w=>
 eU c1
  (R b9 w)
  (aB pg (lW cH) w λc5 w=>
  aB pg (aF 60 c5 2) w λc6 w=>
  aB pg (aD 57 c6) w λc7 w=>
  aB pg (uY 57 c7 cK true) w λc9 w=>
  aB pg (cB c9 0) w λd0 w=>
  aB pg (cB c9 1) w λd1 w=>
  aB pg (Io .not d1) w λd3 w=>
  eU d3
   (R (Wo 21) w)
   (aB pg (lA 65 [(0,(Wo 2)),(1,cK)]) w λd6 w=>
   aH pg kM #[cH,d6] w λd7 w=>
   R d7 w))
def BP a0 a1 w(R:K1):=
 yU R a0 a1 w
theorem C5 {a0 a1 w R}(h:BP a0 a1 w R):aH pg nX #[a0,a1] w R:=
 vX (ann:=Dj) Try.f13 CZ [a0,a1] EW 28 TryM.mixed Try.func13 (yO h jQ)
def J7:FA:=⟨xJ,λi=> .leaf ([],[]) []⟩
def Lr:List ResultVar:=[.cell 2 41,.tmp 3]
noncomputable def Jd:Code:=bM Try.f14
def Cx(R:K1) yP w:=
 aB pg (lM 41) w λb2 w=>
 aB pg (aE .lss 3 aK aK yP (Wo 0)) w λb5 w=>
 Gd (bB b5 false) (λK=>K yP w) w λb7 w=>
 Gd (bB b5 false) (λK=>aB pg (aE .gtr 3 aK aK b7 (Wo 16777216)) w K) w λb8 w=>
 aB pg (dW b5 (.bool true) b8) w λb9 w=>
 eU b9
  (aB pg (lA 41 []) w λc0 w=>
  aB pg (aO 41 b2 c0) w λ_u w=>
  Iq pg 41 b2 w λr0=>R (.tuple #[r0,(Wo 1)]) w)
  (aB pg (lA 41 [(0,yP),(3,(Wo (-1)))]) w λc2 w=>
  aB pg (aO 41 b2 c2) w λ_u w=>
  Iq pg 41 b2 w λr0=>R (.tuple #[r0,(Wo 0)]) w)
def HH a0 w(R:K1):=
 Cx R a0 w
theorem D9 {a0 w R}(h:HH a0 w R):aH pg xJ #[a0] w R:=
 vX (ann:=J7) Try.f14 Jd [a0] Lr 13 TryM.mixed Try.func14 (yO h jQ)
def Dl:FA:=⟨zA,λi=> .leaf ([],[]) []⟩
def FJ:List ResultVar:=[.cell 6 41,.tmp 7]
noncomputable def CH:Code:=bM Try.f15
def wW(R:K1) cH rL pS b6 w:=
 aB pg (aF 45 pS 1) w λs4 w=>
 aB pg (aD 9 s4) w λs5 w=>
 aH pg fT #[cH,s5] w λs6 w=>
 aB pg (cB s6 0) w λs7 w=>
 aB pg (cB s6 1) w λs8 w=>
 aB pg (aD 41 rL) w λu0 w=>
 aB pg (aF 45 pS 1) w λu1 w=>
 aB pg (aD 9 u1) w λu2 w=>
 aH pg uI #[u0,u2] w λu3 w=>
 aB pg (cB u3 0) w λu4 w=>
 aB pg (cB u3 1) w λu5 w=>
 aB pg (aD 41 rL) w λu6 w=>
 aB pg (rH 23 9 s7) w λu8 w=>
 aB pg (aE .eql 9 (.tmp 148) (.tmp 149) u8 u4) w λv0 w=>
 Gd (bB v0 true) (λK=>K s8 w) w λv2 w=>
 Gd (bB v0 true) (λK=>K u5 w) w λv3 w=>
 Gd (bB v0 true) (λK=>aB pg (aE .eql 26 (.tmp 152) (.tmp 153) v2 v3) w K) w λv4 w=>
 aB pg (dW v0 v4 (.bool false)) w λv5 w=>
 aB pg (aO 41 b6 u6) w λ_u w=>
 Iq pg 41 b6 w λr0=>R (.tuple #[r0,v5]) w
def Bk(R:K1) cH rL pS b6 w:=
 aB pg (aF 45 pS 1) w λe1 w=>
 aB pg (aD 9 e1) w λe2 w=>
 aB pg (aF 45 pS 3) w λe3 w=>
 aB pg (aD 3 e3) w λe4 w=>
 aB pg (aF 45 pS 4) w λe5 w=>
 aB pg (aD 23 e5) w λe6 w=>
 aH pg lP #[cH,e2,e4,e6] w λe7 w=>
 aB pg (aD 41 rL) w λe9 w=>
 aB pg (aF 45 pS 1) w λf0 w=>
 aB pg (aD 9 f0) w λf1 w=>
 aB pg (aF 45 pS 3) w λf2 w=>
 aB pg (aD 3 f2) w λf3 w=>
 aB pg (aF 45 pS 4) w λf4 w=>
 aB pg (aD 23 f4) w λf5 w=>
 aB pg (rH 23 9 f5) w λf6 w=>
 aB pg (lA 71 [(0,(Wo 0)),(1,f1),(3,f3),(4,f6)]) w λf7 w=>
 aH pg lR #[e9,f7] w λf8 w=>
 aB pg (cB f8 0) w λf9 w=>
 aB pg (cB f8 1) w λi0 w=>
 aB pg (lM 41) w λUv w=>
 aB pg (aO 41 Uv f9) w λ_u w=>
 aB pg (aD 41 Uv) w λi1 w=>
 aB pg (aE .eql 26 (.tmp 52) (.tmp 53) e7 i0) w λi4 w=>
 aB pg (aO 41 b6 i1) w λ_u w=>
 Iq pg 41 b6 w λr0=>R (.tuple #[r0,i4]) w
def Bm(R:K1) cH rL pS b6 w:=
 aB pg (aF 45 pS 1) w λi8 w=>
 aB pg (aD 9 i8) w λi9 w=>
 aB pg (aF 45 pS 2) w λj0 w=>
 aB pg (aD 9 j0) w λj1 w=>
 aH pg nY #[cH,i9,j1] w λj2 w=>
 aB pg (aD 41 rL) w λj4 w=>
 aB pg (aF 45 pS 1) w λj5 w=>
 aB pg (aD 9 j5) w λj6 w=>
 aB pg (aF 45 pS 2) w λj7 w=>
 aB pg (aD 9 j7) w λj8 w=>
 aB pg (lA 71 [(0,(Wo 1)),(1,j6),(2,j8)]) w λj9 w=>
 aH pg lR #[j4,j9] w λl0 w=>
 aB pg (cB l0 0) w λl1 w=>
 aB pg (cB l0 1) w λl2 w=>
 aB pg (lM 41) w λTU w=>
 aB pg (aO 41 TU l1) w λ_u w=>
 aB pg (aD 41 TU) w λl3 w=>
 aB pg (aE .eql 26 (.tmp 74) (.tmp 75) j2 l2) w λl6 w=>
 aB pg (aO 41 b6 l3) w λ_u w=>
 Iq pg 41 b6 w λr0=>R (.tuple #[r0,l6]) w
def Bn(R:K1) cH rL pS b6 w:=
 aB pg (aF 45 pS 1) w λm0 w=>
 aB pg (aD 9 m0) w λm1 w=>
 aH pg nX #[cH,m1] w λm2 w=>
 aB pg (aD 41 rL) w λm4 w=>
 aB pg (aF 45 pS 1) w λm5 w=>
 aB pg (aD 9 m5) w λm6 w=>
 aB pg (lA 71 [(0,(Wo 2)),(1,m6)]) w λm7 w=>
 aH pg lR #[m4,m7] w λm8 w=>
 aB pg (cB m8 0) w λm9 w=>
 aB pg (cB m8 1) w λn0 w=>
 aB pg (lM 41) w λTV w=>
 aB pg (aO 41 TV m9) w λ_u w=>
 aB pg (aD 41 TV) w λn1 w=>
 aB pg (aE .eql 26 (.tmp 92) (.tmp 93) m2 n0) w λn4 w=>
 aB pg (aO 41 b6 n1) w λ_u w=>
 Iq pg 41 b6 w λr0=>R (.tuple #[r0,n4]) w
def Bo(R:K1) cH rL b6 w:=
 aH pg mV #[cH] w λn8 w=>
 aB pg (aD 41 rL) w λo0 w=>
 aH pg uJ #[o0] w λo1 w=>
 aB pg (cB o1 0) w λo2 w=>
 aB pg (cB o1 1) w λo3 w=>
 aB pg (lM 41) w λTW w=>
 aB pg (aO 41 TW o2) w λ_u w=>
 aB pg (aD 41 TW) w λo4 w=>
 aB pg (aE .eql 26 (.tmp 105) (.tmp 106) n8 o3) w λo7 w=>
 aB pg (aO 41 b6 o4) w λ_u w=>
 Iq pg 41 b6 w λr0=>R (.tuple #[r0,o7]) w
def wX(R:K1) rL b6 w:=
 aB pg (aD 41 rL) w λq1 w=>
 aB pg (aO 41 b6 q1) w λ_u w=>
 Iq pg 41 b6 w λr0=>R (.tuple #[r0,(.bool true)]) w
def Fj(kn:K2) cH rL pS b6 w:=
 aB pg (aF 45 pS 3) w λp1 w=>
 aB pg (aD 3 p1) w λp2 w=>
 aH pg qM #[cH,p2] w λp3 w=>
 aB pg (aF 45 pS 3) w λp4 w=>
 aB pg (aD 3 p4) w λp5 w=>
 aB pg (aF 41 rL 3) w λp6 w=>
 aB pg (aO 3 p6 p5) w λ_u w=>
 aB pg (aF 45 pS 3) w λp7 w=>
 aB pg (aD 3 p7) w λp8 w=>
 aB pg (aE .lss 3 aK aK p8 (Wo 0)) w λp9 w=>
 eU p9
  (aB pg (aF 41 rL 3) w λq0 w=>
  aB pg (aO 3 q0 (Wo (-1))) w λ_u w=>
  kn rL b6 w)
  (kn rL b6 w)
def Bp(R:K1) cH rL pS b6 w:=
 Fj (wX R) cH rL pS b6 w
def wY(kn:K4)(R:K1) cH rL pS b6 d6 w:=
 aB pg (aE .eql 3 (.tmp 26) (.const (Wo 6)) d6 (Wo 6)) w λq3 w=>
 eU q3
  (aB pg (aF 45 pS 5) w λq5 w=>
  aB pg (aD 22 q5) w λq6 w=>
  aH pg lO #[cH,q6] w λq7 w=>
  aB pg (aD 41 rL) w λq8 w=>
  aB pg (aF 45 pS 5) w λq9 w=>
  aB pg (aD 22 q9) w λs0 w=>
  aH pg rN #[q8,s0] w λs1 w=>
  aB pg (aO 41 b6 s1) w λ_u w=>
  Iq pg 41 b6 w λr0=>R (.tuple #[r0,(.bool true)]) w)
  (kn cH rL pS b6 w)
def pZ(kn:K4)(R:K1) cH rL pS b6 d6 o8 w:=
 eU o8 (Bp R cH rL pS b6 w) (wY kn R cH rL pS b6 d6 w)
def uT(kn:K6) cH rL pS b6 d6 w:=
 aB pg (aE .eql 3 (.tmp 26) (.const (Wo 5)) d6 (Wo 5)) w λo9 w=>
 kn cH rL pS b6 d6 o9 w
def uU(kn:K4)(R:K1) cH rL pS b6 d6 w:=
 uT (pZ kn R) cH rL pS b6 d6 w
def mX(kn:K4)(R:K1) cH rL pS b6 d6 n5 w:=
 eU n5 (Bo R cH rL b6 w) (uU kn R cH rL pS b6 d6 w)
def qA(kn:K6) cH rL pS b6 d6 w:=
 aB pg (aE .eql 3 (.tmp 26) (.const (Wo 4)) d6 (Wo 4)) w λn6 w=>
 kn cH rL pS b6 d6 n6 w
def qB(kn:K4)(R:K1) cH rL pS b6 d6 w:=
 qA (mX kn R) cH rL pS b6 d6 w
def kW(kn:K4)(R:K1) cH rL pS b6 d6 l7 w:=
 eU l7 (Bn R cH rL pS b6 w) (qB kn R cH rL pS b6 d6 w)
def mY(kn:K6) cH rL pS b6 d6 w:=
 aB pg (aE .eql 3 (.tmp 26) (.const (Wo 3)) d6 (Wo 3)) w λl8 w=>
 kn cH rL pS b6 d6 l8 w
def mZ(kn:K4)(R:K1) cH rL pS b6 d6 w:=
 mY (kW kn R) cH rL pS b6 d6 w
def jI(kn:K4)(R:K1) cH rL pS b6 d6 i5 w:=
 eU i5 (Bm R cH rL pS b6 w) (mZ kn R cH rL pS b6 d6 w)
def kX(kn:K6) cH rL pS b6 d6 w:=
 aB pg (aE .eql 3 (.tmp 26) (.const (Wo 2)) d6 (Wo 2)) w λi6 w=>
 kn cH rL pS b6 d6 i6 w
def kY(kn:K4)(R:K1) cH rL pS b6 d6 w:=
 kX (jI kn R) cH rL pS b6 d6 w
def fI(kn:K4)(R:K1) cH rL pS b6 d6 d7 w:=
 eU d7 (Bk R cH rL pS b6 w) (kY kn R cH rL pS b6 d6 w)
def DO(kn:K6) cH rL pS b6 d6 w:=
 aB pg (aE .eql 3 (.tmp 26) (.const (Wo 0)) d6 (Wo 0)) w λd8 w=>
 eU d8
  (kn cH rL pS b6 d6 d8 w)
  (aB pg (aE .eql 3 (.tmp 26) (.const (Wo 1)) d6 (Wo 1)) w λd9 w=>
  kn cH rL pS b6 d6 d9 w)
def Ak(kn:K4)(R:K1) cH rL pS b6 d6 w:=
 DO (fI kn R) cH rL pS b6 d6 w
def DP(kn:K5) cH rL pS b6 w:=
 aB pg (aF 45 pS 0) w λd4 w=>
 aB pg (aD 3 d4) w λd5 w=>
 aB pg (aE .and 3 aK aK d5 (Wo 7)) w λd6 w=>
 kn cH rL pS b6 d6 w
def Al(kn:K4)(R:K1) cH rL pS b6 w:=
 DP (Ak kn R) cH rL pS b6 w
def Am(R:K1) cH rL pS b6 w:=
 Al (wW R) R cH rL pS b6 w
theorem GO(kn:K4)(R:K1)(hn:N4 Q kn 0 4 5 6)(hr:HR FJ R Q)(h:Al kn R (g 0) (g 4) (g 5) (g 6) w):eI pg Dl (bN 1 (aM 1 CH)) Q g w:=
 kA 1 (pG (I3 (Ak kn R) 0 4 5 6 26) h (λg w h=>aI (CG 0 (kA 1 (pG (LK (fI kn R) 0 4 5 6 26 27) h (λg w h=>aI (Rh (.tmp 27) (λh=>(yO h hr)) (λh=>(kA 1 (pG (LK (jI kn R) 0 4 5 6 26 55) h (λg w h=>aI (Rh (.tmp 55) (λh=>(yO h hr)) (λh=>(kA 1 (pG (LK (kW kn R) 0 4 5 6 26 77) h (λg w h=>aI (Rh (.tmp 77) (λh=>(yO h hr)) (λh=>(kA 1 (pG (LK (mX kn R) 0 4 5 6 26 95) h (λg w h=>aI (Rh (.tmp 95) (λh=>(yO h hr)) (λh=>(kA 1 (pG (LK (pZ kn R) 0 4 5 6 26 108) h (λg w h=>aI (Rh (.tmp 108) (λh=>(kA 3 (pG (MZ (wX R) 4 6) h (λg w h=>aI (yO h hr))))) (λh=>(Px _ h hn hr)) h))))) h))))) h))))) h))))) h)))))))
def DQ(kn:K4) cH Dg Ud w:=
 aB pg (AL 41 Dg) w λrL w=>
 aB pg (AL 45 Ud) w λpS w=>
 aB pg (lM 41) w λb6 w=>
 kn cH rL pS b6 w
def DR(R:K1) cH Dg Ud w:=
 DQ (Am R) cH Dg Ud w
def Jt a0 a1 a2 w(R:K1):=
 DR R a0 a1 a2 w
theorem IA{a0 a1 a2 w R}(h:Jt a0 a1 a2 w R):aH pg zA #[a0,a1,a2] w R:=
 vX (ann:=Dl) Try.f15 CH [a0,a1,a2] FJ 156 TryM.mixed Try.func15 (kA 1 (pG (CW (Am R) 0 4 5 6) h (λg w h=>aI (kA 1 (GO _ g w (wW R) R (λg w h=>aI (yO h jQ)) jQ h)))))
def zQ:FA:=⟨yZ,λi=>match Nat.beq i 3 with|true=> .leaf ([7],[(7,8),(7,9),(7,10)]) (fz 7 (ft [] (fu [0] (fu [1] (fu [2] (fz 2 []))))))|false=>match Nat.beq i 9 with|true=> .leaf ([],[]) (fz 37 [])|false=> .leaf ([],[]) []⟩
def BG:List ResultVar:=[.tmp 4]
noncomputable def yI:Code:=bM Try.f16
def Bg(R:K1) w:=
 R (.bool true) w
def Bh(kn:K5)(k0:K0)(R:K1) cH MX PC Jr iZ w:=
 aB pg (lG .len #[53] 3 [PC]) w λd9 w=>
 aB pg (aE .lss 3 aK aK iZ d9) w λe0 w=>
 eU e0
  (aB pg (aL 53 PC iZ) w λe7 w=>
  aB pg (aD 9 e7) w λe8 w=>
  aH pg fT #[cH,e8] w λe9 w=>
  aB pg (cB e9 0) w λf0 w=>
  aB pg (cB e9 1) w λf1 w=>
  (dr w)=(dr w)/\
  (dr w)=(dr w)/\
  aB pg (aL 53 PC iZ) (dr w) λf4 w_=>w_=(dr w)/\
  aB pg (aD 9 f4) (dr w) λf5 w_=>w_=(dr w)/\
  (dr w)=(dr w)/\
  (dr w)=(dr w)/\
  aB pg (aL 38 Jr iZ) (dr w) λf8 w_=>w_=(dr w)/\
  aB pg (aF 78 f8 0) (dr w) λf9 w_=>w_=(dr w)/\
  aB pg (aD 9 f9) (dr w) λi0 w_=>w_=(dr w)/\
  aB pg (aE .neq 9 (.tmp 45) (.tmp 50) f5 i0) (dr w) λi1 w_=>w_=(dr w)/\
  (dr w)=(dr w)/\
  Gd (bB i1 false) (λK=>aB pg (aF 41 MX 4) (dr w) K) (dr w) λi3 w_=>w_=(dr w)/\
  Gd (bB i1 false) (λK=>aB pg (aD 4 i3) (dr w) K) (dr w) λi4 w_=>w_=(dr w)/\
  Gd (bB i1 false) (λK=>aB pg (Io .not i4) (dr w) K) (dr w) λi5 w_=>w_=(dr w)/\
  Gd (bB i1 false) (λK=>K i5 (dr w)) (dr w) λi6 w_=>w_=(dr w)/\
  Gd (bB i6 true) (λK=>K f1 (dr w)) (dr w) λi7 w_=>w_=(dr w)/\
  Gd (bB i6 true) (λK=>aB pg (aE .neq 26 (.tmp 57) (.const (Wo 0)) i7 (Wo 0)) (dr w) K) (dr w) λi8 w_=>w_=(dr w)/\
  Gd (bB i6 true) (λK=>K i8 (dr w)) (dr w) λi9 w_=>w_=(dr w)/\
  Gd (bB i9 false) (λK=>K f0 (dr w)) (dr w) λj0 w_=>w_=(dr w)/\
  Gd (bB i9 false) (λK=>aB pg (rH 23 9 j0) (dr w) K) (dr w) λj1 w_=>w_=(dr w)/\
  Gd (bB i9 false) (λK=>K Jr (dr w)) (dr w) λj2 w_=>w_=(dr w)/\
  Gd (bB i9 false) (λK=>K iZ (dr w)) (dr w) λj3 w_=>w_=(dr w)/\
  Gd (bB i9 false) (λK=>aB pg (aL 38 j2 j3) (dr w) K) (dr w) λj4 w_=>w_=(dr w)/\
  Gd (bB i9 false) (λK=>aB pg (aF 78 j4 1) (dr w) K) (dr w) λj5 w_=>w_=(dr w)/\
  Gd (bB i9 false) (λK=>aB pg (aD 9 j5) (dr w) K) (dr w) λj6 w_=>w_=(dr w)/\
  Gd (bB i9 false) (λK=>aB pg (aE .neq 9 (.tmp 61) (.tmp 66) j1 j6) (dr w) K) (dr w) λj7 w_=>w_=(dr w)/\
  Gd (bB i6 true) (λK=>aB pg (dW i9 (.bool true) j7) (dr w) K) (dr w) λj8 w_=>w_=(dr w)/\
  Gd (bB i1 false) (λK=>aB pg (dW i6 j8 (.bool false)) (dr w) K) (dr w) λj9 w_=>w_=(dr w)/\
  aB pg (dW i1 (.bool true) j9) (dr w) λl0 w_=>w_=(dr w)/\
  (dr w)=(dr w)/\
  Gd (bB l0 false) (λK=>aB pg (aF 41 MX 4) (dr w) K) (dr w) λl2 w_=>w_=(dr w)/\
  Gd (bB l0 false) (λK=>aB pg (aD 4 l2) (dr w) K) (dr w) λl3 w_=>w_=(dr w)/\
  Gd (bB l0 false) (λK=>K l3 (dr w)) (dr w) λl4 w_=>w_=(dr w)/\
  Gd (bB l4 true) (λK=>K f1 (dr w)) (dr w) λl5 w_=>w_=(dr w)/\
  Gd (bB l4 true) (λK=>aB pg (aE .neq 26 (.tmp 75) (.const (Wo 20)) l5 (Wo 20)) (dr w) K) (dr w) λl6 w_=>w_=(dr w)/\
  Gd (bB l0 false) (λK=>aB pg (dW l4 l6 (.bool false)) (dr w) K) (dr w) λl7 w_=>w_=(dr w)/\
  aB pg (dW l0 (.bool true) l7) (dr w) λl8 w_=>w_=(dr w)/\
  eU l8
   (R (.bool false) (dr w))
   (aB pg (aE .add 3 aK aK iZ (Wo 1)) (dr w) λe2 w=>
   kn cH MX PC Jr e2 w))
  (k0 w)
def wV(k0:K0)(R:K1) cH MX PC Jr iZ w:=
 bL (λ(X:Wn->K0) (t:Wn) (w:Wm)=>Bh (λ_ _ _ _ iZ w=>X iZ w) k0 R cH MX PC Jr t w) iZ w
theorem Hy(k0:K0)(R:K1)(h0:E0 Q k0 0)(hr:HR BG R Q)(h:wV k0 R (g 0) (g 3) (g 5) (g 6) (g 7) w):eI pg zQ (bI (aM 1 (bN 1 (aM 4 yI)))) Q g w:=by
 refine Gv (λg:Env=>g 7) (λX t w=>Bh (λ_ _ _ _ iZ w=>X iZ w) k0 R (g 0) (g 3) (g 5) (g 6) t w) h (λX g1 w1 ha hL=> ?_)
 rw[<-mB 0 ha,<-mB 3 ha,<-mB 5 ha,<-mB 6 ha]at hL
 exact(Gt [(0,(MY k0))] (I3 (λ_ _ _ _ iZ w=>X iZ w) 0 3 5 6 7) hL jQ hr ⟨h0,trivial⟩)
def Fg(kn:K5) cH MX PC Jr w:=
 kn cH MX PC Jr (Wo 0) w
def Bi(kn:K0)(R:K1) cH MX PC Jr w:=
 Fg (wV kn R) cH MX PC Jr w
def Bj(R:K1) cH MX PC Jr w:=
 Bi (Bg R) R cH MX PC Jr w
theorem Hz(kn:K0)(R:K1)(hn:N0 Q kn)(hr:HR BG R Q)(h:Bi kn R (g 0) (g 3) (g 5) (g 6) w):eI pg zQ (bN 1 (aM 4 yI)) Q g w:=
 kA 1 (pG (I3 (wV kn R) 0 3 5 6 7) h (λg w h=>aI (CG 0 (Hy _ g w kn R hn hr h))))
def Fh(kn:K4)(R:K1) cH Dg w:=
 aB pg (AL 41 Dg) w λMX w=>
 aH pg pI #[cH] w λc1 w=>
 aB pg (aD 41 MX) w λc2 w=>
 aH pg nZ #[c2] w λc3 w=>
 (dr w)=(dr w)/\
 aB pg (lG .len #[53] 3 [c1]) (dr w) λc5 w_=>w_=(dr w)/\
 (dr w)=(dr w)/\
 aB pg (lG .len #[38] 3 [c3]) (dr w) λc7 w_=>w_=(dr w)/\
 aB pg (aE .neq 3 (.tmp 15) (.tmp 17) c5 c7) (dr w) λc8 w_=>w_=(dr w)/\
 (dr w)=(dr w)/\
 Gd (bB c8 false) (λK=>K cH (dr w)) (dr w) λd0 w_=>w_=(dr w)/\
 Gd (bB c8 false) (λK=>aH pg jS #[d0] (dr w) K) (dr w) λd1 AN=>
 Gd (bB c8 false) (λK=>aB pg (aF 41 MX 2) AN K) AN λd2 w_=>w_=AN/\
 (Gs (bB c8 false) (vS pg (aF 41 MX 2) d2 (dr w))/\True)/\
 Gd (bB c8 false) (λK=>aB pg (aD 39 d2) AN K) AN λd3 w_=>w_=AN/\
 (Gs (bB c8 false) (vS pg (aD 39 d2) d3 (dr w))/\True)/\
 Gd (bB c8 false) (λK=>aB pg (lG .len #[39] 3 [d3]) AN K) AN λd4 w_=>w_=AN/\
 (Gs (bB c8 false) (vS pg (lG .len #[39] 3 [d3]) d4 (dr w))/\True)/\
 Gd (bB c8 false) (λK=>aB pg (aE .neq 3 (.tmp 21) (.tmp 24) d1 d4) AN K) AN λd5 w_=>w_=AN/\
 aB pg (dW c8 (.bool true) d5) AN λd6 w_=>w_=AN/\
 eU d6
  (R (.bool false) AN)
  (kn cH MX c1 c3 AN)
def Fi(R:K1) cH Dg w:=
 Fh (Bj R) R cH Dg w
def Js a0 a1 w(R:K1):=
 Fi R a0 a1 w
theorem Iz{a0 a1 w R}(h:Js a0 a1 w R):aH pg yZ #[a0,a1] w R:=
 vX (ann:=zQ) Try.f16 yI [a0,a1] BG 79 TryM.mixed Try.func16 (kA 4 (Px (CW (Bj R) 0 3 5 6) h (λg w h=>aI (kA 1 (Hz _ g w (Bg R) R (λg w h=>aI (yO h jQ)) jQ h))) jQ))
def FR:FA:=⟨qM,λi=> .leaf ([],[]) []⟩
def Hc:List ResultVar:=[]
noncomputable def EH:Code:=bM Try.f17
def AR(kn:K0) cH Ru w:=
 aB pg (aE .neq 25 (.tmp 4) (.const (.pointer none)) cH (.pointer none)) w λb5 w=>
 eU b5
  (aB pg (lG .max #[3,3] 3 [Ru,(Wo (-1))]) w λb8 w=>
  aB pg (lW cH) w λb9 w=>
  aB pg (aF 60 b9 4) w λc0 w=>
  aB pg (aO 3 c0 b8) w λ_u w=>
  kn w)
  (kn w)
def DB a0 a1 w(R:K1):=
 AR (λw=>R (.tuple #[]) w) a0 a1 w
theorem EM{a0 a1 w R}(h:DB a0 a1 w R):aH pg qM #[a0,a1] w R:=
 vX (ann:=FR) Try.f17 EH [a0,a1] Hc 11 TryM.mixed Try.func17 (pG (MY (λw=>R (.tuple #[]) w)) h jQ)
def Dk:FA:=⟨nY,λi=> .leaf ([],[]) []⟩
def EX:List ResultVar:=[.tmp 6]
noncomputable def C0:Code:=bM Try.f18
def yV(R:K1) cH Qz Qw w:=
 aH pg jH #[cH] w λc1 w=>
 aB pg (aE .neq 26 (.tmp 12) (.const (Wo 0)) c1 (Wo 0)) w λc3 w=>
 eU c3
  (R c1 w)
  (aH pg vR #[Qz] w λc6 w=>
  aB pg (Io .not c6) w λc7 w=>
  Gd (bB c7 false) (λK=>K Qw w) w λc9 w=>
  Gd (bB c7 false) (λK=>aH pg vR #[c9] w K) w λd0 w=>
  Gd (bB c7 false) (λK=>aB pg (Io .not d0) w K) w λd1 w=>
  aB pg (dW c7 (.bool true) d1) w λd2 w=>
  eU d2
   (R (Wo 1) w)
   (aB pg (lW cH) w λd5 w=>
   aB pg (aF 60 d5 2) w λd6 w=>
   aB pg (aD 57 d6) w λd7 w=>
   aB pg (uY 57 d7 Qz true) w λd9 w=>
   aB pg (cB d9 0) w λe0 w=>
   aB pg (cB d9 1) w λe1 w=>
   aB pg (Io .not e1) w λe3 w=>
   eU e3
    (R (Wo 21) w)
    (aB pg (lA 65 [(0,(Wo 1)),(1,Qz),(2,Qw)]) w λe7 w=>
    aH pg kM #[cH,e7] w λe8 w=>
    R e8 w)))
def BQ a0 a1 a2 w(R:K1):=
 yV R a0 a1 a2 w
theorem C6 {a0 a1 a2 w R}(h:BQ a0 a1 a2 w R):aH pg nY #[a0,a1,a2] w R:=
 vX (ann:=Dk) Try.f18 C0 [a0,a1,a2] EX 39 TryM.mixed Try.func18 (yO h jQ)
def FT:FA:=⟨mV,λi=> .leaf ([],[]) []⟩
def Hd:List ResultVar:=[.tmp 2]
noncomputable def EI:Code:=bM Try.f19
def AS(R:K1) cH w:=
 aH pg jH #[cH] w λb5 w=>
 aB pg (aE .neq 26 (.tmp 6) (.const (Wo 0)) b5 (Wo 0)) w λb7 w=>
 eU b7
  (R b5 w)
  (aH pg lQ #[cH] w λc0 w=>
  eU c0
   (R (Wo 20) w)
   (aB pg (lW cH) w λc4 w=>
   aB pg (aF 60 c4 2) w λc5 w=>
   aB pg (aD 57 c5) w λc6 w=>
   aH pg pK #[c6] w λc7 w=>
   aB pg (lW cH) w λc8 w=>
   aB pg (aF 60 c8 1) w λc9 w=>
   aB pg (aO 57 c9 c7) w λ_u w=>
   aB pg (lW cH) w λd0 w=>
   aB pg (aF 60 d0 3) w λd1 w=>
   aB pg (aO 58 d1 (.slice none 0 0)) w λ_u w=>
   R (Wo 0) w))
def DC a0 w(R:K1):=
 AS R a0 w
theorem EN{a0 w R}(h:DC a0 w R):aH pg mV #[a0] w R:=
 vX (ann:=FT) Try.f19 EI [a0] Hd 22 TryM.mixed Try.func19 (yO h jQ)
def EA:FA:=⟨pI,λi=> .leaf ([],[]) []⟩
def Gf:List ResultVar:=[.tmp 2]
noncomputable def Dr:Code:=bM Try.f20
def zZ(R:K1) cH w:=
 aB pg (aE .eql 25 (.tmp 3) (.const (.pointer none)) cH (.pointer none)) w λb4 w=>
 eU b4
  (R (.slice none 0 0) w)
  (aB pg (lW cH) w λb6 w=>
  aB pg (aF 60 b6 2) w λb7 w=>
  aB pg (aD 57 b7) w λb8 w=>
  aH pg qN #[b8] w λb9 w=>
  aH pg lS #[b9] w λc0 w=>
  R c0 w)
def CK a0 w(R:K1):=
 zZ R a0 w
theorem Dz{a0 w R}(h:CK a0 w R):aH pg pI #[a0] w R:=
 vX (ann:=EA) Try.f20 Dr [a0] Gf 11 TryM.mixed Try.func20 (yO h jQ)
def Ho:FA:=⟨jH,λi=> .leaf ([],[]) []⟩
def IL:List ResultVar:=[.tmp 2]
noncomputable def GF:Code:=bM Try.f21
def CN(R:K1) cH w:=
 aB pg (aE .eql 25 (.tmp 4) (.const (.pointer none)) cH (.pointer none)) w λb5 w=>
 eU b5
  (R (Wo 1) w)
  (aB pg (lW cH) w λb8 w=>
  aB pg (aF 60 b8 5) w λb9 w=>
  aB pg (aD 4 b9) w λc0 w=>
  eU c0
   (R (Wo 20) w)
   (R (Wo 0) w))
def GG a0 w(R:K1):=
 CN R a0 w
theorem GH{a0 w R}(h:GG a0 w R):aH pg jH #[a0] w R:=
 vX (ann:=Ho) Try.f21 GF [a0] IL 11 TryM.mixed Try.func21 (yO h jQ)
def KW:FA:=⟨vR,λi=> .leaf ([],[]) []⟩
def MA:List ResultVar:=[.tmp 2]
noncomputable def Ka:Code:=bM Try.f22
def H5 (R:K1) Qv w:=
 aB pg (lG .len #[9] 3 [Qv]) w λb4 w=>
 aB pg (aE .geq 3 aK aK b4 (Wo 1)) w λb5 w=>
 Gd (bB b5 true) (λK=>K Qv w) w λb7 w=>
 Gd (bB b5 true) (λK=>aB pg (lG .len #[9] 3 [b7]) w K) w λb8 w=>
 Gd (bB b5 true) (λK=>aB pg (aE .leq 3 aK aK b8 (Wo 32)) w K) w λb9 w=>
 aB pg (dW b5 b9 (.bool false)) w λc0 w=>
 R c0 w
def LX a0 w(R:K1):=
 H5 R a0 w
theorem Kb{a0 w R}(h:LX a0 w R):aH pg vR #[a0] w R:=
 vX (ann:=KW) Try.f22 Ka [a0] MA 11 TryM.mixed Try.func22 (yO h jQ)
def rF:FA:=⟨pJ,λi=> .leaf ([],[]) []⟩
def Gi:List ResultVar:=[.tmp 2]
noncomputable def pV:Code:=bM Try.f23
def sT(R:K1) LD w:=
 R LD w
def sU(kn:K2)(k0:K1) LD b7 w:=
 aB pg (MH b7 false 0) w λb8 w=>
 aB pg (cB b8 0) w λb9 w=>
 eU b9
  (aB pg (Ls b7) w λc0 w=>
  aB pg (cB c0 1) w λc1 w=>
  aB pg (lG .len #[23] 3 [c1]) w λc4 w=>
  aB pg (aE .add 3 aK aK LD c4) w λc5 w=>
  kn c5 b7 w)
  (k0 LD w)
def oB(k0:K1) LD b7 w:=
 bL (λ(X:Wn->K0) (t:Wn) (w:Wm)=>sU (λLD _ w=>X LD w) k0 t b7 w) LD w
theorem C7 (k0:K1)(h0:E1 Q k0 0 3)(h:oB k0 (g 3) (g 7) w):eI pg rF (bI (aM 1 (bN 1 (aM 2 pV)))) Q g w:=by
 refine Gv (λg:Env=>g 3) (λX t w=>sU (λLD _ w=>X LD w) k0 t (g 7) w) h (λX g1 w1 ha hL=> ?_)
 rw[<-mB 7 ha]at hL
 exact(Gt [(0,(Tt k0 3))] (kr:=no) (MZ (λLD _ w=>X LD w) 3 7) hL jQ GV ⟨h0,trivial⟩)
def Ad(kn:K2) Na LD w:=
 aB pg (HW 57 Na) w λb7 w=>
 kn LD b7 w
def sV(kn:K1) Na LD w:=
 Ad (oB kn) Na LD w
def sW(R:K1) Na LD w:=
 sV (sT R) Na LD w
theorem C8 (kn:K1)(hn:N1 Q kn 3)(h:sV kn (g 0) (g 3) w):eI pg rF (bN 1 (aM 2 pV)) Q g w:=
 kA 1 (pG (MZ (oB kn) 3 7) h (λg w h=>aI (CG 0 (C7 _ g w kn hn h))))
def Ae(kn:K2) Na w:=
 kn Na (Wo 0) w
def Af(R:K1) Na w:=
 Ae (sW R) Na w
def CO a0 w(R:K1):=
 Af R a0 w
theorem DH{a0 w R}(h:CO a0 w R):aH pg pJ #[a0] w R:=
 vX (ann:=rF) Try.f23 pV [a0] Gi 17 TryM.mixed Try.func23 (kA 2 (pG (MZ (sW R) 0 3) h (λg w h=>aI (kA 1 (C8 _ g w (sT R) (λg w h=>aI (yO h jQ)) h)))))
def FU:FA:=⟨kM,λi=>match Nat.beq i 3 with|true=> .leaf ([6,7,10],[(2,6),(3,6),(4,6)]) (fz 6 (ft [1,2,3] (ft [] (fz 2 (ft [] [])))))|false=>match Nat.beq i 4 with|true=> .leaf ([5],[]) (fz 5 (ft [] []))|false=> .leaf ([],[]) []⟩
def He:List ResultVar:=[.tmp 4]
noncomputable def EJ:Code:=bM Try.f24
def AT(R:K1) cH O4 w:=
 aB pg (AL 65 O4) w λnP w=>
 aH pg lQ #[cH] w λb6 w=>
 eU b6
  (R (Wo 20) w)
  ((dr w)=(dr w)/\
  (dr w)=(dr w)/\
  aB pg (lW cH) (dr w) λb9 w_=>w_=(dr w)/\
  aB pg (aF 60 b9 3) (dr w) λc0 w_=>w_=(dr w)/\
  aB pg (aD 58 c0) (dr w) λc1 w_=>w_=(dr w)/\
  aB pg (aD 65 nP) (dr w) λc2 w_=>w_=(dr w)/\
  aB pg (bZ 58 1 [(0,c2)]) (dr w) λc3 Sa=>
  (vS pg (aD 58 c0) c1 Sa/\vS pg (aF 60 b9 3) c0 Sa/\vS pg (lW cH) b9 Sa/\True)/\
  aB pg (lG .append #[58,58] 58 [c1,c3]) Sa λc4 AN=>
  aB pg (lW cH) AN λc5 w_=>w_=AN/\
  aB pg (aF 60 c5 3) AN λc6 w_=>w_=AN/\
  aB pg (aO 58 c6 c4) AN λ_u10 Ei=>
  (dr Ei)=(dr Ei)/\
  aB pg (lW cH) (dr Ei) λc8 w_=>w_=(dr Ei)/\
  aB pg (aF 60 c8 2) (dr Ei) λc9 w_=>w_=(dr Ei)/\
  aB pg (aD 57 c9) (dr Ei) λd0 w_=>w_=(dr Ei)/\
  aB pg (aD 65 nP) (dr Ei) λd1 w_=>w_=(dr Ei)/\
  aH pg oP #[d0,d1] (dr Ei) λd2 Um=>
  R (Wo 0) Um)
def DE a0 a1 w(R:K1):=
 AT R a0 a1 w
theorem EO{a0 a1 w R}(h:DE a0 a1 w R):aH pg kM #[a0,a1] w R:=
 vX (ann:=FU) Try.f24 EJ [a0,a1] He 23 TryM.mixed Try.func24 (yO h jQ)
def CY:FA:=⟨jT,λi=> .leaf ([],[]) []⟩
def Ed:List ResultVar:=[.tmp 2]
noncomputable def Ci:Code:=bM Try.f25
def yF(R:K1) Tu w:=
 aB pg (aE .eql 23 (.tmp 3) (.const (.slice none 0 0)) Tu (.slice none 0 0)) w λb4 w=>
 eU b4
  (R (.slice none 0 0) w)
  (aB pg (bZ 23 0 []) w λb5 w=>
  aB pg (lG .append #[23,23] 23 [b5,Tu]) w λb7 w=>
  R b7 w)
def Ba a0 w(R:K1):=
 yF R a0 w
theorem CA{a0 w R}(h:Ba a0 w R):aH pg jT #[a0] w R:=
 vX (ann:=CY) Try.f25 Ci [a0] Ed 8 TryM.mixed Try.func25 (yO h jQ)
def GA:FA:=⟨oP,λi=>match Nat.beq i 6 with|true=> .leaf ([6],[]) (fz 6 (ft [] []))|false=> .leaf ([],[]) []⟩
def HQ:List ResultVar:=[]
noncomputable def FZ:Code:=bM Try.f26
def BR(kn:K0) Na O4 w:=
 aB pg (AL 65 O4) w λnP w=>
 aB pg (aF 65 nP 1) w λb9 w=>
 aB pg (aD 9 b9) w λc0 w=>
 aB pg (uY 57 Na c0 true) w λc1 w=>
 aB pg (cB c1 0) w λc2 w=>
 aB pg (cB c1 1) w λc3 w=>
 aB pg (aF 65 nP 0) w λc4 w=>
 aB pg (aD 3 c4) w λc5 w=>
 aB pg (aE .eql 3 (.tmp 15) (.const (Wo 0)) c5 (Wo 0)) w λc7 w=>
 eU c7
  (aB pg (lG .len #[23] 3 [c2]) w λc9 w=>
  aB pg (aF 65 nP 3) w λd0 w=>
  aB pg (aD 3 d0) w λd1 w=>
  aB pg (aF 65 nP 4) w λd2 w=>
  aB pg (aD 23 d2) w λd3 w=>
  aB pg (lG .len #[23] 3 [d3]) w λd4 w=>
  aB pg (aE .add 3 aK aK d1 d4) w λd5 w=>
  aB pg (lG .max #[3,3] 3 [c9,d5]) w λd6 w=>
  aB pg (Ee 23 d6 d6) w λd7 w=>
  aB pg (lG .copy #[23,23] 3 [d7,c2]) w λe0 w=>
  (dr w)=(dr w)/\
  aB pg (aF 65 nP 3) (dr w) λe2 w_=>w_=(dr w)/\
  aB pg (aD 3 e2) (dr w) λe3 w_=>w_=(dr w)/\
  aB pg (wJ 23 d7 (some e3) none none) (dr w) λe4 w_=>w_=(dr w)/\
  aB pg (aF 65 nP 4) (dr w) λe5 w_=>w_=(dr w)/\
  aB pg (aD 23 e5) (dr w) λe6 w_=>w_=(dr w)/\
  aB pg (lG .copy #[23,23] 3 [e4,e6]) (dr w) λe7 Up=>
  aB pg (aF 65 nP 1) Up λe9 w=>
  aB pg (aD 9 e9) w λf0 w=>
  aB pg (Gk 57 Na f0 d7) w λ_u w=>
  kn w)
  (aB pg (aE .eql 3 (.tmp 15) (.const (Wo 1)) c5 (Wo 1)) w λf3 w=>
  eU f3
   (eU c3
    (aB pg (aF 65 nP 1) w λf6 w=>
    aB pg (aD 9 f6) w λf7 w=>
    aB pg (lG .delete #[57,9] 0 [Na,f7]) w λ_u w=>
    aB pg (aF 65 nP 2) w λf9 w=>
    aB pg (aD 9 f9) w λi0 w=>
    aB pg (Gk 57 Na i0 c2) w λ_u w=>
    kn w)
    (kn w))
   (aB pg (aE .eql 3 (.tmp 15) (.const (Wo 2)) c5 (Wo 2)) w λi3 w=>
   eU i3
    (aB pg (aF 65 nP 1) w λi5 w=>
    aB pg (aD 9 i5) w λi6 w=>
    aB pg (lG .delete #[57,9] 0 [Na,i6]) w λ_u w=>
    kn w)
    (kn w)))
def Fb a0 a1 w(R:K1):=
 BR (λw=>R (.tuple #[]) w) a0 a1 w
theorem F2 {a0 a1 w R}(h:Fb a0 a1 w R):aH pg oP #[a0,a1] w R:=
 vX (ann:=GA) Try.f26 FZ [a0,a1] HQ 57 TryM.mixed Try.func26 (pG (MY (λw=>R (.tuple #[]) w)) h jQ)
def J6:FA:=⟨lR,λi=> .leaf ([],[]) []⟩
def Lq:List ResultVar:=[.cell 4 41,.tmp 5]
noncomputable def Jc:Code:=bM Try.f28
def GZ(R:K1) cH O4 w:=
 aB pg (AL 41 cH) w λvW w=>
 aB pg (AL 71 O4) w λnP w=>
 aB pg (lM 41) w λb4 w=>
 aB pg (aD 41 vW) w λb9 w=>
 aB pg (aD 71 nP) w λc0 w=>
 aH pg zB #[b9,c0] w λc1 w=>
 aB pg (aE .neq 26 (.tmp 12) (.const (Wo 0)) c1 (Wo 0)) w λc3 w=>
 eU c3
  (aB pg (aD 41 vW) w λc4 w=>
  aB pg (aO 41 b4 c4) w λ_u w=>
  Iq pg 41 b4 w λr0=>R (.tuple #[r0,c1]) w)
  (aB pg (aD 41 vW) w λc7 w=>
  aH pg rO #[c7] w λc8 w=>
  aB pg (cB c8 0) w λc9 w=>
  aB pg (cB c8 1) w λd0 w=>
  aB pg (aO 41 vW c9) w λ_u w=>
  eU d0
   (aB pg (aD 41 vW) w λd2 w=>
   aB pg (aO 41 b4 d2) w λ_u w=>
   Iq pg 41 b4 w λr0=>R (.tuple #[r0,(Wo 20)]) w)
   (aB pg (aF 41 vW 2) w λd4 w=>
   aB pg (aD 39 d4) w λd5 w=>
   aB pg (lG .append #[39,39] 39 [(.slice none 0 0),d5]) w λd6 w=>
   aB pg (aD 71 nP) w λd8 w=>
   aB pg (bZ 39 1 [(0,d8)]) w λd9 w=>
   aB pg (lG .append #[39,39] 39 [d6,d9]) w λe0 w=>
   aB pg (aF 41 vW 2) w λe1 w=>
   aB pg (aO 39 e1 e0) w λ_u w=>
   aB pg (aD 41 vW) w λe2 w=>
   aB pg (aO 41 b4 e2) w λ_u w=>
   Iq pg 41 b4 w λr0=>R (.tuple #[r0,(Wo 0)]) w))
def KI a0 a1 w(R:K1):=
 GZ R a0 a1 w
theorem JF{a0 a1 w R}(h:KI a0 a1 w R):aH pg lR #[a0,a1] w R:=
 vX (ann:=J6) Try.f28 Jc [a0,a1] Lq 33 TryM.mixed Try.func28 (yO h jQ)
def Ja:FA:=⟨uJ,λi=> .leaf ([],[]) []⟩
def Kl:List ResultVar:=[.cell 2 41,.tmp 3]
noncomputable def Iw:Code:=bM Try.f29
def Fy(R:K1) cH w:=
 aB pg (AL 41 cH) w λDx w=>
 aB pg (lM 41) w λb2 w=>
 aB pg (aF 41 Dx 4) w λb5 w=>
 aB pg (aD 4 b5) w λb6 w=>
 eU b6
  (aB pg (aD 41 Dx) w λb7 w=>
  aB pg (aO 41 b2 b7) w λ_u w=>
  Iq pg 41 b2 w λr0=>R (.tuple #[r0,(Wo 20)]) w)
  (aB pg (aD 41 Dx) w λb9 w=>
  aH pg rO #[b9] w λc0 w=>
  aB pg (cB c0 0) w λc1 w=>
  aB pg (cB c0 1) w λc2 w=>
  aB pg (aO 41 Dx c1) w λ_u w=>
  eU c2
   (aB pg (aD 41 Dx) w λc4 w=>
   aB pg (aO 41 b2 c4) w λ_u w=>
   Iq pg 41 b2 w λr0=>R (.tuple #[r0,(Wo 20)]) w)
   (aB pg (aD 41 Dx) w λc5 w=>
   aH pg nZ #[c5] w λc6 w=>
   aB pg (aF 41 Dx 1) w λc7 w=>
   aB pg (aO 38 c7 c6) w λ_u w=>
   aB pg (aF 41 Dx 2) w λc8 w=>
   aB pg (aO 39 c8 (.slice none 0 0)) w λ_u w=>
   aB pg (aD 41 Dx) w λc9 w=>
   aB pg (aO 41 b2 c9) w λ_u w=>
   Iq pg 41 b2 w λr0=>R (.tuple #[r0,(Wo 0)]) w))
def JL a0 w(R:K1):=
 Fy R a0 w
theorem II{a0 w R}(h:JL a0 w R):aH pg uJ #[a0] w R:=
 vX (ann:=Ja) Try.f29 Iw [a0] Kl 20 TryM.mixed Try.func29 (yO h jQ)
def yH:FA:=⟨rN,λi=>match Nat.beq i 5 with|true=> .leaf ([7,9],[]) (fz 7 (ft [] (fz 1 (ft [] []))))|false=> .leaf ([],[]) []⟩
def JR:List ResultVar:=[.cell 4 41]
noncomputable def vT:Code:=bM Try.f30
def uW(R:K1) vW b4 w:=
 aB pg (aF 41 vW 2) w λe2 w=>
 aB pg (aO 39 e2 (.slice none 0 0)) w λ_u w=>
 aB pg (aF 41 vW 4) w λe3 w=>
 aB pg (aO 4 e3 (.bool false)) w λ_u w=>
 aB pg (aF 41 vW 3) w λe4 w=>
 aB pg (aO 3 e4 (Wo (-1))) w λ_u w=>
 aB pg (aD 41 vW) w λe5 w=>
 aB pg (aO 41 b4 e5) w λ_u w=>
 Iq pg 41 b4 w λr0=>R r0 w
def Av(kn:K4) cZ vW b4 Ah w:=
 aB pg (aE .add 3 aK aK Ah (Wo 1)) w λc8 w=>
 kn cZ vW b4 c8 w
def DW(kn:K4)(k0:K2) cZ vW b4 Ah w:=
 aB pg (aF 41 vW 2) w λb7 w=>
 aB pg (aD 39 b7) w λb8 w=>
 aB pg (lG .len #[39] 3 [b8]) w λb9 w=>
 aB pg (aE .lss 3 aK aK Ah b9) w λc0 w=>
 Gd (bB c0 true) (λK=>K Ah w) w λc2 w=>
 Gd (bB c0 true) (λK=>K cZ w) w λc3 w=>
 Gd (bB c0 true) (λK=>aB pg (lG .len #[22] 3 [c3]) w K) w λc4 w=>
 Gd (bB c0 true) (λK=>aB pg (aE .lss 3 aK aK c2 c4) w K) w λc5 w=>
 aB pg (dW c0 c5 (.bool false)) w λc6 w=>
 eU c6
  (aB pg (aL 22 cZ Ah) w λd1 w=>
  aB pg (aD 4 d1) w λd2 w=>
  eU d2
   (aB pg (aF 41 vW 1) (dr w) λd3 w_=>w_=(dr w)/\
   aB pg (aD 38 d3) (dr w) λd4 w_=>w_=(dr w)/\
   aB pg (aF 41 vW 2) (dr w) λd5 w_=>w_=(dr w)/\
   aB pg (aD 39 d5) (dr w) λd6 w_=>w_=(dr w)/\
   (dr w)=(dr w)/\
   aB pg (aL 39 d6 Ah) (dr w) λd8 w_=>w_=(dr w)/\
   aB pg (aD 71 d8) (dr w) λd9 w_=>w_=(dr w)/\
   aH pg sM #[d4,d9] (dr w) λe0 Tq=>
   aB pg (aF 41 vW 1) Tq λe1 w_=>w_=Tq/\
   aB pg (aO 38 e1 e0) Tq λ_u9 Uo=>
   kn cZ vW b4 Ah Uo)
   (kn cZ vW b4 Ah w))
  (k0 vW b4 w)
def Aw(kn:K4)(k0:K2) cZ vW b4 Ah w:=
 DW (Av kn) k0 cZ vW b4 Ah w
def uX(k0:K2) cZ vW b4 Ah w:=
 bL (λ(X:Wn->K0) (t:Wn) (w:Wm)=>Aw (λ_ _ _ Ah w=>X Ah w) k0 cZ vW b4 t w) Ah w
theorem G0 (k0:K2)(h0:E2 Q k0 0 2 4)(h:uX k0 (g 1) (g 2) (g 4) (g 5) w):eI pg yH (bI (aM 1 (bN 1 (aM 1 vT)))) Q g w:=by
 refine Gv (λg:Env=>g 5) (λX t w=>Aw (λ_ _ _ Ah w=>X Ah w) k0 (g 1) (g 2) (g 4) t w) h (λX g1 w1 ha hL=> ?_)
 rw[<-mB 1 ha,<-mB 2 ha,<-mB 4 ha]at hL
 exact(kA 2 (Gt [(0,(MZ k0 2 4))] (kr:=no) (CW (Av (λ_ _ _ Ah w=>X Ah w)) 1 2 4 5) hL (λg w h=>aI (pG (CW (λ_ _ _ Ah w=>X Ah w) 1 2 4 5) h jQ)) GV ⟨h0,trivial⟩))
def DX(kn:K4) cZ vW b4 w:=
 kn cZ vW b4 (Wo 0) w
def Ax(kn:K2) cZ vW b4 w:=
 DX (uX kn) cZ vW b4 w
def Ay(R:K1) cZ vW b4 w:=
 Ax (uW R) cZ vW b4 w
theorem G1 (kn:K2)(hn:N2 Q kn 2 4)(h:Ax kn (g 1) (g 2) (g 4) w):eI pg yH (bN 1 (aM 1 vT)) Q g w:=
 kA 1 (pG (CW (uX kn) 1 2 4 5) h (λg w h=>aI (CG 0 (G0 _ g w kn hn h))))
def CU(kn:K3) cH cZ w:=
 aB pg (AL 41 cH) w λvW w=>
 aB pg (lM 41) w λb4 w=>
 kn cZ vW b4 w
def CV(R:K1) cH cZ w:=
 CU (Ay R) cH cZ w
def Ii a0 a1 w(R:K1):=
 CV R a0 a1 w
theorem HE{a0 a1 w R}(h:Ii a0 a1 w R):aH pg rN #[a0,a1] w R:=
 vX (ann:=yH) Try.f30 vT [a0,a1] JR 36 TryM.mixed Try.func30 (kA 1 (pG (KT (Ay R) 1 2 4) h (λg w h=>aI (kA 1 (G1 _ g w (uW R) (λg w h=>aI (yO h jQ)) h)))))
def I9:FA:=⟨uI,λi=> .leaf ([],[]) []⟩
def Kj:List ResultVar:=[.tmp 4,.tmp 5]
noncomputable def Iv:Code:=bM Try.f31
def Fu(R:K1) cH cK w:=
 aB pg (AL 41 cH) w λvW w=>
 aB pg (aF 41 vW 4) w λb8 w=>
 aB pg (aD 4 b8) w λb9 w=>
 eU b9
  (R (.tuple #[(.string ⟨#[]⟩),(Wo 20)]) w)
  (aB pg (aD 41 vW) w λc0 w=>
  aH pg nZ #[c0] w λc1 w=>
  aH pg qO #[c1,cK] w λc4 w=>
  aB pg (aE .lss 3 aK aK c4 (Wo 0)) w λc6 w=>
  eU c6
   (R (.tuple #[(.string ⟨#[]⟩),(Wo 21)]) w)
   (aB pg (aL 38 c1 c4) w λc9 w=>
   aB pg (aF 78 c9 1) w λd0 w=>
   aB pg (aD 9 d0) w λd1 w=>
   R (.tuple #[d1,(Wo 0)]) w))
def JJ a0 a1 w(R:K1):=
 Fu R a0 a1 w
theorem IG{a0 a1 w R}(h:JJ a0 a1 w R):aH pg uI #[a0,a1] w R:=
 vX (ann:=I9) Try.f31 Iv [a0,a1] Kj 22 TryM.mixed Try.func31 (yO h jQ)
def zS:FA:=⟨nZ,λi=> .leaf ([],[]) []⟩
def Kk:List ResultVar:=[.tmp 2]
noncomputable def yK:Code:=bM Try.f32
def Bx(R:K1) LC w:=
 R LC w
def By(kn:K3)(k0:K1) Dx LC Qd w:=
 aB pg (aF 41 Dx 2) w λb8 w=>
 aB pg (aD 39 b8) w λb9 w=>
 aB pg (lG .len #[39] 3 [b9]) w λc0 w=>
 aB pg (aE .lss 3 aK aK Qd c0) w λc1 w=>
 eU c1
  (aB pg (aF 41 Dx 2) w λc5 w=>
  aB pg (aD 39 c5) w λc6 w=>
  aB pg (aL 39 c6 Qd) w λc8 w=>
  aB pg (aD 71 c8) w λc9 w=>
  aH pg sM #[LC,c9] w λd0 w=>
  aB pg (aE .add 3 aK aK Qd (Wo 1)) w λc3 w=>
  kn Dx d0 c3 w)
  (k0 LC w)
def xC(k0:K1) Dx LC Qd w:=
 bL (λ(X:(Wn×Wn)->K0) (t:Wn×Wn) (w:Wm)=>By (λ_ LC Qd w=>X (LC,Qd) w) k0 Dx t.1 t.2 w) (LC,Qd) w
theorem HI(k0:K1)(h0:E1 Q k0 0 3)(h:xC k0 (g 1) (g 3) (g 4) w):eI pg zS (bI (aM 1 (bN 1 (aM 2 yK)))) Q g w:=by
 refine Gv (λg:Env=>(g 3,g 4)) (λX t w=>By (λ_ LC Qd w=>X (LC,Qd) w) k0 (g 1) t.1 t.2 w) h (λX g1 w1 ha hL=> ?_)
 rw[<-mB 1 ha]at hL
 exact(Gt [(0,(Tt k0 3))] (kr:=no) (KT (λ_ LC Qd w=>X (LC,Qd) w) 1 3 4) hL jQ GV ⟨h0,trivial⟩)
def Fv(kn:K3) Dx LC w:=
 kn Dx LC (Wo 0) w
def Bz(kn:K1) Dx LC w:=
 Fv (xC kn) Dx LC w
def BA(R:K1) Dx LC w:=
 Bz (Bx R) Dx LC w
theorem HJ(kn:K1)(hn:N1 Q kn 3)(h:Bz kn (g 1) (g 3) w):eI pg zS (bN 1 (aM 2 yK)) Q g w:=
 kA 1 (pG (KT (xC kn) 1 3 4) h (λg w h=>aI (CG 0 (HI _ g w kn hn h))))
def Fw(kn:K2) cH w:=
 aB pg (AL 41 cH) w λDx w=>
 aB pg (aF 41 Dx 1) w λb5 w=>
 aB pg (aD 38 b5) w λb6 w=>
 kn Dx b6 w
def Fx(R:K1) cH w:=
 Fw (BA R) cH w
def JK a0 w(R:K1):=
 Fx R a0 w
theorem IH{a0 w R}(h:JK a0 w R):aH pg nZ #[a0] w R:=
 vX (ann:=zS) Try.f32 yK [a0] Kk 22 TryM.mixed Try.func32 (kA 2 (pG (MZ (BA R) 1 3) h (λg w h=>aI (kA 1 (HJ _ g w (Bx R) (λg w h=>aI (yO h jQ)) h)))))
def EC:FA:=⟨lQ,λi=> .leaf ([],[]) []⟩
def Gh:List ResultVar:=[.tmp 2]
noncomputable def Dt:Code:=bM Try.f33
def kQ(R:K1) cH w:=
 aB pg (lW cH) w λd6 w=>
 aB pg (aF 60 d6 5) w λd7 w=>
 aB pg (aD 4 d7) w λd8 w=>
 R d8 w
def Ab(kn:K1) cH w:=
 aB pg (lW cH) w λb5 w=>
 aB pg (aF 60 b5 4) w λb6 w=>
 aB pg (aD 3 b6) w λb7 w=>
 aB pg (aE .eql 3 (.tmp 7) (.const (Wo 0)) b7 (Wo 0)) w λb8 w=>
 eU b8
  (aB pg (lW cH) w λc0 w=>
  aB pg (aF 60 c0 5) w λc1 w=>
  aB pg (aO 4 c1 (.bool true)) w λ_u w=>
  kn cH w)
  (aB pg (lW cH) w λc4 w=>
  aB pg (aF 60 c4 4) w λc5 w=>
  aB pg (aD 3 c5) w λc6 w=>
  aB pg (aE .gtr 3 aK aK c6 (Wo 0)) w λc7 w=>
  eU c7
   (aB pg (lW cH) w λc9 w=>
   aB pg (aF 60 c9 4) w λd0 w=>
   aB pg (aD 3 d0) w λd1 w=>
   aB pg (aE .sub 3 aK aK d1 (Wo 1)) w λd2 w=>
   aB pg (lW cH) w λd3 w=>
   aB pg (aF 60 d3 4) w λd4 w=>
   aB pg (aO 3 d4 d2) w λ_u w=>
   kn cH w)
   (kn cH w))
def Ac(R:K1) cH w:=
 Ab (kQ R) cH w
def CM a0 w(R:K1):=
 Ac R a0 w
theorem DF{a0 w R}(h:CM a0 w R):aH pg lQ #[a0] w R:=
 vX (ann:=EC) Try.f33 Dt [a0] Gh 29 TryM.mixed Try.func33 (kA 2 (pG (Tt (kQ R) 0) h (λg w h=>aI (yO h jQ))))
def Cg:FA:=⟨lS,λi=> .leaf ([],[]) []⟩
def Df:List ResultVar:=[.tmp 2]
noncomputable def BO:Code:=bM Try.f34
def vN(R:K1) QV w:=
 aH pg pF #[QV] w λb5 w=>
 aH pg iT #[b5] w λb7 w=>
 R b5 w
def AE a0 w(R:K1):=
 vN R a0 w
theorem B9 {a0 w R}(h:AE a0 w R):aH pg lS #[a0] w R:=
 vX (ann:=Cg) Try.f34 BO [a0] Df 9 TryM.mixed Try.func34 (yO h jQ)
def FV:FA:=⟨qN,λi=> .leaf ([],[]) []⟩
def Hf:List ResultVar:=[.tmp 2]
noncomputable def EK:Code:=bM Try.f35
def A5 (R:K1) UL w:=
 aB pg (AL 57 UL) w λUM w=>
 aB pg (MG (.func 43) [] [UM]) w λb3 w=>
 R b3 w
def DT a0 w(R:K1):=
 A5 R a0 w
theorem ES{a0 w R}(h:DT a0 w R):aH pg qN #[a0] w R:=
 vX (ann:=FV) Try.f35 EK [a0] Hf 4 TryM.mixed Try.func35 (yO h jQ)
def zT:FA:=⟨zB,λi=>match Nat.beq i 12 with|true=> .leaf ([],[]) (fz 22 [])|false=> .leaf ([],[]) []⟩
def Km:List ResultVar:=[.tmp 4]
noncomputable def yL:Code:=bM Try.f37
def BB(R:K1) vW LF w:=
 aB pg (aF 41 vW 0) w λo4 w=>
 aB pg (aD 3 o4) w λo5 w=>
 aB pg (aE .gtr 3 aK aK LF o5) w λo6 w=>
 eU o6
  (R (Wo 22) w)
  (R (Wo 0) w)
def BC(kn:K4)(k0:K2) vW Jr LF Ql w:=
 aB pg (lG .len #[38] 3 [Jr]) w λn1 w=>
 aB pg (aE .lss 3 aK aK Ql n1) w λn2 w=>
 eU n2
  (aB pg (aL 38 Jr Ql) w λn8 w=>
  aB pg (aF 78 n8 1) w λn9 w=>
  aB pg (aD 9 n9) w λo0 w=>
  aB pg (lG .len #[9] 3 [o0]) w λo1 w=>
  aB pg (aE .add 3 aK aK LF o1) w λo2 w=>
  aB pg (aE .add 3 aK aK Ql (Wo 1)) w λn4 w=>
  kn vW Jr o2 n4 w)
  (k0 vW LF w)
def xE(k0:K2) vW Jr LF Ql w:=
 bL (λ(X:(Wn×Wn)->K0) (t:Wn×Wn) (w:Wm)=>BC (λ_ _ LF Ql w=>X (LF,Ql) w) k0 vW Jr t.1 t.2 w) (LF,Ql) w
theorem HK(k0:K2)(h0:E2 Q k0 0 2 8)(h:xE k0 (g 2) (g 6) (g 8) (g 9) w):eI pg zT (bI (aM 1 (bN 1 (aM 10 yL)))) Q g w:=by
 refine Gv (λg:Env=>(g 8,g 9)) (λX t w=>BC (λ_ _ LF Ql w=>X (LF,Ql) w) k0 (g 2) (g 6) t.1 t.2 w) h (λX g1 w1 ha hL=> ?_)
 rw[<-mB 2 ha,<-mB 6 ha]at hL
 exact(Gt [(0,(MZ k0 2 8))] (kr:=no) (CW (λ_ _ LF Ql w=>X (LF,Ql) w) 2 6 8 9) hL jQ GV ⟨h0,trivial⟩)
def Fz(kn:K4) vW Jr LF w:=
 kn vW Jr LF (Wo 0) w
def BD(kn:K2) vW Jr LF w:=
 Fz (xE kn) vW Jr LF w
def rV(R:K1) vW Jr LF w:=
 BD (BB R) vW Jr LF w
theorem HL(kn:K2)(hn:N2 Q kn 2 8)(h:BD kn (g 2) (g 6) (g 8) w):eI pg zT (bN 1 (aM 10 yL)) Q g w:=
 kA 1 (pG (CW (xE kn) 2 6 8 9) h (λg w h=>aI (CG 0 (HK _ g w kn hn h))))
def FC(kn:K3)(R:K1) cH O4 w:=
 aB pg (AL 41 cH) w λvW w=>
 aB pg (AL 71 O4) w λnP w=>
 aB pg (aF 41 vW 4) w λc0 w=>
 aB pg (aD 4 c0) w λc1 w=>
 eU c1
  (R (Wo 20) w)
  (aB pg (aF 71 nP 1) w λc2 w=>
  aB pg (aD 9 c2) w λc3 w=>
  aB pg (aE .eql 9 (.tmp 13) (.const (.string ⟨#[]⟩)) c3 (.string ⟨#[]⟩)) w λc4 w=>
  Gd (bB c4 false) (λK=>aB pg (aF 71 nP 1) w K) w λc6 w=>
  Gd (bB c4 false) (λK=>aB pg (aD 9 c6) w K) w λc7 w=>
  Gd (bB c4 false) (λK=>aB pg (lG .len #[9] 3 [c7]) w K) w λc8 w=>
  Gd (bB c4 false) (λK=>aB pg (aE .gtr 3 aK aK c8 (Wo 32)) w K) w λc9 w=>
  aB pg (dW c4 (.bool true) c9) w λd0 w=>
  aB pg (aF 71 nP 0) w λd1 w=>
  aB pg (aD 3 d1) w λd2 w=>
  aB pg (aE .eql 3 (.tmp 22) (.const (Wo 1)) d2 (Wo 1)) w λd3 w=>
  Gd (bB d3 true) (λK=>aB pg (aF 71 nP 2) w K) w λd5 w=>
  Gd (bB d3 true) (λK=>aB pg (aD 9 d5) w K) w λd6 w=>
  Gd (bB d3 true) (λK=>aB pg (aE .eql 9 (.tmp 26) (.const (.string ⟨#[]⟩)) d6 (.string ⟨#[]⟩)) w K) w λd7 w=>
  Gd (bB d3 true) (λK=>K d7 w) w λd8 w=>
  Gd (bB d8 false) (λK=>aB pg (aF 71 nP 2) w K) w λd9 w=>
  Gd (bB d8 false) (λK=>aB pg (aD 9 d9) w K) w λe0 w=>
  Gd (bB d8 false) (λK=>aB pg (lG .len #[9] 3 [e0]) w K) w λe1 w=>
  Gd (bB d8 false) (λK=>aB pg (aE .gtr 3 aK aK e1 (Wo 32)) w K) w λe2 w=>
  Gd (bB d3 true) (λK=>aB pg (dW d8 (.bool true) e2) w K) w λe3 w=>
  aB pg (dW d3 e3 (.bool false)) w λe4 w=>
  Gd (bB e4 false) (λK=>aB pg (aF 71 nP 0) w K) w λe6 w=>
  Gd (bB e4 false) (λK=>aB pg (aD 3 e6) w K) w λe7 w=>
  Gd (bB e4 false) (λK=>aB pg (aE .eql 3 (.tmp 37) (.const (Wo 0)) e7 (Wo 0)) w K) w λe8 w=>
  Gd (bB e4 false) (λK=>K e8 w) w λe9 w=>
  Gd (bB e9 true) (λK=>aB pg (aF 71 nP 3) w K) w λf0 w=>
  Gd (bB e9 true) (λK=>aB pg (aD 3 f0) w K) w λf1 w=>
  Gd (bB e9 true) (λK=>aB pg (aE .lss 3 aK aK f1 (Wo 0)) w K) w λf2 w=>
  Gd (bB e4 false) (λK=>aB pg (dW e9 f2 (.bool false)) w K) w λf3 w=>
  aB pg (dW e4 (.bool true) f3) w λf4 w=>
  Gd (bB f4 false) (λK=>aB pg (aF 71 nP 0) w K) w λf6 w=>
  Gd (bB f4 false) (λK=>aB pg (aD 3 f6) w K) w λf7 w=>
  Gd (bB f4 false) (λK=>aB pg (aE .lss 3 aK aK f7 (Wo 2)) w K) w λf8 w=>
  Gd (bB f4 false) (λK=>K f8 w) w λf9 w=>
  Gd (bB f9 true) (λK=>K d0 w) w λi0 w=>
  Gd (bB f4 false) (λK=>aB pg (dW f9 i0 (.bool false)) w K) w λi1 w=>
  aB pg (dW f4 (.bool true) i1) w λi2 w=>
  eU i2
   (R (Wo 1) w)
   (aB pg (aD 41 vW) w λi3 w=>
   aH pg nZ #[i3] w λi4 w=>
   aB pg (aF 71 nP 1) w λi6 w=>
   aB pg (aD 9 i6) w λi7 w=>
   aH pg qO #[i4,i7] w λi8 w=>
   aB pg (aF 71 nP 0) w λi9 w=>
   aB pg (aD 3 i9) w λj0 w=>
   aB pg (aE .gtr 3 aK aK j0 (Wo 0)) w λj1 w=>
   eU j1
    (aB pg (aE .lss 3 aK aK i8 (Wo 0)) w λj3 w=>
    eU j3
     (R (Wo 21) w)
     (R (Wo 0) w))
    ((dr w)=(dr w)/\
    aB pg (aE .lss 3 aK aK i8 (Wo 0)) (dr w) λj5 w_=>w_=(dr w)/\
    (dr w)=(dr w)/\
    Gd (bB j5 true) (λK=>aB pg (aF 71 nP 3) (dr w) K) (dr w) λj7 w_=>w_=(dr w)/\
    Gd (bB j5 true) (λK=>aB pg (aD 3 j7) (dr w) K) (dr w) λj8 w_=>w_=(dr w)/\
    Gd (bB j5 true) (λK=>aB pg (aE .gtr 3 aK aK j8 (Wo 0)) (dr w) K) (dr w) λj9 w_=>w_=(dr w)/\
    aB pg (dW j5 j9 (.bool false)) (dr w) λl0 w_=>w_=(dr w)/\
    (dr w)=(dr w)/\
    Gd (bB l0 false) (λK=>K i8 (dr w)) (dr w) λl2 w_=>w_=(dr w)/\
    Gd (bB l0 false) (λK=>aB pg (aE .geq 3 aK aK l2 (Wo 0)) (dr w) K) (dr w) λl3 w_=>w_=(dr w)/\
    Gd (bB l0 false) (λK=>K l3 (dr w)) (dr w) λl4 w_=>w_=(dr w)/\
    Gd (bB l4 true) (λK=>aB pg (aF 71 nP 3) (dr w) K) (dr w) λl5 w_=>w_=(dr w)/\
    Gd (bB l4 true) (λK=>aB pg (aD 3 l5) (dr w) K) (dr w) λl6 w_=>w_=(dr w)/\
    Gd (bB l4 true) (λK=>K i4 (dr w)) (dr w) λl7 w_=>w_=(dr w)/\
    Gd (bB l4 true) (λK=>K i8 (dr w)) (dr w) λl8 w_=>w_=(dr w)/\
    Gd (bB l4 true) (λK=>aB pg (aL 38 l7 l8) (dr w) K) (dr w) λl9 w_=>w_=(dr w)/\
    Gd (bB l4 true) (λK=>aB pg (aF 78 l9 1) (dr w) K) (dr w) λm0 w_=>w_=(dr w)/\
    Gd (bB l4 true) (λK=>aB pg (aD 9 m0) (dr w) K) (dr w) λm1 w_=>w_=(dr w)/\
    Gd (bB l4 true) (λK=>aB pg (lG .len #[9] 3 [m1]) (dr w) K) (dr w) λm2 w_=>w_=(dr w)/\
    Gd (bB l4 true) (λK=>aB pg (aE .gtr 3 aK aK l6 m2) (dr w) K) (dr w) λm3 w_=>w_=(dr w)/\
    Gd (bB l0 false) (λK=>aB pg (dW l4 m3 (.bool false)) (dr w) K) (dr w) λm4 w_=>w_=(dr w)/\
    aB pg (dW l0 (.bool true) m4) (dr w) λm5 w_=>w_=(dr w)/\
    eU m5
     (R (Wo 17) (dr w))
     (aB pg (aD 71 nP) (dr w) λm7 w=>
     aH pg sM #[i4,m7] w λm8 w=>
     kn vW m8 (Wo 0) w))))
def FD(R:K1) cH O4 w:=
 FC (rV R) R cH O4 w
def JM a0 a1 w(R:K1):=
 FD R a0 a1 w
theorem IJ{a0 a1 w R}(h:JM a0 a1 w R):aH pg zB #[a0,a1] w R:=
 vX (ann:=zT) Try.f37 yL [a0,a1] Km 107 TryM.mixed Try.func37 (kA 10 (Px (KT (rV R) 2 6 8) h (λg w h=>aI (kA 1 (HL _ g w (BB R) (λg w h=>aI (yO h jQ)) h))) jQ))
def Iu:FA:=⟨rO,λi=> .leaf ([],[]) []⟩
def JS:List ResultVar:=[.cell 2 41,.tmp 3]
noncomputable def Hs:Code:=bM Try.f38
def Az(R:K1) Dx b2 w:=
 aB pg (aD 41 Dx) w λc6 w=>
 aB pg (aO 41 b2 c6) w λ_u w=>
 Iq pg 41 b2 w λr0=>R (.tuple #[r0,(.bool false)]) w
def Ea(kn:K2)(R:K1) cH w:=
 aB pg (AL 41 cH) w λDx w=>
 aB pg (lM 41) w λb2 w=>
 aB pg (aF 41 Dx 3) w λb4 w=>
 aB pg (aD 3 b4) w λb5 w=>
 aB pg (aE .eql 3 (.tmp 5) (.const (Wo 0)) b5 (Wo 0)) w λb6 w=>
 eU b6
  (aB pg (aF 41 Dx 4) w λb7 w=>
  aB pg (aO 4 b7 (.bool true)) w λ_u w=>
  aB pg (aD 41 Dx) w λb8 w=>
  aB pg (aO 41 b2 b8) w λ_u w=>
  Iq pg 41 b2 w λr0=>R (.tuple #[r0,(.bool true)]) w)
  (aB pg (aF 41 Dx 3) w λb9 w=>
  aB pg (aD 3 b9) w λc0 w=>
  aB pg (aE .gtr 3 aK aK c0 (Wo 0)) w λc1 w=>
  eU c1
   (aB pg (aF 41 Dx 3) w λc2 w=>
   aB pg (aD 3 c2) w λc3 w=>
   aB pg (aE .sub 3 aK aK c3 (Wo 1)) w λc4 w=>
   aB pg (aF 41 Dx 3) w λc5 w=>
   aB pg (aO 3 c5 c4) w λ_u w=>
   kn Dx b2 w)
   (kn Dx b2 w))
def Eb(R:K1) cH w:=
 Ea (Az R) R cH w
def Il a0 w(R:K1):=
 Eb R a0 w
theorem HM{a0 w R}(h:Il a0 w R):aH pg rO #[a0] w R:=
 vX (ann:=Iu) Try.f38 Hs [a0] JS 17 TryM.mixed Try.func38 (kA 3 (Px (MZ (Az R) 1 2) h (λg w h=>aI (yO h jQ)) jQ))
def qP:FA:=⟨sM,λi=>match Nat.beq i 12 with|true=> .leaf ([10],[]) (fz 10 (ft [] []))|false=> .leaf ([],[]) []⟩
def Im:List ResultVar:=[.tmp 4]
noncomputable def pD:Code:=bM Try.f39
def DY(R:K1) jR w:=
 R jR w
def Ij(kn:K1)(R:K1) jR nP Ah vJ w:=
 aB pg (aE .lss 3 aK aK Ah (Wo 0)) w λj2 w=>
 eU j2
  (R jR w)
  (aB pg (aF 71 nP 1) w λj5 w=>
  aB pg (aD 9 j5) w λj6 w=>
  aH pg oS #[jR,j6] w λj7 w=>
  aB pg (aF 71 nP 0) w λj8 w=>
  aB pg (aD 3 j8) w λj9 w=>
  aB pg (aE .eql 3 (.tmp 69) (.const (Wo 1)) j9 (Wo 1)) w λl0 w=>
  eU l0
   (aB pg (aF 71 nP 2) w λl2 w=>
   aB pg (aD 9 l2) w λl3 w=>
   aB pg (lA 78 [(0,l3),(1,vJ)]) w λl5 w=>
   aH pg uK #[j7,l5] w λl6 w=>
   kn l6 w)
   (kn j7 w))
def DZ(R:K1) jR nP Ah vJ w:=
 Ij (DY R) R jR nP Ah vJ w
def D3 (R:K1) jR nP Hp w:=
 aB pg (aF 71 nP 1) w λi5 w=>
 aB pg (aD 9 i5) w λi6 w=>
 aB pg (rH 23 9 Hp) w λi8 w=>
 aB pg (lA 78 [(0,i6),(1,i8)]) w λi9 w=>
 aH pg uK #[jR,i9] w λj0 w=>
 R j0 w
def D5 (kn:K4)(k2:K3) jR nP Hp Pz w:=
 aB pg (aF 71 nP 4) w λe8 w=>
 aB pg (aD 9 e8) w λe9 w=>
 aB pg (lG .len #[9] 3 [e9]) w λf0 w=>
 aB pg (aE .lss 3 aK aK Pz f0) w λf1 w=>
 eU f1
  ((dr w)=(dr w)/\
  aB pg (aF 71 nP 3) (dr w) λf5 w_=>w_=(dr w)/\
  aB pg (aD 3 f5) (dr w) λf6 w_=>w_=(dr w)/\
  (dr w)=(dr w)/\
  aB pg (aE .add 3 aK aK f6 Pz) (dr w) λf8 w_=>w_=(dr w)/\
  aB pg (aF 71 nP 4) (dr w) λf9 w_=>w_=(dr w)/\
  aB pg (aD 9 f9) (dr w) λi0 w_=>w_=(dr w)/\
  (dr w)=(dr w)/\
  aB pg (Pg 9 i0 Pz) (dr w) λi2 w_=>w_=(dr w)/\
  aB pg (aL 23 Hp f8) (dr w) λi3 w_=>w_=(dr w)/\
  aB pg (aO 5 i3 i2) (dr w) λ_u10 Tl=>
  aB pg (aE .add 3 aK aK Pz (Wo 1)) Tl λf3 w=>
  kn jR nP Hp f3 w)
  (k2 jR nP Hp w)
def A7 (k2:K3) jR nP Hp Pz w:=
 bL (λ(X:Wn->K0) (t:Wn) (w:Wm)=>D5 (λ_ _ _ Pz w=>X Pz w) k2 jR nP Hp t w) Pz w
theorem JG(k2:K3)(h2:E3 Q k2 2 0 3 7)(h:A7 k2 (g 0) (g 3) (g 7) (g 8) w):eI pg qP (bI (aM 1 (bN 1 (aM 1 (aM 1 (cT (aM 1 (bN 1 (aM 4 pD))))))))) Q g w:=by
 refine Gv (λg:Env=>g 8) (λX t w=>D5 (λ_ _ _ Pz w=>X Pz w) k2 (g 0) (g 3) (g 7) t w) h (λX g1 w1 ha hL=> ?_)
 rw[<-mB 0 ha,<-mB 3 ha,<-mB 7 ha]at hL
 exact(Gt [(2,(KT k2 0 3 7))] (kr:=no) (CW (λ_ _ _ Pz w=>X Pz w) 0 3 7 8) hL jQ GV ⟨h2,trivial⟩)
def Ik(kn:K4) jR nP Hp w:=
 kn jR nP Hp (Wo 0) w
def D7 (kn:K3) jR nP Hp w:=
 Ik (A7 kn) jR nP Hp w
def Cr(R:K1) jR nP Hp w:=
 D7 (D3 R) jR nP Hp w
theorem JH(kn:K3)(hn:N3 Q kn 0 3 7)(h:D7 kn (g 0) (g 3) (g 7) w):eI pg qP (bN 1 (aM 1 (aM 1 (cT (aM 1 (bN 1 (aM 4 pD))))))) Q g w:=
 kA 1 (pG (CW (A7 kn) 0 3 7 8) h (λg w h=>aI (CG 2 (JG _ g w kn hn h))))
def Cs(kn:K3)(k0:K3) jR nP Hp w:=
 aB pg (lG .len #[23] 3 [Hp]) w λd6 w=>
 aB pg (aF 71 nP 3) w λd7 w=>
 aB pg (aD 3 d7) w λd8 w=>
 aB pg (aF 71 nP 4) w λd9 w=>
 aB pg (aD 9 d9) w λe0 w=>
 aB pg (lG .len #[9] 3 [e0]) w λe1 w=>
 aB pg (aE .add 3 aK aK d8 e1) w λe2 w=>
 aB pg (aE .lss 3 aK aK d6 e2) w λe3 w=>
 eU e3
  (aB pg (bZ 23 1 [(0,(.int .u8 0))]) w λe5 w=>
  aB pg (lG .append #[23,23] 23 [Hp,e5]) w λe6 w=>
  kn jR nP e6 w)
  (k0 jR nP Hp w)
def zH(k0:K3) jR nP Hp w:=
 bL (λ(X:Wn->K0) (t:Wn) (w:Wm)=>Cs (λ_ _ Hp w=>X Hp w) k0 jR nP t w) Hp w
theorem IC(k0:K3)(h0:E3 Q k0 0 0 3 7)(h:zH k0 (g 0) (g 3) (g 7) w):eI pg qP (bI (bN 1 (aM 1 (cT (aM 1 (bN 1 (aM 4 pD))))))) Q g w:=by
 refine Gv (λg:Env=>g 7) (λX t w=>Cs (λ_ _ Hp w=>X Hp w) k0 (g 0) (g 3) t w) h (λX g1 w1 ha hL=> ?_)
 rw[<-mB 0 ha,<-mB 3 ha]at hL
 exact(Gt [(0,(KT k0 0 3 7))] (kr:=no) (KT (λ_ _ Hp w=>X Hp w) 0 3 7) hL jQ GV ⟨h0,trivial⟩)
def Ct(R:K1) jR nP Hp w:=
 zH (Cr R) jR nP Hp w
theorem ID(kn:K3)(hn:N3 Q kn 0 3 7)(h:zH kn (g 0) (g 3) (g 7) w):eI pg qP (bN 1 (aM 1 (cT (aM 1 (bN 1 (aM 4 pD)))))) Q g w:=
 CG 0 (IC _ g w kn hn h)
def G2 (kn:K3) jR nP vJ w:=
 aB pg (rH 9 23 vJ) w λd4 w=>
 kn jR nP d4 w
def G3 (R:K1) jR nP vJ w:=
 G2 (Ct R) jR nP vJ w
def G4 (kn:K4) jR nP Ah vJ w:=
 kn jR nP Ah vJ w
def Cu(kn:K4)(R:K1) jR nP Ah vJ d2 w:=
 eU d2 (G3 R jR nP vJ w) (G4 kn jR nP Ah vJ w)
def G5 (kn:K5) jR nP Ah vJ w:=
 aB pg (aF 71 nP 0) w λd0 w=>
 aB pg (aD 3 d0) w λd1 w=>
 aB pg (aE .eql 3 (.tmp 21) (.const (Wo 0)) d1 (Wo 0)) w λd2 w=>
 kn jR nP Ah vJ d2 w
def Cv(kn:K4)(R:K1) jR nP Ah vJ w:=
 G5 (Cu kn R) jR nP Ah vJ w
def zI(R:K1) jR nP Ah vJ w:=
 Cv (DZ R) R jR nP Ah vJ w
theorem IE(kn:K4)(R:K1)(hn:N4 Q kn 0 3 5 6)(hr:HR Im R Q)(h:Cv kn R (g 0) (g 3) (g 5) (g 6) w):eI pg qP (bN 1 (aM 4 pD)) Q g w:=
 kA 1 (pG (I3 (Cu kn R) 0 3 5 6 22) h (λg w h=>aI (Rh (.tmp 22) (λh=>(kA 1 (pG (KT (Ct R) 0 3 7) h (λg w h=>aI (kA 1 (ID _ g w (Cr R) (λg w h=>aI (kA 1 (JH _ g w (D3 R) (λg w h=>aI (yO h hr)) h))) h)))))) (λh=>(pG _ h hn)) h)))
def G6 (kn:K4) jR O4 w:=
 aB pg (AL 71 O4) w λnP w=>
 aB pg (aF 71 nP 1) w λc0 w=>
 aB pg (aD 9 c0) w λc1 w=>
 aH pg qO #[jR,c1] w λc2 w=>
 aB pg (aE .geq 3 aK aK c2 (Wo 0)) w λc4 w=>
 eU c4
  (aB pg (aL 38 jR c2) w λc7 w=>
  aB pg (aF 78 c7 1) w λc8 w=>
  aB pg (aD 9 c8) w λc9 w=>
  kn jR nP c2 c9 w)
  (kn jR nP c2 (.string ⟨#[]⟩) w)
def G7 (R:K1) jR O4 w:=
 G6 (zI R) jR O4 w
def Mv a0 a1 w(R:K1):=
 G7 R a0 a1 w
theorem Kg{a0 a1 w R}(h:Mv a0 a1 w R):aH pg sM #[a0,a1] w R:=
 vX (ann:=qP) Try.f39 pD [a0,a1] Im 78 TryM.mixed Try.func39 (kA 4 (pG (CW (zI R) 0 3 5 6) h (λg w h=>aI (kA 1 (IE _ g w (DZ R) R (λg w h=>aI (kA 3 (Px (Tt (DY R) 0) h (λg w h=>aI (yO h jQ)) jQ))) jQ h)))))
def zR:FA:=⟨qO,λi=> .leaf ([],[]) []⟩
def BH:List ResultVar:=[.tmp 4]
noncomputable def yJ:Code:=bM Try.f40
def Bt(R:K1) w:=
 R (Wo (-1)) w
def Bu(kn:K3)(k0:K0)(R:K1) jR cK Ah w:=
 aB pg (lG .len #[38] 3 [jR]) w λb8 w=>
 aB pg (aE .lss 3 aK aK Ah b8) w λb9 w=>
 eU b9
  (aB pg (aL 38 jR Ah) w λc4 w=>
  aB pg (aF 78 c4 0) w λc5 w=>
  aB pg (aD 9 c5) w λc6 w=>
  aB pg (aE .eql 9 (.tmp 16) (.tmp 17) c6 cK) w λc8 w=>
  eU c8
   (R Ah w)
   (aB pg (aE .add 3 aK aK Ah (Wo 1)) w λc1 w=>
   kn jR cK c1 w))
  (k0 w)
def xB(k0:K0)(R:K1) jR cK Ah w:=
 bL (λ(X:Wn->K0) (t:Wn) (w:Wm)=>Bu (λ_ _ Ah w=>X Ah w) k0 R jR cK t w) Ah w
theorem HF(k0:K0)(R:K1)(h0:E0 Q k0 0)(hr:HR BH R Q)(h:xB k0 R (g 0) (g 1) (g 5) w):eI pg zR (bI (aM 1 (bN 1 (aM 1 yJ)))) Q g w:=by
 refine Gv (λg:Env=>g 5) (λX t w=>Bu (λ_ _ Ah w=>X Ah w) k0 R (g 0) (g 1) t w) h (λX g1 w1 ha hL=> ?_)
 rw[<-mB 0 ha,<-mB 1 ha]at hL
 exact(Gt [(0,(MY k0))] (KT (λ_ _ Ah w=>X Ah w) 0 1 5) hL jQ hr ⟨h0,trivial⟩)
def Fq(kn:K3) jR cK w:=
 kn jR cK (Wo 0) w
def Bv(kn:K0)(R:K1) jR cK w:=
 Fq (xB kn R) jR cK w
def Bw(R:K1) jR cK w:=
 Bv (Bt R) R jR cK w
theorem HG(kn:K0)(R:K1)(hn:N0 Q kn)(hr:HR BH R Q)(h:Bv kn R (g 0) (g 1) w):eI pg zR (bN 1 (aM 1 yJ)) Q g w:=
 kA 1 (pG (KT (xB kn R) 0 1 5) h (λg w h=>aI (CG 0 (HF _ g w kn R hn hr h))))
def Fs(kn:K2) jR cK w:=
 kn jR cK w
def Ft(R:K1) jR cK w:=
 Fs (Bw R) jR cK w
def JI a0 a1 w(R:K1):=
 Ft R a0 a1 w
theorem IF{a0 a1 w R}(h:JI a0 a1 w R):aH pg qO #[a0,a1] w R:=
 vX (ann:=zR) Try.f40 yJ [a0,a1] BH 20 TryM.mixed Try.func40 (kA 1 (pG (MZ (Bw R) 0 1) h (λg w h=>aI (kA 1 (HG _ g w (Bt R) R (λg w h=>aI (yO h jQ)) jQ h)))))
def BL:FA:=⟨pF,λi=> .leaf ([],[]) []⟩
def Cy:List ResultVar:=[.tmp 2]
noncomputable def Bf:Code:=bM Try.f41
def uZ(R:K1) QV w:=
 aH pg aW #[(.slice none 0 0),QV] w λb4 w=>
 R b4 w
def yY a0 w(R:K1):=
 uZ R a0 w
theorem BK{a0 w R}(h:yY a0 w R):aH pg pF #[a0] w R:=
 vX (ann:=BL) Try.f41 Bf [a0] Cy 5 TryM.mixed Try.func41 (yO h jQ)
def Dm:FA:=⟨iT,λi=> .leaf ([],[]) []⟩
def EY:List ResultVar:=[]
noncomputable def C1:Code:=bM Try.f42
def rI(kn:K0) Gr w:=
 aB pg (lG .len #[53] 3 [Gr]) w λb4 w=>
 aB pg (rH 3 94 b4) w λb8 w=>
 aH pg oQ #[b8] w λb9 w=>
 aH pg aY #[Gr,(Wo 0),b4,b9] w λc0 w=>
 kn w
def wN a0 w(R:K1):=
 rI (λw=>R (.tuple #[]) w) a0 w
theorem vM{a0 w R}(h:wN a0 w R):aH pg iT #[a0] w R:=
 vX (ann:=Dm) Try.f42 C1 [a0] EY 11 TryM.mixed Try.func42 (pG (MY (λw=>R (.tuple #[]) w)) h jQ)
def vG:FA:=⟨eX,λi=> .leaf ([],[]) []⟩
def yD:List ResultVar:=[]
noncomputable def uN:Code:=bM Try.f43
def qC(kn:K2)(k0:K0)(R:K1) Bb b5 w:=
 aB pg (MH b5 false 0) w λb6 w=>
 aB pg (cB b6 0) w λb7 w=>
 eU b7
  (aB pg (Ls b5) w λb8 w=>
  aB pg (cB b8 0) w λb9 w=>
  aB pg (AA Bb [b9]) w λc2 w=>
  aB pg (Io .not c2) w λc3 w=>
  eU c3
   (R (.tuple #[]) w)
   (kn Bb b5 w))
  (k0 w)
def lV(k0:K0)(R:K1) Bb b5 w:=
 bL (λ(X:Unit->K0) (t:Unit) (w:Wm)=>qC (λ_ _ w=>X () w) k0 R Bb b5 w) () w
theorem BY(k0:K0)(R:K1)(h0:E0 Q k0 0)(hr:HR yD R Q)(h:lV k0 R (g 0) (g 5) w):eI pg vG (bI (aM 1 uN)) Q g w:=by
 refine Gv (λ_:Env=>()) (λX t w=>qC (λ_ _ w=>X () w) k0 R (g 0) (g 5) w) h (λX g1 w1 ha hL=> ?_)
 rw[<-mB 0 ha,<-mB 5 ha]at hL
 exact(Gt [(0,(MY k0))] (MZ (λ_ _ w=>X () w) 0 5) hL jQ hr ⟨h0,trivial⟩)
def xZ(kn:K2) Bb b1 w:=
 aB pg (aD 57 b1) w λb4 w=>
 aB pg (HW 57 b4) w λb5 w=>
 kn Bb b5 w
def yA(kn:K0)(R:K1) Bb b1 w:=
 xZ (lV kn R) Bb b1 w
def A4 a0 a1 w(R:K1):=
 yA (λw=>R (.tuple #[]) w) R a0 a1 w
theorem Cp{a0 a1 w R}(h:A4 a0 a1 w R):aH pg eX #[a0,a1] w R:=
 vX (ann:=vG) Try.f43 uN [a0,a1] yD 14 TryM.mixed Try.func43 (kA 1 (pG (MZ (lV (λw=>R (.tuple #[]) w) R) 0 5) h (λg w h=>aI (CG 0 (BY _ g w (λw=>R (.tuple #[]) w) R jQ jQ h)))))
def zU:FA:=⟨uK,λi=>match Nat.beq i 3 with|true=> .leaf ([],[]) (fz 14 [])|false=> .leaf ([],[]) []⟩
def Kn:List ResultVar:=[.tmp 4]
noncomputable def yM:Code:=bM Try.f44
def xF(R:K1) jR Py Dn w:=
 aB pg (wJ 38 jR none (some Dn) none) w λe0 w=>
 aB pg (lG .append #[38,38] 38 [(.slice none 0 0),e0]) w λe1 w=>
 aB pg (aD 78 Py) w λe3 w=>
 aB pg (bZ 38 1 [(0,e3)]) w λe4 w=>
 aB pg (lG .append #[38,38] 38 [e1,e4]) w λe5 w=>
 aB pg (wJ 38 jR (some Dn) none none) w λe9 w=>
 aB pg (lG .append #[38,38] 38 [e5,e9]) w λf0 w=>
 R f0 w
def BE(kn:K3)(k0:K3) jR Py Dn w:=
 (dr w)=(dr w)/\
 (dr w)=(dr w)/\
 aB pg (lG .len #[38] 3 [jR]) (dr w) λc3 w_=>w_=(dr w)/\
 aB pg (aE .lss 3 aK aK Dn c3) (dr w) λc4 w_=>w_=(dr w)/\
 (dr w)=(dr w)/\
 Gd (bB c4 true) (λK=>K jR (dr w)) (dr w) λc6 w_=>w_=(dr w)/\
 Gd (bB c4 true) (λK=>K Dn (dr w)) (dr w) λc7 w_=>w_=(dr w)/\
 Gd (bB c4 true) (λK=>aB pg (aL 38 c6 c7) (dr w) K) (dr w) λc8 w_=>w_=(dr w)/\
 Gd (bB c4 true) (λK=>aB pg (aF 78 c8 0) (dr w) K) (dr w) λc9 w_=>w_=(dr w)/\
 Gd (bB c4 true) (λK=>aB pg (aD 9 c9) (dr w) K) (dr w) λd0 w_=>w_=(dr w)/\
 Gd (bB c4 true) (λK=>aB pg (aF 78 Py 0) (dr w) K) (dr w) λd1 w_=>w_=(dr w)/\
 Gd (bB c4 true) (λK=>aB pg (aD 9 d1) (dr w) K) (dr w) λd2 w_=>w_=(dr w)/\
 Gd (bB c4 true) (λK=>aB pg (aE .lss 9 aK aK d0 d2) (dr w) K) (dr w) λd3 w_=>w_=(dr w)/\
 aB pg (dW c4 d3 (.bool false)) (dr w) λd4 w_=>w_=(dr w)/\
 eU d4
  (aB pg (aE .add 3 aK aK Dn (Wo 1)) (dr w) λd6 w=>
  kn jR Py d6 w)
  (k0 jR Py Dn (dr w))
def xG(k0:K3) jR Py Dn w:=
 bL (λ(X:Wn->K0) (t:Wn) (w:Wm)=>BE (λ_ _ Dn w=>X Dn w) k0 jR Py t w) Dn w
theorem HN(k0:K3)(h0:E3 Q k0 0 0 3 5)(h:xG k0 (g 0) (g 3) (g 5) w):eI pg zU (bI (bN 1 (aM 3 yM))) Q g w:=by
 refine Gv (λg:Env=>g 5) (λX t w=>BE (λ_ _ Dn w=>X Dn w) k0 (g 0) (g 3) t w) h (λX g1 w1 ha hL=> ?_)
 rw[<-mB 0 ha,<-mB 3 ha]at hL
 exact(Gt [(0,(KT k0 0 3 5))] (kr:=no) (KT (λ_ _ Dn w=>X Dn w) 0 3 5) hL jQ GV ⟨h0,trivial⟩)
def BF(R:K1) jR Py Dn w:=
 xG (xF R) jR Py Dn w
theorem HO(kn:K3)(hn:N3 Q kn 0 3 5)(h:xG kn (g 0) (g 3) (g 5) w):eI pg zU (bN 1 (aM 3 yM)) Q g w:=
 CG 0 (HN _ g w kn hn h)
def FE(kn:K3) jR Uh w:=
 aB pg (AL 78 Uh) w λPy w=>
 aB pg (aF 78 Py 0) w λb8 w=>
 aB pg (aD 9 b8) w λb9 w=>
 aH pg oS #[jR,b9] w λc0 w=>
 kn c0 Py (Wo 0) w
def FF(R:K1) jR Uh w:=
 FE (BF R) jR Uh w
def JN a0 a1 w(R:K1):=
 FF R a0 a1 w
theorem IK{a0 a1 w R}(h:JN a0 a1 w R):aH pg uK #[a0,a1] w R:=
 vX (ann:=zU) Try.f44 yM [a0,a1] Kn 41 TryM.mixed Try.func44 (kA 3 (pG (KT (BF R) 0 3 5) h (λg w h=>aI (kA 1 (HO _ g w (xF R) (λg w h=>aI (yO h jQ)) h)))))
def uL:FA:=⟨oS,λi=> .leaf ([],[]) []⟩
def HU:List ResultVar:=[.tmp 4]
noncomputable def sN:Code:=bM Try.f45
def wD(R:K1) oY w:=
 R oY w
def wE(kn:K4) jR cK oY rU w:=
 aB pg (aE .add 3 aK aK rU (Wo 1)) w λc2 w=>
 kn jR cK oY c2 w
def B5 (kn:K4)(k0:K1) jR cK oY rU w:=
 aB pg (lG .len #[38] 3 [jR]) w λb9 w=>
 aB pg (aE .lss 3 aK aK rU b9) w λc0 w=>
 eU c0
  (aB pg (aL 38 jR rU) w λc5 w=>
  aB pg (aF 78 c5 0) w λc6 w=>
  aB pg (aD 9 c6) w λc7 w=>
  aB pg (aE .neq 9 (.tmp 17) (.tmp 18) c7 cK) w λc9 w=>
  eU c9
   (aB pg (aL 38 jR rU) w λd3 w=>
   aB pg (aD 78 d3) w λd4 w=>
   aB pg (bZ 38 1 [(0,d4)]) w λd5 w=>
   aB pg (lG .append #[38,38] 38 [oY,d5]) w λd6 w=>
   kn jR cK d6 rU w)
   (kn jR cK oY rU w))
  (k0 oY w)
def wF(kn:K4)(k0:K1) jR cK oY rU w:=
 B5 (wE kn) k0 jR cK oY rU w
def qQ(k0:K1) jR cK oY rU w:=
 bL (λ(X:(Wn×Wn)->K0) (t:Wn×Wn) (w:Wm)=>wF (λ_ _ oY rU w=>X (oY,rU) w) k0 jR cK t.1 t.2 w) (oY,rU) w
theorem EU(k0:K1)(h0:E1 Q k0 0 5)(h:qQ k0 (g 0) (g 1) (g 5) (g 6) w):eI pg uL (bI (aM 1 (bN 1 (aM 2 sN)))) Q g w:=by
 refine Gv (λg:Env=>(g 5,g 6)) (λX t w=>wF (λ_ _ oY rU w=>X (oY,rU) w) k0 (g 0) (g 1) t.1 t.2 w) h (λX g1 w1 ha hL=> ?_)
 rw[<-mB 0 ha,<-mB 1 ha]at hL
 exact(kA 2 (Gt [(0,(Tt k0 5))] (kr:=no) (CW (wE (λ_ _ oY rU w=>X (oY,rU) w)) 0 1 5 6) hL (λg w h=>aI (pG (CW (λ_ _ oY rU w=>X (oY,rU) w) 0 1 5 6) h jQ)) GV ⟨h0,trivial⟩))
def B6 (kn:K4) jR cK oY w:=
 kn jR cK oY (Wo 0) w
def wG(kn:K1) jR cK oY w:=
 B6 (qQ kn) jR cK oY w
def wH(R:K1) jR cK oY w:=
 wG (wD R) jR cK oY w
theorem EV(kn:K1)(hn:N1 Q kn 5)(h:wG kn (g 0) (g 1) (g 5) w):eI pg uL (bN 1 (aM 2 sN)) Q g w:=
 kA 1 (pG (CW (qQ kn) 0 1 5 6) h (λg w h=>aI (CG 0 (EU _ g w kn hn h))))
def A8 (kn:K3) jR cK w:=
 kn jR cK (.slice none 0 0) w
def A9 (R:K1) jR cK w:=
 A8 (wH R) jR cK w
def FG a0 a1 w(R:K1):=
 A9 R a0 a1 w
theorem Gc{a0 a1 w R}(h:FG a0 a1 w R):aH pg oS #[a0,a1] w R:=
 vX (ann:=uL) Try.f45 sN [a0,a1] HU 28 TryM.mixed Try.func45 (kA 2 (pG (KT (wH R) 0 1 5) h (λg w h=>aI (kA 1 (EV _ g w (wD R) (λg w h=>aI (yO h jQ)) h)))))
def cJ:FA:=⟨aW,λi=> .leaf ([],[]) []⟩
def BI:List ResultVar:=[.tmp 4]
noncomputable def aG:Code:=bM Try.f46
def gA(kn:K0) J5 TX w:=
 aB pg (aD 53 J5) w λb8 w=>
 aB pg (bZ 53 1 [(0,TX)]) w λc0 w=>
 aB pg (lG .append #[53,53] 53 [b8,c0]) w λc1 w=>
 aB pg (aO 53 J5 c1) w λ_u w=>
 kn w
theorem wM(kn:K0)(hn:N0 Q kn)(h:gA kn (g 2) (g 5) w):eI pg cJ (Nv aG) Q g w:=
 pG _ h hn
def kF(kn:K2) J5 b7 w:=
 kn J5 b7 w
theorem wL(kn:K2)(hn:N2 Q kn 2 5)(h:kF kn (g 2) (g 7) w):eI pg cJ (Pb aG) Q g w:=
 pG _ h hn
def rB(l:Nat)(R:K1)(J5 b7:Wn)(w:Wm):Prop:=
 kF (λJ5 TX w=>Ub l w λw=>gA (λw=>Rq l none R w) J5 TX w) J5 b7 w
theorem zL{l:Nat}{tmps:Array Wn}{w:Wm}{R:K1}(hsz:tmps.size=13)(h:rB l R (F3 tmps 2) (F3 tmps 7) w):Ks pg l aW tmps (Pb aG) (Nv aG) w R:=
 UK (ann:=cJ) 13 TryM.mixed hsz (wL (Ue pg cJ l (Nv aG) R) (F3 tmps) w (λJ5 TX w=>Ub l w λw=>gA (Rq l none R) J5 TX w) (λg w h=>let⟨r,h1,h2,h3⟩:=h;⟨r,h1,h2,(wM (Lo l R) g _ (Rq l none R) (λ_ _ h=>h) h3)⟩) h) (by kernel_rfl) (by kernel_rfl) (by kernel_rfl)
def jE(R:K1) J5 t1000003 w:=
 aB pg (aD 53 J5) w λc2 w=>
 AB t1000003 w λw=>R c2 w
def jF(kn:K2) J5 b6 t1000003 w:=
 ∀g:Env,g 2=J5->g 6=b6->g 1000003=t1000003->RF pg aW (.tmp 6) (QQ aG) (Pb aG) (Nv aG) (SN (λg w=>kn (g 2) (g 1000003) w) no []) g w
theorem zJ(kn:K2)(hn:N2 Q kn 2 1000003)(h:jF kn (g 2) (g 6) (g 1000003) w):eI pg cJ (bI (aM 1 (bN 1 (aM 1 aG)))) Q g w:=
 TE (kr:=no) (l:=[]) (h g rfl rfl rfl) hn GV trivial
def rZ(kn:K3) Hh J5 t1000003 w:=
 kn J5 Hh t1000003 w
def mD(kn:K2) Hh J5 t1000003 w:=
 rZ (jF kn) Hh J5 t1000003 w
def mE(R:K1) Hh J5 t1000003 w:=
 mD (jE R) Hh J5 t1000003 w
theorem zK(kn:K2)(hn:N2 Q kn 2 1000003)(h:mD kn (g 1) (g 2) (g 1000003) w):eI pg cJ (bN 1 (aM 1 aG)) Q g w:=
 kA 1 (pG (KT (jF kn) 2 6 1000003) h (λg w h=>aI (CG 0 (zJ _ g w kn hn h))))
def sB(kn:K3) Tu Hh t1000003 w:=
 aB pg (AL 53 Tu) w λJ5 w=>
 kn Hh J5 t1000003 w
def sC(R:K1) Tu Hh t1000003 w:=
 sB (mE R) Tu Hh t1000003 w
def vK a0 a1 w(R:K1):=
 sC R a0 a1 undef w
theorem AD{a0 a1 w R}(h:vK a0 a1 w R):aH pg aW #[a0,a1] w R:=
 UJ (ann:=cJ) Try.f46 aG [a0,a1] BI 13 TryM.mixed Try.func46 (kA 1 (pG (KT (mE R) 1 2 1000003) h (λg w h=>aI (kA 1 (zK _ g w (jE R) (λg w h=>aI (yO h jQ)) h)))))
def iU:FA:=⟨aY,λi=>match Nat.beq i 17 with|true=> .leaf ([12],[]) (fz 12 (ft [] (fz 2 [])))|false=> .leaf ([],[]) []⟩
def jJ:List ResultVar:=[]
noncomputable def iG:Code:=bM Try.f47
def dR(kn:K6)(k1:K6) aA bA cU cD aU aR nE yB w:=
 (dr w)=(dr w)/\
 aB pg (aE .gtr 3 aK aK bA (Wo 0)) (dr w) λl4 w_=>w_=(dr w)/\
 (dr w)=(dr w)/\
 Gd (bB l4 true) (λK=>K aA (dr w)) (dr w) λl6 w_=>w_=(dr w)/\
 Gd (bB l4 true) (λK=>K bA (dr w)) (dr w) λl7 w_=>w_=(dr w)/\
 Gd (bB l4 true) (λK=>aB pg (aE .sub 3 aK aK l7 (Wo 1)) (dr w) K) (dr w) λl8 w_=>w_=(dr w)/\
 Gd (bB l4 true) (λK=>aB pg (aL 53 l6 l8) (dr w) K) (dr w) λl9 w_=>w_=(dr w)/\
 Gd (bB l4 true) (λK=>aB pg (aD 9 l9) (dr w) K) (dr w) λm0 w_=>w_=(dr w)/\
 Gd (bB l4 true) (λK=>K aA (dr w)) (dr w) λm1 w_=>w_=(dr w)/\
 Gd (bB l4 true) (λK=>K yB (dr w)) (dr w) λm2 w_=>w_=(dr w)/\
 Gd (bB l4 true) (λK=>aB pg (aL 53 m1 m2) (dr w) K) (dr w) λm3 w_=>w_=(dr w)/\
 Gd (bB l4 true) (λK=>aB pg (aD 9 m3) (dr w) K) (dr w) λm4 w_=>w_=(dr w)/\
 Gd (bB l4 true) (λK=>aH pg bQ #[m0,m4] (dr w) K) (dr w) λm5 Gq=>
 Gd (bB l4 true) (λK=>aB pg (Io .not m5) Gq K) Gq λm6 w_=>w_=Gq/\
 aB pg (dW l4 m6 (.bool false)) Gq λm7 w_=>w_=Gq/\
 eU m7
  (aH pg rP #[aA,bA,cU,yB] Gq λn2 w=>
  k1 aA n2 cU cD aU aR w)
  (aH pg cY #[aA,bA,cU,yB] Gq λn9 w=>
  aB pg (cB n9 0) w λo0 w=>
  aB pg (cB n9 1) w λo1 w=>
  aB pg (aE .sub 3 aK aK o0 bA) w λo5 w=>
  aB pg (aE .sub 3 aK aK cU o0) w λo8 w=>
  aB pg (aE .quo 3 aK aK nE (Wo 8)) w λp0 w=>
  aB pg (aE .lss 3 aK aK o5 o8) w λp3 w=>
  eU p3
   (aB pg (aE .geq 3 aK aK o5 p0) w λp6 w=>
   aH pg aY #[aA,bA,o0,cD] w λq1 w=>
   aB pg (aE .add 3 aK aK o0 (Wo 1)) w λq3 w=>
   kn aA q3 cU cD p6 o1 w)
   (aB pg (aE .geq 3 aK aK o8 p0) w λq6 w=>
   aB pg (aE .add 3 aK aK o0 (Wo 1)) w λq9 w=>
   aH pg aY #[aA,q9,cU,cD] w λs2 w=>
   kn aA bA o0 cD q6 o1 w))
def nV(kn:K8)(R:K1) aA bA cU cD aU aR nE yB Le w:=
 Gd (bB aU true) (λK=>K aR w) w λj3 w=>
 aB pg (dW aU j3 (.bool false)) w λj4 w=>
 Gd (bB j4 true) (λK=>K Le w) w λj6 w=>
 Gd (bB j4 true) (λK=>aB pg (aE .eql 96 (.tmp 66) (.const (Wo 1)) j6 (Wo 1)) w K) w λj7 w=>
 aB pg (dW j4 j7 (.bool false)) w λj8 w=>
 eU j8
  (aH pg cA #[aA,bA,cU] w λl2 w=>
  eU l2
   (R (.tuple #[]) w)
   (kn aA bA cU cD aU aR nE yB w))
  (kn aA bA cU cD aU aR nE yB w)
def fE(kn:K6)(k1:K6)(R:K1) aA bA cU cD aU aR nE yB Le w:=
 nV (dR kn k1) R aA bA cU cD aU aR nE yB Le w
def nW(kn:K9) aA bA cU cD aU aR nE w:=
 aH pg eA #[aA,bA,cU] w λf6 w=>
 aB pg (cB f6 0) w λf7 w=>
 aB pg (cB f6 1) w λf8 w=>
 aB pg (aE .eql 96 (.tmp 49) (.const (Wo 2)) f8 (Wo 2)) w λi0 w=>
 eU i0
  (aH pg dX #[aA,bA,cU] w λi4 w=>
  aB pg (aE .sub 3 aK aK cU (Wo 1)) w λi6 w=>
  aB pg (aE .sub 3 aK aK f7 bA) w λi9 w=>
  aB pg (aE .sub 3 aK aK i6 i9) w λj0 w=>
  kn aA bA cU cD aU aR nE j0 (Wo 1) w)
  (kn aA bA cU cD aU aR nE f7 f8 w)
def dS(kn:K6)(k1:K6)(R:K1) aA bA cU cD aU aR nE w:=
 nW (fE kn k1 R) aA bA cU cD aU aR nE w
def fF(kn:K7)(R:K1) aA bA cU cD aU aR w:=
 aB pg (aE .sub 3 aK aK cU bA) w λd1 w=>
 aB pg (aE .leq 3 aK aK d1 (Wo 12)) w λd3 w=>
 eU d3
  (aH pg aZ #[aA,bA,cU] w λd7 w=>
  R (.tuple #[]) w)
  (aB pg (aE .eql 3 (.tmp 28) (.const (Wo 0)) cD (Wo 0)) w λd9 w=>
  eU d9
   (aH pg fD #[aA,bA,cU] w λe3 w=>
   R (.tuple #[]) w)
   (aB pg (Io .not aU) w λe5 w=>
   eU e5
    (aH pg dT #[aA,bA,cU] w λe9 w=>
    aB pg (aE .sub 3 aK aK cD (Wo 1)) w λf1 w=>
    kn aA bA cU f1 aU aR d1 w)
    (kn aA bA cU cD aU aR d1 w)))
def fG(kn:K6)(k1:K6)(R:K1) aA bA cU cD aU aR w:=
 fF (dS kn k1 R) R aA bA cU cD aU aR w
def cF(kn:K6)(R:K1) aA bA cU cD aU aR w:=
 fG kn kn R aA bA cU cD aU aR w
def cG(R:K1) aA bA cU cD aU aR w:=
 bL (λ(X:(Wn×Wn×Wn×Wn×Wn)->K0) (t:Wn×Wn×Wn×Wn×Wn) (w:Wm)=>cF (λ_ bA cU cD aU aR w=>X (bA,cU,cD,aU,aR) w) R aA t.1 t.2.1 t.2.2.1 t.2.2.2.1 t.2.2.2.2 w) (bA,cU,cD,aU,aR) w
theorem vB(kn:K6)(R:K1)(hn:N6 Q kn 0 1 2 3 8 9)(hr:HR jJ R Q)(h:cF kn R (g 0) (g 1) (g 2) (g 3) (g 8) (g 9) w):eI pg iU (bI (bI (aM 2 iG))) Q g w:=
 CG 1 (kA 4 (Px (Ua (dS kn kn R) 0 1 2 3 8 9 10) h (λg w h=>aI (kA 2 (pG (UH (fE kn kn R) 0 1 2 3 8 9 10 11 12) h (λg w h=>aI (kA 1 (Px (UG (dR kn kn) 0 1 2 3 8 9 10 11) h (λg w h=>aI (Gt [(1,(LK kn 0 1 2 3 8 9))] (kr:=no) _ h hn GV ⟨hn,trivial⟩)) hr)))))) hr))
theorem vC(R:K1)(hr:HR jJ R Q)(h:cG R (g 0) (g 1) (g 2) (g 3) (g 8) (g 9) w):eI pg iU (bI (aM 2 iG)) Q g w:=by
 refine Gv (λg:Env=>(g 1,g 2,g 3,g 8,g 9)) (λX t w=>cF (λ_ bA cU cD aU aR w=>X (bA,cU,cD,aU,aR) w) R (g 0) t.1 t.2.1 t.2.2.1 t.2.2.2.1 t.2.2.2.2 w) h (λX g1 w1 ha hL=> ?_)
 rw[<-mB 0 ha]at hL
 exact(vB _ g1 w1 (λ_ bA cU cD aU aR w=>X (bA,cU,cD,aU,aR) w) R jQ hr hL)
def eP(kn:K6) aA bA cU cD w:=
 kn aA bA cU cD (.bool true) (.bool true) w
def eQ(R:K1) aA bA cU cD w:=
 eP (cG R) aA bA cU cD w
def iC a0 a1 a2 a3 w(R:K1):=
 eQ R a0 a1 a2 a3 w
theorem iP{a0 a1 a2 a3 w R}(h:iC a0 a1 a2 a3 w R):aH pg aY #[a0,a1,a2,a3] w R:=
 vX (ann:=iU) Try.f47 iG [a0,a1,a2,a3] jJ 134 TryM.mixed Try.func47 (kA 2 (pG (LK (cG R) 0 1 2 3 8 9) h (λg w h=>aI (CG 0 (vC _ g w R jQ h)))))
def GB:FA:=⟨oQ,λi=> .leaf ([],[]) []⟩
def HS:List ResultVar:=[.tmp 2]
noncomputable def F0:Code:=bM Try.f48
def BZ(R:K1) Gr w:=
 eU (.bool false)
  (aB pg (rH 94 105 Gr) w λb4 w=>
  aH pg Gx #[b4] w λb5 w=>
  R b5 w)
  (aH pg pL #[Gr] w λb7 w=>
  R b7 w)
def Fm a0 w(R:K1):=
 BZ R a0 w
theorem F8 {a0 w R}(h:Fm a0 w R):aH pg oQ #[a0] w R:=
 vX (ann:=GB) Try.f48 F0 [a0] HS 8 TryM.mixed Try.func48 (yO h jQ)
def cV:FA:=⟨aZ,λi=>match Nat.beq i 4 with|true=> .leaf ([13],[]) (fz 13 (ft [] (fz 1 [])))|false=>match Nat.beq i 6 with|true=> .leaf ([15,17],[(4,15)]) (fz 15 (ft [10] (fz 1 (ft [] []))))|false=> .leaf ([],[]) []⟩
def rY:List ResultVar:=[]
noncomputable def cP:Code:=bM Try.f49
def dD(kn:K4) aA bA cU rU w:=
 aB pg (aE .add 3 aK aK rU (Wo 1)) w λc4 w=>
 kn aA bA cU c4 w
def fM(kn:K5)(k2:K4) aA bA cU rU Gu w:=
 (dr w)=(dr w)/\
 (dr w)=(dr w)/\
 aB pg (aE .gtr 3 aK aK Gu bA) (dr w) λc8 w_=>w_=(dr w)/\
 (dr w)=(dr w)/\
 Gd (bB c8 true) (λK=>K aA (dr w)) (dr w) λd0 w_=>w_=(dr w)/\
 Gd (bB c8 true) (λK=>K Gu (dr w)) (dr w) λd1 w_=>w_=(dr w)/\
 Gd (bB c8 true) (λK=>aB pg (aL 53 d0 d1) (dr w) K) (dr w) λd2 w_=>w_=(dr w)/\
 Gd (bB c8 true) (λK=>aB pg (aD 9 d2) (dr w) K) (dr w) λd3 w_=>w_=(dr w)/\
 Gd (bB c8 true) (λK=>K aA (dr w)) (dr w) λd4 w_=>w_=(dr w)/\
 Gd (bB c8 true) (λK=>K Gu (dr w)) (dr w) λd5 w_=>w_=(dr w)/\
 Gd (bB c8 true) (λK=>aB pg (aE .sub 3 aK aK d5 (Wo 1)) (dr w) K) (dr w) λd6 w_=>w_=(dr w)/\
 Gd (bB c8 true) (λK=>aB pg (aL 53 d4 d6) (dr w) K) (dr w) λd7 w_=>w_=(dr w)/\
 Gd (bB c8 true) (λK=>aB pg (aD 9 d7) (dr w) K) (dr w) λd8 w_=>w_=(dr w)/\
 Gd (bB c8 true) (λK=>aH pg bQ #[d3,d8] (dr w) K) (dr w) λd9 jP=>
 aB pg (dW c8 d9 (.bool false)) jP λe0 w_=>w_=jP/\
 eU e0
  ((dr jP)=(dr jP)/\
  (dr jP)=(dr jP)/\
  (dr jP)=(dr jP)/\
  (dr jP)=(dr jP)/\
  aB pg (aE .sub 3 aK aK Gu (Wo 1)) (dr jP) λe7 w_=>w_=(dr jP)/\
  (dr jP)=(dr jP)/\
  (dr jP)=(dr jP)/\
  aB pg (aE .sub 3 aK aK Gu (Wo 1)) (dr jP) λf0 w_=>w_=(dr jP)/\
  aB pg (aL 53 aA f0) (dr jP) λf1 w_=>w_=(dr jP)/\
  aB pg (aD 9 f1) (dr jP) λf2 w_=>w_=(dr jP)/\
  (dr jP)=(dr jP)/\
  (dr jP)=(dr jP)/\
  aB pg (aL 53 aA Gu) (dr jP) λf5 w_=>w_=(dr jP)/\
  aB pg (aD 9 f5) (dr jP) λf6 w_=>w_=(dr jP)/\
  aB pg (aL 53 aA Gu) (dr jP) λf7 w_=>w_=(dr jP)/\
  aB pg (aO 9 f7 f2) (dr jP) λ_u15 OJ=>
  (vS pg (aE .sub 3 aK aK Gu (Wo 1)) e7 OJ/\True)/\
  aB pg (aL 53 aA e7) OJ λf8 w_=>w_=OJ/\
  aB pg (aO 9 f8 f6) OJ λ_u17 T1=>
  aB pg (aE .sub 3 aK aK Gu (Wo 1)) T1 λe2 w=>
  kn aA bA cU rU e2 w)
  (k2 aA bA cU rU jP)
def dE(k2:K4) aA bA cU rU Gu w:=
 bL (λ(X:Wn->K0) (t:Wn) (w:Wm)=>fM (λ_ _ _ _ Gu w=>X Gu w) k2 aA bA cU rU t w) Gu w
theorem qJ(k2:K4)(h2:E4 Q k2 2 0 1 2 6)(h:dE k2 (g 0) (g 1) (g 2) (g 6) (g 7) w):eI pg cV (bI (aM 1 (bI (bN 1 (aM 1 (bI (bI (aM 1 cP)))))))) Q g w:=by
 refine Gv (λg:Env=>g 7) (λX t w=>fM (λ_ _ _ _ Gu w=>X Gu w) k2 (g 0) (g 1) (g 2) (g 6) t w) h (λX g1 w1 ha hL=> ?_)
 rw[<-mB 0 ha,<-mB 1 ha,<-mB 2 ha,<-mB 6 ha]at hL
 exact(Gt [(2,(CW k2 0 1 2 6))] (kr:=no) (I3 (λ_ _ _ _ Gu w=>X Gu w) 0 1 2 6 7) hL jQ GV ⟨h2,trivial⟩)
def kL(kn:K5) aA bA cU rU w:=
 kn aA bA cU rU rU w
def fN(kn:K4) aA bA cU rU w:=
 kL (dE kn) aA bA cU rU w
def fO(kn:K4) aA bA cU rU w:=
 fN (dD kn) aA bA cU rU w
theorem qK(kn:K4)(hn:N4 Q kn 0 1 2 6)(h:fN kn (g 0) (g 1) (g 2) (g 6) w):eI pg cV (bN 1 (aM 1 (bI (bI (aM 1 cP))))) Q g w:=
 CG 1 (kA 1 (pG (I3 (dE kn) 0 1 2 6 7) h (λg w h=>aI (CG 2 (qJ _ g w kn hn h)))))
def fP(kn:K4)(k0:K0) aA bA cU rU w:=
 aB pg (aE .lss 3 aK aK rU cU) w λc2 w=>
 eU c2
  (kn aA bA cU rU w)
  (k0 w)
def cX(kn:K4)(k0:K0) aA bA cU rU w:=
 fP (fO kn) k0 aA bA cU rU w
def bW(k0:K0) aA bA cU rU w:=
 bL (λ(X:Wn->K0) (t:Wn) (w:Wm)=>cX (λ_ _ _ rU w=>X rU w) k0 aA bA cU t w) rU w
theorem pR(k0:K0)(h0:E0 Q k0 0)(h:bW k0 (g 0) (g 1) (g 2) (g 6) w):eI pg cV (bI (aM 1 cP)) Q g w:=by
 refine Gv (λg:Env=>g 6) (λX t w=>cX (λ_ _ _ rU w=>X rU w) k0 (g 0) (g 1) (g 2) t w) h (λX g1 w1 ha hL=> ?_)
 rw[<-mB 0 ha,<-mB 1 ha,<-mB 2 ha]at hL
 exact(kA 1 (Gt [(0,(MY k0))] (kr:=no) (CW (fO (λ_ _ _ rU w=>X rU w)) 0 1 2 6) hL (λg w h=>aI (kA 1 (qK _ g w (dD (λ_ _ _ rU w=>X rU w)) (λg w h=>aI (pG (CW (λ_ _ _ rU w=>X rU w) 0 1 2 6) h jQ)) h))) GV ⟨h0,trivial⟩))
def fA(kn:K4) aA bA cU w:=
 aB pg (aE .add 3 aK aK bA (Wo 1)) w λb9 w=>
 kn aA bA cU b9 w
def fB(kn:K0) aA bA cU w:=
 fA (bW kn) aA bA cU w
def gU a0 a1 a2 w(R:K1):=
 fB (λw=>R (.tuple #[]) w) a0 a1 a2 w
theorem jM{a0 a1 a2 w R}(h:gU a0 a1 a2 w R):aH pg aZ #[a0,a1,a2] w R:=
 vX (ann:=cV) Try.f49 cP [a0,a1,a2] rY 49 TryM.mixed Try.func49 (kA 1 (pG (CW (bW (λw=>R (.tuple #[]) w)) 0 1 2 6) h (λg w h=>aI (CG 0 (pR _ g w (λw=>R (.tuple #[]) w) jQ h)))))
def eH:FA:=⟨fD,λi=>match Nat.beq i 10 with|true=> .leaf ([17,19],[(5,17)]) (fz 17 (ft [11] (fz 1 (ft [] []))))|false=> .leaf ([],[]) []⟩
def wI:List ResultVar:=[]
noncomputable def eB:Code:=bM Try.f50
def iV(kn:K4)(k2:K0) aA fQ Co bF w:=
 aB pg (aE .geq 3 aK aK bF (Wo 0)) w λe0 w=>
 eU e0
  ((dr w)=(dr w)/\
  (dr w)=(dr w)/\
  (dr w)=(dr w)/\
  (dr w)=(dr w)/\
  (dr w)=(dr w)/\
  aB pg (aE .add 3 aK aK fQ bF) (dr w) λe8 w_=>w_=(dr w)/\
  (dr w)=(dr w)/\
  (dr w)=(dr w)/\
  (dr w)=(dr w)/\
  aB pg (aE .add 3 aK aK fQ bF) (dr w) λf2 w_=>w_=(dr w)/\
  aB pg (aL 53 aA f2) (dr w) λf3 w_=>w_=(dr w)/\
  aB pg (aD 9 f3) (dr w) λf4 w_=>w_=(dr w)/\
  (dr w)=(dr w)/\
  (dr w)=(dr w)/\
  aB pg (aL 53 aA fQ) (dr w) λf7 w_=>w_=(dr w)/\
  aB pg (aD 9 f7) (dr w) λf8 w_=>w_=(dr w)/\
  aB pg (aL 53 aA fQ) (dr w) λf9 w_=>w_=(dr w)/\
  aB pg (aO 9 f9 f4) (dr w) λ_u17 CB=>
  (vS pg (aE .add 3 aK aK fQ bF) e8 CB/\True)/\
  aB pg (aL 53 aA e8) CB λi0 w_=>w_=CB/\
  aB pg (aO 9 i0 f8) CB λ_u19 NQ=>
  aH pg dQ #[aA,Co,bF,fQ] NQ λi5 w=>
  aB pg (aE .sub 3 aK aK bF (Wo 1)) w λe2 w=>
  kn aA fQ Co e2 w)
  (k2 w)
def eK(k2:K0) aA fQ Co bF w:=
 bL (λ(X:Wn->K0) (t:Wn) (w:Wm)=>iV (λ_ _ _ bF w=>X bF w) k2 aA fQ Co t w) bF w
theorem uC(k2:K0)(h2:E0 Q k2 2)(h:eK k2 (g 0) (g 6) (g 7) (g 10) w):eI pg eH (bI (aM 1 (aM 1 (aM 3 eB)))) Q g w:=by
 refine Gv (λg:Env=>g 10) (λX t w=>iV (λ_ _ _ bF w=>X bF w) k2 (g 0) (g 6) (g 7) t w) h (λX g1 w1 ha hL=> ?_)
 rw[<-mB 0 ha,<-mB 6 ha,<-mB 7 ha]at hL
 exact(Gt [(2,(MY k2))] (kr:=no) (CW (λ_ _ _ bF w=>X bF w) 0 6 7 10) hL jQ GV ⟨h2,trivial⟩)
def nI(kn:K4) aA fQ Co ER w:=
 aB pg (aE .sub 3 aK aK ER (Wo 1)) w λd8 w=>
 kn aA fQ Co d8 w
def iW(kn:K0) aA fQ Co ER w:=
 nI (eK kn) aA fQ Co ER w
def iX(kn:K5)(k0:K4) aA fQ Co ER Qe w:=
 aB pg (aE .geq 3 aK aK Qe (Wo 0)) w λc9 w=>
 eU c9
  (aH pg dQ #[aA,Qe,ER,fQ] w λd6 w=>
  aB pg (aE .sub 3 aK aK Qe (Wo 1)) w λd1 w=>
  kn aA fQ Co ER d1 w)
  (k0 aA fQ Co ER w)
def eL(k0:K4) aA fQ Co ER Qe w:=
 bL (λ(X:Wn->K0) (t:Wn) (w:Wm)=>iX (λ_ _ _ _ Qe w=>X Qe w) k0 aA fQ Co ER t w) Qe w
theorem uD(k0:K4)(h0:E4 Q k0 0 0 6 7 8)(h:eL k0 (g 0) (g 6) (g 7) (g 8) (g 9) w):eI pg eH (bI (aM 1 (bN 1 (aM 3 eB)))) Q g w:=by
 refine Gv (λg:Env=>g 9) (λX t w=>iX (λ_ _ _ _ Qe w=>X Qe w) k0 (g 0) (g 6) (g 7) (g 8) t w) h (λX g1 w1 ha hL=> ?_)
 rw[<-mB 0 ha,<-mB 6 ha,<-mB 7 ha,<-mB 8 ha]at hL
 exact(Gt [(0,(CW k0 0 6 7 8))] (kr:=no) (I3 (λ_ _ _ _ Qe w=>X Qe w) 0 6 7 8 9) hL jQ GV ⟨h0,trivial⟩)
def nJ(kn:K5) aA fQ Co ER w:=
 aB pg (aE .sub 3 aK aK ER (Wo 1)) w λc6 w=>
 aB pg (aE .quo 3 aK aK c6 (Wo 2)) w λc7 w=>
 kn aA fQ Co ER c7 w
def iH(kn:K4) aA fQ Co ER w:=
 nJ (eL kn) aA fQ Co ER w
def iI(kn:K0) aA fQ Co ER w:=
 iH (iW kn) aA fQ Co ER w
theorem tD(kn:K4)(hn:N4 Q kn 0 6 7 8)(h:iH kn (g 0) (g 6) (g 7) (g 8) w):eI pg eH (bN 1 (aM 3 eB)) Q g w:=
 kA 1 (pG (I3 (eL kn) 0 6 7 8 9) h (λg w h=>aI (CG 0 (uD _ g w kn hn h))))
def mO(kn:K4) aA bA cU w:=
 aB pg (aE .sub 3 aK aK cU bA) w λc4 w=>
 kn aA bA (Wo 0) c4 w
def mP(kn:K0) aA bA cU w:=
 mO (iI kn) aA bA cU w
def pP a0 a1 a2 w(R:K1):=
 mP (λw=>R (.tuple #[]) w) a0 a1 a2 w
theorem vA{a0 a1 a2 w R}(h:pP a0 a1 a2 w R):aH pg fD #[a0,a1,a2] w R:=
 vX (ann:=eH) Try.f50 eB [a0,a1,a2] wI 56 TryM.mixed Try.func50 (kA 3 (pG (CW (iI (λw=>R (.tuple #[]) w)) 0 6 7 8) h (λg w h=>aI (kA 1 (tD _ g w (iW (λw=>R (.tuple #[]) w)) (λg w h=>aI (kA 1 (pG (CW (eK (λw=>R (.tuple #[]) w)) 0 6 7 10) h (λg w h=>aI (CG 2 (uC _ g w (λw=>R (.tuple #[]) w) jQ h)))))) h)))))
def eY:FA:=⟨dT,λi=>match Nat.beq i 10 with|true=> .leaf ([17,19],[(5,17)]) (fz 17 (ft [11] (fz 1 (ft [] []))))|false=> .leaf ([],[]) []⟩
def rX:List ResultVar:=[]
noncomputable def eJ:Code:=bM Try.f51
def dA(kn:K6) aA bA cQ fY fX kR w:=
 aB pg (aE .add 3 aK aK kR (Wo 1)) w λe5 w=>
 kn aA bA cQ fY fX e5 w
def dB(kn:K6) aA bA cQ fY fX kR Jz w:=
 (dr w)=(dr w)/\
 (dr w)=(dr w)/\
 (dr w)=(dr w)/\
 (dr w)=(dr w)/\
 (dr w)=(dr w)/\
 aB pg (aE .add 3 aK aK bA Jz) (dr w) λi2 w_=>w_=(dr w)/\
 (dr w)=(dr w)/\
 (dr w)=(dr w)/\
 (dr w)=(dr w)/\
 aB pg (aE .add 3 aK aK bA Jz) (dr w) λi6 w_=>w_=(dr w)/\
 aB pg (aL 53 aA i6) (dr w) λi7 w_=>w_=(dr w)/\
 aB pg (aD 9 i7) (dr w) λi8 w_=>w_=(dr w)/\
 (dr w)=(dr w)/\
 (dr w)=(dr w)/\
 aB pg (aL 53 aA kR) (dr w) λj1 w_=>w_=(dr w)/\
 aB pg (aD 9 j1) (dr w) λj2 w_=>w_=(dr w)/\
 aB pg (aL 53 aA kR) (dr w) λj3 w_=>w_=(dr w)/\
 aB pg (aO 9 j3 i8) (dr w) λ_u17 CB=>
 (vS pg (aE .add 3 aK aK bA Jz) i2 CB/\True)/\
 aB pg (aL 53 aA i2) CB λj4 w_=>w_=CB/\
 aB pg (aO 9 j4 j2) CB λ_u19 NQ=>
 kn aA bA cQ fY fX kR NQ
def kJ(kn:K7) aA bA cQ fY fX kR w:=
 aH pg kB #[fY] w λe6 w=>
 aB pg (aE .sub 94 aK aK fX (.int .u64 1)) w λe8 w=>
 aB pg (aE .and 94 aK aK e6 e8) w λe9 w=>
 aB pg (rH 94 3 e9) w λf0 w=>
 aB pg (aE .geq 3 aK aK f0 cQ) w λf3 w=>
 eU f3
  (aB pg (aE .sub 3 aK aK f0 cQ) w λf6 w=>
  kn aA bA cQ fY fX kR f6 w)
  (kn aA bA cQ fY fX kR f0 w)
def fJ(kn:K6) aA bA cQ fY fX kR w:=
 kJ (dB kn) aA bA cQ fY fX kR w
def fK(kn:K6) aA bA cQ fY fX kR w:=
 fJ (dA kn) aA bA cQ fY fX kR w
theorem qH(kn:K6)(hn:N6 Q kn 0 1 6 7 8 9)(h:fJ kn (g 0) (g 1) (g 6) (g 7) (g 8) (g 9) w):eI pg eY (bN 1 (aM 1 (bI (bI (aM 3 (cT (aM 2 eJ))))))) Q g w:=
 CG 1 (kA 2 (pG (Ua (dB kn) 0 1 6 7 8 9 10) h (λg w h=>aI (pG _ h hn))))
def kK(kn:K6)(k0:K0) aA bA cQ fY fX kR w:=
 aB pg (aE .quo 3 aK aK cQ (Wo 4)) w λd9 w=>
 aB pg (aE .mul 3 aK aK d9 (Wo 2)) w λe0 w=>
 aB pg (aE .add 3 aK aK bA e0) w λe1 w=>
 aB pg (aE .add 3 aK aK e1 (Wo 1)) w λe2 w=>
 aB pg (aE .leq 3 aK aK kR e2) w λe3 w=>
 eU e3
  (kn aA bA cQ fY fX kR w)
  (k0 w)
def fL(kn:K6)(k0:K0) aA bA cQ fY fX kR w:=
 kK (fK kn) k0 aA bA cQ fY fX kR w
def dC(k0:K0) aA bA cQ fY fX kR w:=
 bL (λ(X:Wn->K0) (t:Wn) (w:Wm)=>fL (λ_ _ _ _ _ kR w=>X kR w) k0 aA bA cQ fY fX t w) kR w
theorem qI(k0:K0)(h0:E0 Q k0 0)(h:dC k0 (g 0) (g 1) (g 6) (g 7) (g 8) (g 9) w):eI pg eY (bI (aM 3 (cT (aM 2 eJ)))) Q g w:=by
 refine Gv (λg:Env=>g 9) (λX t w=>fL (λ_ _ _ _ _ kR w=>X kR w) k0 (g 0) (g 1) (g 6) (g 7) (g 8) t w) h (λX g1 w1 ha hL=> ?_)
 rw[<-mB 0 ha,<-mB 1 ha,<-mB 6 ha,<-mB 7 ha,<-mB 8 ha]at hL
 exact(kA 1 (Gt [(0,(MY k0))] (kr:=no) (LK (fK (λ_ _ _ _ _ kR w=>X kR w)) 0 1 6 7 8 9) hL (λg w h=>aI (kA 1 (qH _ g w (dA (λ_ _ _ _ _ kR w=>X kR w)) (λg w h=>aI (pG (LK (λ_ _ _ _ _ kR w=>X kR w) 0 1 6 7 8 9) h jQ)) h))) GV ⟨h0,trivial⟩))
def jV(kn:K6) aA bA cQ w:=
 aB pg (rH 3 108 cQ) w λc7 w=>
 aB pg (lM 108) w λfY w=>
 aB pg (aO 108 fY c7) w λ_u w=>
 aH pg jK #[cQ] w λc9 w=>
 aB pg (aE .quo 3 aK aK cQ (Wo 4)) w λd2 w=>
 aB pg (aE .mul 3 aK aK d2 (Wo 2)) w λd3 w=>
 aB pg (aE .add 3 aK aK bA d3) w λd4 w=>
 aB pg (aE .sub 3 aK aK d4 (Wo 1)) w λd5 w=>
 kn aA bA cQ fY c9 d5 w
def jW(kn:K0) aA bA cQ w:=
 jV (dC kn) aA bA cQ w
def jX(kn:K0) w:=
 kn w
def cW(kn:K0) aA bA cQ c5 w:=
 eU c5 (jW kn aA bA cQ w) (jX kn w)
def jY(kn:K4) aA bA cU w:=
 aB pg (aE .sub 3 aK aK cU bA) w λc3 w=>
 aB pg (aE .geq 3 aK aK c3 (Wo 8)) w λc5 w=>
 kn aA bA c3 c5 w
def jZ(kn:K0) aA bA cU w:=
 jY (cW kn) aA bA cU w
def lX a0 a1 a2 w(R:K1):=
 jZ (λw=>R (.tuple #[]) w) a0 a1 a2 w
theorem qR{a0 a1 a2 w R}(h:lX a0 a1 a2 w R):aH pg dT #[a0,a1,a2] w R:=
 vX (ann:=eY) Try.f51 eJ [a0,a1,a2] rX 65 TryM.mixed Try.func51 (kA 2 (pG (CW (cW (λw=>R (.tuple #[]) w)) 0 1 6 15) h (λg w h=>aI (Rh (.tmp 15) (λh=>(kA 3 (pG (LK (dC (λw=>R (.tuple #[]) w)) 0 1 6 7 8 9) h (λg w h=>aI (CG 0 (qI _ g w (λw=>R (.tuple #[]) w) jQ h)))))) (λh=>(pG (MY (λw=>R (.tuple #[]) w)) h jQ)) h))))
def kO:FA:=⟨eA,λi=> .leaf ([],[]) []⟩
def uB:List ResultVar:=[.tmp 6,.tmp 7]
noncomputable def kI:Code:=bM Try.f52
def dY(R:K1) fR bV w:=
 aB pg (aD 3 fR) w λf9 w=>
 aB pg (aE .eql 3 (.tmp 49) (.const (Wo 0)) f9 (Wo 0)) w λi2 w=>
 eU i2
  (R (.tuple #[bV,(Wo 1)]) w)
  (aB pg (aE .eql 3 (.tmp 49) (.const (Wo 12)) f9 (Wo 12)) w λi5 w=>
  eU i5
   (R (.tuple #[bV,(Wo 2)]) w)
   (R (.tuple #[bV,(Wo 0)]) w))
def gC(kn:K2) aA fR bF bV GN w:=
 aH pg fZ #[aA,bF,bV,GN,fR] w λf8 w=>
 kn fR f8 w
def lH(kn:K5) aA PB fR bF bV GN w:=
 aB pg (aE .geq 3 aK aK PB (Wo 50)) w λe4 w=>
 eU e4
  (aH pg fH #[aA,bF,fR] w λe7 w=>
  aH pg fH #[aA,bV,fR] w λf0 w=>
  aH pg fH #[aA,GN,fR] w λf3 w=>
  kn aA fR e7 f0 f3 w)
  (kn aA fR bF bV GN w)
def lI(kn:K2) aA PB fR bF bV GN w:=
 lH (gC kn) aA PB fR bF bV GN w
def lJ(kn:K2) fR bV w:=
 kn fR bV w
def dZ(kn:K2) aA PB fR bF bV GN e2 w:=
 eU e2 (lI kn aA PB fR bF bV GN w) (lJ kn fR bV w)
def lK(kn:K7) aA PB fR bF bV GN w:=
 aB pg (aE .geq 3 aK aK PB (Wo 8)) w λe2 w=>
 kn aA PB fR bF bV GN e2 w
def gD(kn:K2) aA PB fR bF bV GN w:=
 lK (dZ kn) aA PB fR bF bV GN w
def gE(R:K1) aA PB fR bF bV GN w:=
 gD (dY R) aA PB fR bF bV GN w
theorem rJ(kn:K2)(hn:N2 Q kn 9 11)(h:gD kn (g 0) (g 8) (g 9) (g 10) (g 11) (g 12) w):eI pg kO (bN 1 (aM 6 kI)) Q g w:=
 kA 1 (pG (Ua (dZ kn) 0 8 9 10 11 12 32) h (λg w h=>aI (Rh (.tmp 32) (λh=>(kA 1 (pG (I3 (gC kn) 0 9 10 11 12) h (λg w h=>aI (pG _ h hn))))) (λh=>(pG _ h hn)) h)))
def lB(kn:K6) aA bA cU w:=
 aB pg (aE .sub 3 aK aK cU bA) w λc5 w=>
 aB pg (lM 3) w λfR w=>
 aB pg (aE .quo 3 aK aK c5 (Wo 4)) w λc8 w=>
 aB pg (aE .mul 3 aK aK c8 (Wo 1)) w λc9 w=>
 aB pg (aE .add 3 aK aK bA c9) w λd0 w=>
 aB pg (aE .quo 3 aK aK c5 (Wo 4)) w λd3 w=>
 aB pg (aE .mul 3 aK aK d3 (Wo 2)) w λd4 w=>
 aB pg (aE .add 3 aK aK bA d4) w λd5 w=>
 aB pg (aE .quo 3 aK aK c5 (Wo 4)) w λd8 w=>
 aB pg (aE .mul 3 aK aK d8 (Wo 3)) w λd9 w=>
 aB pg (aE .add 3 aK aK bA d9) w λe0 w=>
 kn aA c5 fR d0 d5 e0 w
def lC(R:K1) aA bA cU w:=
 lB (gE R) aA bA cU w
def nH a0 a1 a2 w(R:K1):=
 lC R a0 a1 a2 w
theorem sD{a0 a1 a2 w R}(h:nH a0 a1 a2 w R):aH pg eA #[a0,a1,a2] w R:=
 vX (ann:=kO) Try.f52 kI [a0,a1,a2] uB 57 TryM.mixed Try.func52 (kA 6 (pG (LK (gE R) 0 8 9 10 11 12) h (λg w h=>aI (kA 1 (rJ _ g w (dY R) (λg w h=>aI (yO h jQ)) h)))))
def kH:FA:=⟨dX,λi=>match Nat.beq i 3 with|true=> .leaf ([13,15],[]) (fz 13 (ft [] (fz 1 (ft [] []))))|false=> .leaf ([],[]) []⟩
def tC:List ResultVar:=[]
noncomputable def jU:Code:=bM Try.f53
def fS(kn:K3)(k0:K0) aA rU Gu w:=
 aB pg (aE .lss 3 aK aK rU Gu) w λc3 w=>
 eU c3
  ((dr w)=(dr w)/\
  (dr w)=(dr w)/\
  (dr w)=(dr w)/\
  (dr w)=(dr w)/\
  (dr w)=(dr w)/\
  (dr w)=(dr w)/\
  aB pg (aL 53 aA Gu) (dr w) λd0 w_=>w_=(dr w)/\
  aB pg (aD 9 d0) (dr w) λd1 w_=>w_=(dr w)/\
  (dr w)=(dr w)/\
  (dr w)=(dr w)/\
  aB pg (aL 53 aA rU) (dr w) λd4 w_=>w_=(dr w)/\
  aB pg (aD 9 d4) (dr w) λd5 w_=>w_=(dr w)/\
  aB pg (aL 53 aA rU) (dr w) λd6 w_=>w_=(dr w)/\
  aB pg (aO 9 d6 d1) (dr w) λ_u13 Q7=>
  aB pg (aL 53 aA Gu) Q7 λd7 w_=>w_=Q7/\
  aB pg (aO 9 d7 d5) Q7 λ_u15 T0=>
  aB pg (aE .add 3 aK aK rU (Wo 1)) T0 λd9 w=>
  aB pg (aE .sub 3 aK aK Gu (Wo 1)) w λe1 w=>
  kn aA d9 e1 w)
  (k0 w)
def dV(k0:K0) aA rU Gu w:=
 bL (λ(X:(Wn×Wn)->K0) (t:Wn×Wn) (w:Wm)=>fS (λ_ rU Gu w=>X (rU,Gu) w) k0 aA t.1 t.2 w) (rU,Gu) w
theorem qS(k0:K0)(h0:E0 Q k0 0)(h:dV k0 (g 0) (g 6) (g 7) w):eI pg kH (bI (aM 2 jU)) Q g w:=by
 refine Gv (λg:Env=>(g 6,g 7)) (λX t w=>fS (λ_ rU Gu w=>X (rU,Gu) w) k0 (g 0) t.1 t.2 w) h (λX g1 w1 ha hL=> ?_)
 rw[<-mB 0 ha]at hL
 exact(Gt [(0,(MY k0))] (kr:=no) (KT (λ_ rU Gu w=>X (rU,Gu) w) 0 6 7) hL jQ GV ⟨h0,trivial⟩)
def lD(kn:K3) aA bA cU w:=
 aB pg (aE .sub 3 aK aK cU (Wo 1)) w λc0 w=>
 kn aA bA c0 w
def lE(kn:K0) aA bA cU w:=
 lD (dV kn) aA bA cU w
def mQ a0 a1 a2 w(R:K1):=
 lE (λw=>R (.tuple #[]) w) a0 a1 a2 w
theorem rK{a0 a1 a2 w R}(h:mQ a0 a1 a2 w R):aH pg dX #[a0,a1,a2] w R:=
 vX (ann:=kH) Try.f53 jU [a0,a1,a2] tC 32 TryM.mixed Try.func53 (kA 2 (pG (KT (dV (λw=>R (.tuple #[]) w)) 0 6 7) h (λg w h=>aI (CG 0 (qS _ g w (λw=>R (.tuple #[]) w) jQ h)))))
def aQ:FA:=⟨cA,λi=>match Nat.beq i 5 with|true=> .leaf ([13],[]) (fz 13 (ft [] (fz 2 [])))|false=>match Nat.beq i 11 with|true=> .leaf ([15,17],[(4,15)]) (fz 15 (ft [10] (fz 1 (ft [] []))))|false=>match Nat.beq i 16 with|true=> .leaf ([9],[]) (fz 9 (ft [] (fz 1 [])))|false=>match Nat.beq i 17 with|true=> .leaf ([15,17],[(4,15)]) (fz 15 (ft [10] (fz 1 (ft [] []))))|false=>match Nat.beq i 22 with|true=> .leaf ([9],[]) (fz 9 (ft [] (fz 1 [])))|false=>match Nat.beq i 23 with|true=> .leaf ([15,17],[(4,15)]) (fz 15 (ft [10] (fz 1 (ft [] []))))|false=> .leaf ([],[]) []⟩
def bX:List ResultVar:=[.tmp 6]
noncomputable def aN:Code:=bM Try.f54
def gV(R:K1) w:=
 R (.bool false) w
def gW(kn:K5) aA bA cU iZ pY w:=
 aB pg (aE .add 3 aK aK pY (Wo 1)) w λc6 w=>
 kn aA bA cU iZ c6 w
def gX(kn:K6)(k6:K5) aA bA cU iZ pY DK w:=
 aB pg (aE .lss 3 aK aK DK cU) w λo3 w=>
 eU o3
  ((dr w)=(dr w)/\
  (dr w)=(dr w)/\
  aB pg (aL 53 aA DK) (dr w) λo8 w_=>w_=(dr w)/\
  aB pg (aD 9 o8) (dr w) λo9 w_=>w_=(dr w)/\
  (dr w)=(dr w)/\
  (dr w)=(dr w)/\
  aB pg (aE .sub 3 aK aK DK (Wo 1)) (dr w) λp2 w_=>w_=(dr w)/\
  aB pg (aL 53 aA p2) (dr w) λp3 w_=>w_=(dr w)/\
  aB pg (aD 9 p3) (dr w) λp4 w_=>w_=(dr w)/\
  aH pg bQ #[o9,p4] (dr w) λp5 jO=>
  aB pg (Io .not p5) jO λp6 w_=>w_=jO/\
  eU p6
   (k6 aA bA cU iZ pY jO)
   ((dr jO)=(dr jO)/\
   (dr jO)=(dr jO)/\
   (dr jO)=(dr jO)/\
   (dr jO)=(dr jO)/\
   aB pg (aE .sub 3 aK aK DK (Wo 1)) (dr jO) λq1 w_=>w_=(dr jO)/\
   (dr jO)=(dr jO)/\
   (dr jO)=(dr jO)/\
   aB pg (aE .sub 3 aK aK DK (Wo 1)) (dr jO) λq4 w_=>w_=(dr jO)/\
   aB pg (aL 53 aA q4) (dr jO) λq5 w_=>w_=(dr jO)/\
   aB pg (aD 9 q5) (dr jO) λq6 w_=>w_=(dr jO)/\
   (dr jO)=(dr jO)/\
   (dr jO)=(dr jO)/\
   aB pg (aL 53 aA DK) (dr jO) λq9 w_=>w_=(dr jO)/\
   aB pg (aD 9 q9) (dr jO) λs0 w_=>w_=(dr jO)/\
   aB pg (aL 53 aA DK) (dr jO) λs1 w_=>w_=(dr jO)/\
   aB pg (aO 9 s1 q6) (dr jO) λ_u15 LA=>
   (vS pg (aE .sub 3 aK aK DK (Wo 1)) q1 LA/\True)/\
   aB pg (aL 53 aA q1) LA λs2 w_=>w_=LA/\
   aB pg (aO 9 s2 s0) LA λ_u17 Tp=>
   aB pg (aE .add 3 aK aK DK (Wo 1)) Tp λo5 w=>
   kn aA bA cU iZ pY o5 w))
  (k6 aA bA cU iZ pY w)
def dU(k6:K5) aA bA cU iZ pY DK w:=
 bL (λ(X:Wn->K0) (t:Wn) (w:Wm)=>gX (λ_ _ _ _ _ DK w=>X DK w) k6 aA bA cU iZ pY t w) DK w
theorem mR(k6:K5)(h6:E5 Q k6 6 0 1 2 7 8)(h:dU k6 (g 0) (g 1) (g 2) (g 7) (g 8) (g 10) w):eI pg aQ (bI (aM 1 (cT (aM 1 (aM 1 (aM 3 (aM 1 (bI (bN 1 (aM 1 (bI (bI (aM 1 (bN 1 (aM 2 aN))))))))))))))) Q g w:=by
 refine Gv (λg:Env=>g 10) (λX t w=>gX (λ_ _ _ _ _ DK w=>X DK w) k6 (g 0) (g 1) (g 2) (g 7) (g 8) t w) h (λX g1 w1 ha hL=> ?_)
 rw[<-mB 0 ha,<-mB 1 ha,<-mB 2 ha,<-mB 7 ha,<-mB 8 ha]at hL
 exact(Gt [(6,(I3 k6 0 1 2 7 8))] (kr:=no) (LK (λ_ _ _ _ _ DK w=>X DK w) 0 1 2 7 8 10) hL jQ GV ⟨h6,trivial⟩)
def oK(kn:K6) aA bA cU iZ pY w:=
 aB pg (aE .add 3 aK aK iZ (Wo 1)) w λo0 w=>
 kn aA bA cU iZ pY o0 w
def oL(kn:K5) aA bA cU iZ pY w:=
 oK (dU kn) aA bA cU iZ pY w
def oM(kn:K5) aA bA cU iZ pY w:=
 kn aA bA cU iZ pY w
def gY(kn:K5) aA bA cU iZ pY n8 w:=
 eU n8 (oL kn aA bA cU iZ pY w) (oM kn aA bA cU iZ pY w)
def nQ(kn:K6) aA bA cU iZ pY w:=
 aB pg (aE .sub 3 aK aK cU iZ) w λn7 w=>
 aB pg (aE .geq 3 aK aK n7 (Wo 2)) w λn8 w=>
 kn aA bA cU iZ pY n8 w
def gF(kn:K5) aA bA cU iZ pY w:=
 nQ (gY kn) aA bA cU iZ pY w
def gG(kn:K6)(k4:K5) aA bA cU iZ pY Mb w:=
 aB pg (aE .geq 3 aK aK Mb (Wo 1)) w λj5 w=>
 eU j5
  ((dr w)=(dr w)/\
  (dr w)=(dr w)/\
  aB pg (aL 53 aA Mb) (dr w) λl0 w_=>w_=(dr w)/\
  aB pg (aD 9 l0) (dr w) λl1 w_=>w_=(dr w)/\
  (dr w)=(dr w)/\
  (dr w)=(dr w)/\
  aB pg (aE .sub 3 aK aK Mb (Wo 1)) (dr w) λl4 w_=>w_=(dr w)/\
  aB pg (aL 53 aA l4) (dr w) λl5 w_=>w_=(dr w)/\
  aB pg (aD 9 l5) (dr w) λl6 w_=>w_=(dr w)/\
  aH pg bQ #[l1,l6] (dr w) λl7 jN=>
  aB pg (Io .not l7) jN λl8 w_=>w_=jN/\
  eU l8
   (k4 aA bA cU iZ pY jN)
   ((dr jN)=(dr jN)/\
   (dr jN)=(dr jN)/\
   (dr jN)=(dr jN)/\
   (dr jN)=(dr jN)/\
   aB pg (aE .sub 3 aK aK Mb (Wo 1)) (dr jN) λm3 w_=>w_=(dr jN)/\
   (dr jN)=(dr jN)/\
   (dr jN)=(dr jN)/\
   aB pg (aE .sub 3 aK aK Mb (Wo 1)) (dr jN) λm6 w_=>w_=(dr jN)/\
   aB pg (aL 53 aA m6) (dr jN) λm7 w_=>w_=(dr jN)/\
   aB pg (aD 9 m7) (dr jN) λm8 w_=>w_=(dr jN)/\
   (dr jN)=(dr jN)/\
   (dr jN)=(dr jN)/\
   aB pg (aL 53 aA Mb) (dr jN) λn1 w_=>w_=(dr jN)/\
   aB pg (aD 9 n1) (dr jN) λn2 w_=>w_=(dr jN)/\
   aB pg (aL 53 aA Mb) (dr jN) λn3 w_=>w_=(dr jN)/\
   aB pg (aO 9 n3 m8) (dr jN) λ_u15 Lz=>
   (vS pg (aE .sub 3 aK aK Mb (Wo 1)) m3 Lz/\True)/\
   aB pg (aL 53 aA m3) Lz λn4 w_=>w_=Lz/\
   aB pg (aO 9 n4 n2) Lz λ_u17 Tm=>
   aB pg (aE .sub 3 aK aK Mb (Wo 1)) Tm λj7 w=>
   kn aA bA cU iZ pY j7 w))
  (k4 aA bA cU iZ pY w)
def dH(k4:K5) aA bA cU iZ pY Mb w:=
 bL (λ(X:Wn->K0) (t:Wn) (w:Wm)=>gG (λ_ _ _ _ _ Mb w=>X Mb w) k4 aA bA cU iZ pY t w) Mb w
theorem mF(k4:K5)(h4:E5 Q k4 4 0 1 2 7 8)(h:dH k4 (g 0) (g 1) (g 2) (g 7) (g 8) (g 9) w):eI pg aQ (bI (aM 1 (cT (aM 1 (bN 1 (aM 3 (aM 1 (bI (bN 1 (aM 1 (bI (bI (aM 1 (bN 1 (aM 2 aN))))))))))))))) Q g w:=by
 refine Gv (λg:Env=>g 9) (λX t w=>gG (λ_ _ _ _ _ Mb w=>X Mb w) k4 (g 0) (g 1) (g 2) (g 7) (g 8) t w) h (λX g1 w1 ha hL=> ?_)
 rw[<-mB 0 ha,<-mB 1 ha,<-mB 2 ha,<-mB 7 ha,<-mB 8 ha]at hL
 exact(Gt [(4,(I3 k4 0 1 2 7 8))] (kr:=no) (LK (λ_ _ _ _ _ Mb w=>X Mb w) 0 1 2 7 8 9) hL jQ GV ⟨h4,trivial⟩)
def nR(kn:K6) aA bA cU iZ pY w:=
 aB pg (aE .sub 3 aK aK iZ (Wo 1)) w λj3 w=>
 kn aA bA cU iZ pY j3 w
def nS(kn:K5) aA bA cU iZ pY w:=
 nR (dH kn) aA bA cU iZ pY w
def nT(kn:K5) aA bA cU iZ pY w:=
 kn aA bA cU iZ pY w
def gH(kn:K5) aA bA cU iZ pY j1 w:=
 eU j1 (nS kn aA bA cU iZ pY w) (nT kn aA bA cU iZ pY w)
def nU(kn:K6) aA bA cU iZ pY w:=
 aB pg (aE .sub 3 aK aK iZ bA) w λj0 w=>
 aB pg (aE .geq 3 aK aK j0 (Wo 2)) w λj1 w=>
 kn aA bA cU iZ pY j1 w
def gI(kn:K5) aA bA cU iZ pY w:=
 nU (gH kn) aA bA cU iZ pY w
def gJ(kn:K5) aA bA cU iZ pY w:=
 gI (gF kn) aA bA cU iZ pY w
theorem mG(kn:K5)(hn:N5 Q kn 0 1 2 7 8)(h:gI kn (g 0) (g 1) (g 2) (g 7) (g 8) w):eI pg aQ (bN 1 (aM 3 (aM 1 (bI (bN 1 (aM 1 (bI (bI (aM 1 (bN 1 (aM 2 aN))))))))))) Q g w:=
 kA 1 (pG (LK (gH kn) 0 1 2 7 8 61) h (λg w h=>aI (Rh (.tmp 61) (λh=>(kA 1 (pG (LK (dH kn) 0 1 2 7 8 9) h (λg w h=>aI (CG 4 (mF _ g w kn hn h)))))) (λh=>(pG _ h hn)) h)))
def dI(kn:K5)(R:K1) aA bA cU iZ pY w:=
 aB pg (aE .eql 3 (.tmp 35) (.tmp 36) iZ cU) w λe7 w=>
 eU e7
  (R (.bool true) w)
  (aB pg (aE .sub 3 aK aK cU bA) w λf0 w=>
  aB pg (aE .lss 3 aK aK f0 (Wo 50)) w λf1 w=>
  eU f1
   (R (.bool false) w)
   ((dr w)=(dr w)/\
   (dr w)=(dr w)/\
   (dr w)=(dr w)/\
   (dr w)=(dr w)/\
   aB pg (aE .sub 3 aK aK iZ (Wo 1)) (dr w) λf6 w_=>w_=(dr w)/\
   (dr w)=(dr w)/\
   (dr w)=(dr w)/\
   aB pg (aE .sub 3 aK aK iZ (Wo 1)) (dr w) λf9 w_=>w_=(dr w)/\
   aB pg (aL 53 aA f9) (dr w) λi0 w_=>w_=(dr w)/\
   aB pg (aD 9 i0) (dr w) λi1 w_=>w_=(dr w)/\
   (dr w)=(dr w)/\
   (dr w)=(dr w)/\
   aB pg (aL 53 aA iZ) (dr w) λi4 w_=>w_=(dr w)/\
   aB pg (aD 9 i4) (dr w) λi5 w_=>w_=(dr w)/\
   aB pg (aL 53 aA iZ) (dr w) λi6 w_=>w_=(dr w)/\
   aB pg (aO 9 i6 i1) (dr w) λ_u15 Lw=>
   (vS pg (aE .sub 3 aK aK iZ (Wo 1)) f6 Lw/\True)/\
   aB pg (aL 53 aA f6) Lw λi7 w_=>w_=Lw/\
   aB pg (aO 9 i7 i5) Lw λ_u17 Tk=>
   kn aA bA cU iZ pY Tk))
def bS(kn:K5)(R:K1) aA bA cU iZ pY w:=
 dI (gJ kn) R aA bA cU iZ pY w
def dJ(kn:K5)(k2:K5) aA bA cU iZ pY w:=
 (dr w)=(dr w)/\
 (dr w)=(dr w)/\
 aB pg (aE .lss 3 aK aK iZ cU) (dr w) λc9 w_=>w_=(dr w)/\
 (dr w)=(dr w)/\
 Gd (bB c9 true) (λK=>K aA (dr w)) (dr w) λd1 w_=>w_=(dr w)/\
 Gd (bB c9 true) (λK=>K iZ (dr w)) (dr w) λd2 w_=>w_=(dr w)/\
 Gd (bB c9 true) (λK=>aB pg (aL 53 d1 d2) (dr w) K) (dr w) λd3 w_=>w_=(dr w)/\
 Gd (bB c9 true) (λK=>aB pg (aD 9 d3) (dr w) K) (dr w) λd4 w_=>w_=(dr w)/\
 Gd (bB c9 true) (λK=>K aA (dr w)) (dr w) λd5 w_=>w_=(dr w)/\
 Gd (bB c9 true) (λK=>K iZ (dr w)) (dr w) λd6 w_=>w_=(dr w)/\
 Gd (bB c9 true) (λK=>aB pg (aE .sub 3 aK aK d6 (Wo 1)) (dr w) K) (dr w) λd7 w_=>w_=(dr w)/\
 Gd (bB c9 true) (λK=>aB pg (aL 53 d5 d7) (dr w) K) (dr w) λd8 w_=>w_=(dr w)/\
 Gd (bB c9 true) (λK=>aB pg (aD 9 d8) (dr w) K) (dr w) λd9 w_=>w_=(dr w)/\
 Gd (bB c9 true) (λK=>aH pg bQ #[d4,d9] (dr w) K) (dr w) λe0 J1=>
 Gd (bB c9 true) (λK=>aB pg (Io .not e0) J1 K) J1 λe1 w_=>w_=J1/\
 aB pg (dW c9 e1 (.bool false)) J1 λe2 w_=>w_=J1/\
 eU e2
  (aB pg (aE .add 3 aK aK iZ (Wo 1)) J1 λe4 w=>
  kn aA bA cU e4 pY w)
  (k2 aA bA cU iZ pY J1)
def bT(k2:K5) aA bA cU iZ pY w:=
 bL (λ(X:Wn->K0) (t:Wn) (w:Wm)=>dJ (λ_ _ _ iZ _ w=>X iZ w) k2 aA bA cU t pY w) iZ w
theorem mH(k2:K5)(h2:E5 Q k2 2 0 1 2 7 8)(h:bT k2 (g 0) (g 1) (g 2) (g 7) (g 8) w):eI pg aQ (bI (bN 1 (bI (bN 1 (aM 1 (bI (bI (aM 1 (bN 1 (aM 2 aN)))))))))) Q g w:=by
 refine Gv (λg:Env=>g 7) (λX t w=>dJ (λ_ _ _ iZ _ w=>X iZ w) k2 (g 0) (g 1) (g 2) t (g 8) w) h (λX g1 w1 ha hL=> ?_)
 rw[<-mB 0 ha,<-mB 1 ha,<-mB 2 ha,<-mB 8 ha]at hL
 exact(Gt [(2,(I3 k2 0 1 2 7 8))] (kr:=no) (I3 (λ_ _ _ iZ _ w=>X iZ w) 0 1 2 7 8) hL jQ GV ⟨h2,trivial⟩)
def dK(kn:K5)(R:K1) aA bA cU iZ pY w:=
 bT (bS kn R) aA bA cU iZ pY w
theorem mI(kn:K5)(hn:N5 Q kn 0 1 2 7 8)(h:bT kn (g 0) (g 1) (g 2) (g 7) (g 8) w):eI pg aQ (bN 1 (bI (bN 1 (aM 1 (bI (bI (aM 1 (bN 1 (aM 2 aN))))))))) Q g w:=
 CG 2 (mH _ g w kn hn h)
def dL(kn:K5)(R:K1) aA bA cU iZ pY w:=
 dK (gW kn) R aA bA cU iZ pY w
theorem mJ(kn:K5)(R:K1)(hn:N5 Q kn 0 1 2 7 8)(hr:HR bX R Q)(h:dK kn R (g 0) (g 1) (g 2) (g 7) (g 8) w):eI pg aQ (bN 1 (aM 1 (bI (bI (aM 1 (bN 1 (aM 2 aN))))))) Q g w:=
 CG 1 (kA 1 (mI _ g w (bS kn R) (λg w h=>aI (kA 3 (Px (I3 (gJ kn) 0 1 2 7 8) h (λg w h=>aI (kA 1 (mG _ g w (gF kn) (λg w h=>aI (kA 1 (pG (LK (gY kn) 0 1 2 7 8 98) h (λg w h=>aI (Rh (.tmp 98) (λh=>(kA 1 (pG (LK (dU kn) 0 1 2 7 8 10) h (λg w h=>aI (CG 6 (mR _ g w kn hn h)))))) (λh=>(pG _ h hn)) h))))) h))) hr))) h))
def gK(kn:K5)(k0:K0) aA bA cU iZ pY w:=
 aB pg (aE .lss 3 aK aK pY (Wo 5)) w λc4 w=>
 eU c4
  (kn aA bA cU iZ pY w)
  (k0 w)
def dM(kn:K5)(k0:K0)(R:K1) aA bA cU iZ pY w:=
 gK (dL kn R) k0 aA bA cU iZ pY w
def bU(k0:K0)(R:K1) aA bA cU iZ pY w:=
 bL (λ(X:(Wn×Wn)->K0) (t:Wn×Wn) (w:Wm)=>dM (λ_ _ _ iZ pY w=>X (iZ,pY) w) k0 R aA bA cU t.1 t.2 w) (iZ,pY) w
theorem mK(k0:K0)(R:K1)(h0:E0 Q k0 0)(hr:HR bX R Q)(h:bU k0 R (g 0) (g 1) (g 2) (g 7) (g 8) w):eI pg aQ (bI (aM 1 (bN 1 (aM 2 aN)))) Q g w:=by
 refine Gv (λg:Env=>(g 7,g 8)) (λX t w=>dM (λ_ _ _ iZ pY w=>X (iZ,pY) w) k0 R (g 0) (g 1) (g 2) t.1 t.2 w) h (λX g1 w1 ha hL=> ?_)
 rw[<-mB 0 ha,<-mB 1 ha,<-mB 2 ha]at hL
 exact(kA 1 (Gt [(0,(MY k0))] (kr:=no) (I3 (dL (λ_ _ _ iZ pY w=>X (iZ,pY) w) R) 0 1 2 7 8) hL (λg w h=>aI (kA 1 (mJ _ g w (gW (λ_ _ _ iZ pY w=>X (iZ,pY) w)) R (λg w h=>aI (pG (I3 (λ_ _ _ iZ pY w=>X (iZ,pY) w) 0 1 2 7 8) h jQ)) hr h))) GV ⟨h0,trivial⟩))
def gO(kn:K5) aA bA cU iZ w:=
 kn aA bA cU iZ (Wo 0) w
def dN(kn:K0)(R:K1) aA bA cU iZ w:=
 gO (bU kn R) aA bA cU iZ w
def dO(R:K1) aA bA cU iZ w:=
 dN (gV R) R aA bA cU iZ w
theorem mL(kn:K0)(R:K1)(hn:N0 Q kn)(hr:HR bX R Q)(h:dN kn R (g 0) (g 1) (g 2) (g 7) w):eI pg aQ (bN 1 (aM 2 aN)) Q g w:=
 kA 1 (pG (I3 (bU kn R) 0 1 2 7 8) h (λg w h=>aI (CG 0 (mK _ g w kn R hn hr h))))
def gP(kn:K4) aA bA cU w:=
 aB pg (aE .add 3 aK aK bA (Wo 1)) w λc2 w=>
 kn aA bA cU c2 w
def gQ(R:K1) aA bA cU w:=
 gP (dO R) aA bA cU w
def jC a0 a1 a2 w(R:K1):=
 gQ R a0 a1 a2 w
theorem nK{a0 a1 a2 w R}(h:jC a0 a1 a2 w R):aH pg cA #[a0,a1,a2] w R:=
 vX (ann:=aQ) Try.f54 aN [a0,a1,a2] bX 133 TryM.mixed Try.func54 (kA 2 (pG (CW (dO R) 0 1 2 7) h (λg w h=>aI (kA 1 (mL _ g w (gV R) R (λg w h=>aI (yO h jQ)) jQ h)))))
def Gz:FA:=⟨bQ,λi=> .leaf ([],[]) []⟩
def HP:List ResultVar:=[.tmp 4]
noncomputable def FY:Code:=bM Try.f55
def BN(R:K1) Gr UF w:=
 aH pg mU #[Gr] w λb6 w=>
 Gd (bB b6 true) (λK=>K UF w) w λb8 w=>
 Gd (bB b6 true) (λK=>aH pg mU #[b8] w K) w λb9 w=>
 Gd (bB b6 true) (λK=>aB pg (Io .not b9) w K) w λc0 w=>
 aB pg (dW b6 c0 (.bool false)) w λc1 w=>
 Gd (bB c1 false) (λK=>K Gr w) w λc3 w=>
 Gd (bB c1 false) (λK=>K UF w) w λc4 w=>
 Gd (bB c1 false) (λK=>aB pg (aE .lss 9 aK aK c3 c4) w K) w λc5 w=>
 aB pg (dW c1 (.bool true) c5) w λc6 w=>
 R c6 w
def EZ a0 a1 w(R:K1):=
 BN R a0 a1 w
theorem FX{a0 a1 w R}(h:EZ a0 a1 w R):aH pg bQ #[a0,a1] w R:=
 vX (ann:=Gz) Try.f55 FY [a0,a1] HP 17 TryM.mixed Try.func55 (yO h jQ)
def aT:FA:=⟨cY,λi=>match Nat.beq i 1 with|true=> .leaf ([13,15],[]) (fz 13 (ft [] (fz 1 (ft [] []))))|false=>match Nat.beq i 3 with|true=> .leaf ([12],[]) (fz 12 (ft [] (fz 1 [])))|false=>match Nat.beq i 5 with|true=> .leaf ([12],[]) (fz 12 (ft [] (fz 2 [])))|false=>match Nat.beq i 8 with|true=> .leaf ([13,15],[]) (fz 13 (ft [] (fz 1 (ft [] []))))|false=>match Nat.beq i 10 with|true=> .leaf ([13,15],[]) (fz 13 (ft [] (fz 1 (ft [] []))))|false=>match Nat.beq i 13 with|true=> .leaf ([12],[]) (fz 12 (ft [] (fz 1 [])))|false=>match Nat.beq i 15 with|true=> .leaf ([12],[]) (fz 12 (ft [] (fz 2 [])))|false=>match Nat.beq i 18 with|true=> .leaf ([13,15],[]) (fz 13 (ft [] (fz 1 (ft [] []))))|false=>match Nat.beq i 21 with|true=> .leaf ([13,15],[]) (fz 13 (ft [] (fz 1 (ft [] []))))|false=> .leaf ([],[]) []⟩
def vF:List ResultVar:=[.tmp 8,.tmp 9]
noncomputable def aS:Code:=bM Try.f57
def iJ(R:K1) aA bA bV w:=
 (dr w)=(dr w)/\
 (dr w)=(dr w)/\
 (dr w)=(dr w)/\
 (dr w)=(dr w)/\
 (dr w)=(dr w)/\
 (dr w)=(dr w)/\
 aB pg (aL 53 aA bA) (dr w) λv9 w_=>w_=(dr w)/\
 aB pg (aD 9 v9) (dr w) λx0 w_=>w_=(dr w)/\
 (dr w)=(dr w)/\
 (dr w)=(dr w)/\
 aB pg (aL 53 aA bV) (dr w) λx3 w_=>w_=(dr w)/\
 aB pg (aD 9 x3) (dr w) λx4 w_=>w_=(dr w)/\
 aB pg (aL 53 aA bV) (dr w) λx5 w_=>w_=(dr w)/\
 aB pg (aO 9 x5 x0) (dr w) λ_u13 NT=>
 aB pg (aL 53 aA bA) NT λx6 w_=>w_=NT/\
 aB pg (aO 9 x6 x4) NT λ_u15 To=>
 R (.tuple #[bV,(.bool false)]) To
def iK(kn:K4)(k4:K3) aA bA bF bV w:=
 aB pg (aE .gtr 3 aK aK bF bV) w λs4 w=>
 eU s4
  (k4 aA bA bV w)
  ((dr w)=(dr w)/\
  (dr w)=(dr w)/\
  (dr w)=(dr w)/\
  (dr w)=(dr w)/\
  (dr w)=(dr w)/\
  (dr w)=(dr w)/\
  aB pg (aL 53 aA bV) (dr w) λu1 w_=>w_=(dr w)/\
  aB pg (aD 9 u1) (dr w) λu2 w_=>w_=(dr w)/\
  (dr w)=(dr w)/\
  (dr w)=(dr w)/\
  aB pg (aL 53 aA bF) (dr w) λu5 w_=>w_=(dr w)/\
  aB pg (aD 9 u5) (dr w) λu6 w_=>w_=(dr w)/\
  aB pg (aL 53 aA bF) (dr w) λu7 w_=>w_=(dr w)/\
  aB pg (aO 9 u7 u2) (dr w) λ_u13 NS=>
  aB pg (aL 53 aA bV) NS λu8 w_=>w_=NS/\
  aB pg (aO 9 u8 u6) NS λ_u15 Tn=>
  aB pg (aE .add 3 aK aK bF (Wo 1)) Tn λv0 w=>
  aB pg (aE .sub 3 aK aK bV (Wo 1)) w λv2 w=>
  kn aA bA v0 v2 w)
def iM(kn:K4)(k8:K4) aA bA bF bV w:=
 (dr w)=(dr w)/\
 (dr w)=(dr w)/\
 aB pg (aE .leq 3 aK aK bF bV) (dr w) λp7 w_=>w_=(dr w)/\
 (dr w)=(dr w)/\
 Gd (bB p7 true) (λK=>K aA (dr w)) (dr w) λp9 w_=>w_=(dr w)/\
 Gd (bB p7 true) (λK=>K bV (dr w)) (dr w) λq0 w_=>w_=(dr w)/\
 Gd (bB p7 true) (λK=>aB pg (aL 53 p9 q0) (dr w) K) (dr w) λq1 w_=>w_=(dr w)/\
 Gd (bB p7 true) (λK=>aB pg (aD 9 q1) (dr w) K) (dr w) λq2 w_=>w_=(dr w)/\
 Gd (bB p7 true) (λK=>K aA (dr w)) (dr w) λq3 w_=>w_=(dr w)/\
 Gd (bB p7 true) (λK=>K bA (dr w)) (dr w) λq4 w_=>w_=(dr w)/\
 Gd (bB p7 true) (λK=>aB pg (aL 53 q3 q4) (dr w) K) (dr w) λq5 w_=>w_=(dr w)/\
 Gd (bB p7 true) (λK=>aB pg (aD 9 q5) (dr w) K) (dr w) λq6 w_=>w_=(dr w)/\
 Gd (bB p7 true) (λK=>aH pg bQ #[q2,q6] (dr w) K) (dr w) λq7 Gp=>
 Gd (bB p7 true) (λK=>aB pg (Io .not q7) Gp K) Gp λq8 w_=>w_=Gp/\
 aB pg (dW p7 q8 (.bool false)) Gp λq9 w_=>w_=Gp/\
 eU q9
  (aB pg (aE .sub 3 aK aK bV (Wo 1)) Gp λs1 w=>
  kn aA bA bF s1 w)
  (k8 aA bA bF bV Gp)
def cR(k8:K4) aA bA bF bV w:=
 bL (λ(X:Wn->K0) (t:Wn) (w:Wm)=>iM (λ_ _ _ bV w=>X bV w) k8 aA bA bF t w) bV w
theorem tE(k8:K4)(h8:E4 Q k8 8 0 1 10 11)(h:cR k8 (g 0) (g 1) (g 10) (g 11) w):eI pg aT (bI (bN 1 (aM 1 (bI (bI (bI (bN 1 (aM 4 (aM 1 (aM 1 (aM 3 aS))))))))))) Q g w:=by
 refine Gv (λg:Env=>g 11) (λX t w=>iM (λ_ _ _ bV w=>X bV w) k8 (g 0) (g 1) (g 10) t w) h (λX g1 w1 ha hL=> ?_)
 rw[<-mB 0 ha,<-mB 1 ha,<-mB 10 ha]at hL
 exact(Gt [(8,(CW k8 0 1 10 11))] (kr:=no) (CW (λ_ _ _ bV w=>X bV w) 0 1 10 11) hL jQ GV ⟨h8,trivial⟩)
def iN(kn:K4)(k4:K3) aA bA bF bV w:=
 cR (iK kn k4) aA bA bF bV w
theorem tF(kn:K4)(hn:N4 Q kn 0 1 10 11)(h:cR kn (g 0) (g 1) (g 10) (g 11) w):eI pg aT (bN 1 (aM 1 (bI (bI (bI (bN 1 (aM 4 (aM 1 (aM 1 (aM 3 aS)))))))))) Q g w:=
 CG 8 (tE _ g w kn hn h)
def iO(kn:K4)(k6:K4) aA bA bF bV w:=
 (dr w)=(dr w)/\
 (dr w)=(dr w)/\
 aB pg (aE .leq 3 aK aK bF bV) (dr w) λo1 w_=>w_=(dr w)/\
 (dr w)=(dr w)/\
 Gd (bB o1 true) (λK=>K aA (dr w)) (dr w) λo3 w_=>w_=(dr w)/\
 Gd (bB o1 true) (λK=>K bF (dr w)) (dr w) λo4 w_=>w_=(dr w)/\
 Gd (bB o1 true) (λK=>aB pg (aL 53 o3 o4) (dr w) K) (dr w) λo5 w_=>w_=(dr w)/\
 Gd (bB o1 true) (λK=>aB pg (aD 9 o5) (dr w) K) (dr w) λo6 w_=>w_=(dr w)/\
 Gd (bB o1 true) (λK=>K aA (dr w)) (dr w) λo7 w_=>w_=(dr w)/\
 Gd (bB o1 true) (λK=>K bA (dr w)) (dr w) λo8 w_=>w_=(dr w)/\
 Gd (bB o1 true) (λK=>aB pg (aL 53 o7 o8) (dr w) K) (dr w) λo9 w_=>w_=(dr w)/\
 Gd (bB o1 true) (λK=>aB pg (aD 9 o9) (dr w) K) (dr w) λp0 w_=>w_=(dr w)/\
 Gd (bB o1 true) (λK=>aH pg bQ #[o6,p0] (dr w) K) (dr w) λp1 Lx=>
 aB pg (dW o1 p1 (.bool false)) Lx λp2 w_=>w_=Lx/\
 eU p2
  (aB pg (aE .add 3 aK aK bF (Wo 1)) Lx λp4 w=>
  kn aA bA p4 bV w)
  (k6 aA bA bF bV Lx)
def cS(k6:K4) aA bA bF bV w:=
 bL (λ(X:Wn->K0) (t:Wn) (w:Wm)=>iO (λ_ _ bF _ w=>X bF w) k6 aA bA t bV w) bF w
theorem tG(k6:K4)(h6:E4 Q k6 6 0 1 10 11)(h:cS k6 (g 0) (g 1) (g 10) (g 11) w):eI pg aT (bI (bN 1 (bI (bI (bI (bN 1 (aM 4 (aM 1 (aM 1 (aM 3 aS)))))))))) Q g w:=by
 refine Gv (λg:Env=>g 10) (λX t w=>iO (λ_ _ bF _ w=>X bF w) k6 (g 0) (g 1) t (g 11) w) h (λX g1 w1 ha hL=> ?_)
 rw[<-mB 0 ha,<-mB 1 ha,<-mB 11 ha]at hL
 exact(Gt [(6,(CW k6 0 1 10 11))] (kr:=no) (CW (λ_ _ bF _ w=>X bF w) 0 1 10 11) hL jQ GV ⟨h6,trivial⟩)
def hC(kn:K4)(k4:K3) aA bA bF bV w:=
 cS (iN kn k4) aA bA bF bV w
theorem tH(kn:K4)(hn:N4 Q kn 0 1 10 11)(h:cS kn (g 0) (g 1) (g 10) (g 11) w):eI pg aT (bN 1 (bI (bI (bI (bN 1 (aM 4 (aM 1 (aM 1 (aM 3 aS))))))))) Q g w:=
 CG 6 (tG _ g w kn hn h)
def eD(k4:K3) aA bA bF bV w:=
 bL (λ(X:(Wn×Wn)->K0) (t:Wn×Wn) (w:Wm)=>hC (λ_ _ bF bV w=>X (bF,bV) w) k4 aA bA t.1 t.2 w) (bF,bV) w
theorem sF(k4:K3)(h4:E3 Q k4 4 0 1 11)(h:eD k4 (g 0) (g 1) (g 10) (g 11) w):eI pg aT (bI (bN 1 (aM 4 (aM 1 (aM 1 (aM 3 aS)))))) Q g w:=by
 refine Gv (λg:Env=>(g 10,g 11)) (λX t w=>hC (λ_ _ bF bV w=>X (bF,bV) w) k4 (g 0) (g 1) t.1 t.2 w) h (λX g1 w1 ha hL=> ?_)
 rw[<-mB 0 ha,<-mB 1 ha]at hL
 exact(CG 5 (kA 1 (tH _ g1 w1 (iN (λ_ _ bF bV w=>X (bF,bV) w) k4) (λg w h=>aI (kA 1 (tF _ g w (iK (λ_ _ bF bV w=>X (bF,bV) w) k4) (λg w h=>aI (Gt [(4,(KT k4 0 1 11))] (kr:=no) (CW (λ_ _ bF bV w=>X (bF,bV) w) 0 1 10 11) h jQ GV ⟨h4,trivial⟩)) h))) hL)))
def hG(R:K1) aA bA bF bV w:=
 eD (iJ R) aA bA bF bV w
theorem sG(kn:K3)(hn:N3 Q kn 0 1 11)(h:eD kn (g 0) (g 1) (g 10) (g 11) w):eI pg aT (bN 1 (aM 4 (aM 1 (aM 1 (aM 3 aS))))) Q g w:=
 CG 4 (sF _ g w kn hn h)
def lY(kn:K4)(R:K1) aA bA bF bV w:=
 aB pg (aE .gtr 3 aK aK bF bV) w λj5 w=>
 eU j5
  ((dr w)=(dr w)/\
  (dr w)=(dr w)/\
  (dr w)=(dr w)/\
  (dr w)=(dr w)/\
  (dr w)=(dr w)/\
  (dr w)=(dr w)/\
  aB pg (aL 53 aA bA) (dr w) λl2 w_=>w_=(dr w)/\
  aB pg (aD 9 l2) (dr w) λl3 w_=>w_=(dr w)/\
  (dr w)=(dr w)/\
  (dr w)=(dr w)/\
  aB pg (aL 53 aA bV) (dr w) λl6 w_=>w_=(dr w)/\
  aB pg (aD 9 l6) (dr w) λl7 w_=>w_=(dr w)/\
  aB pg (aL 53 aA bV) (dr w) λl8 w_=>w_=(dr w)/\
  aB pg (aO 9 l8 l3) (dr w) λ_u13 Q8=>
  aB pg (aL 53 aA bA) Q8 λl9 w_=>w_=Q8/\
  aB pg (aO 9 l9 l7) Q8 λ_u15 T3=>
  R (.tuple #[bV,(.bool true)]) T3)
  ((dr w)=(dr w)/\
  (dr w)=(dr w)/\
  (dr w)=(dr w)/\
  (dr w)=(dr w)/\
  (dr w)=(dr w)/\
  (dr w)=(dr w)/\
  aB pg (aL 53 aA bV) (dr w) λm7 w_=>w_=(dr w)/\
  aB pg (aD 9 m7) (dr w) λm8 w_=>w_=(dr w)/\
  (dr w)=(dr w)/\
  (dr w)=(dr w)/\
  aB pg (aL 53 aA bF) (dr w) λn1 w_=>w_=(dr w)/\
  aB pg (aD 9 n1) (dr w) λn2 w_=>w_=(dr w)/\
  aB pg (aL 53 aA bF) (dr w) λn3 w_=>w_=(dr w)/\
  aB pg (aO 9 n3 m8) (dr w) λ_u13 NP=>
  aB pg (aL 53 aA bV) NP λn4 w_=>w_=NP/\
  aB pg (aO 9 n4 n2) NP λ_u15 Tj=>
  aB pg (aE .add 3 aK aK bF (Wo 1)) Tj λn6 w=>
  aB pg (aE .sub 3 aK aK bV (Wo 1)) w λn8 w=>
  kn aA bA n6 n8 w)
def hH(R:K1) aA bA bF bV w:=
 lY (hG R) R aA bA bF bV w
def hJ(kn:K4)(k2:K4) aA bA bF bV w:=
 (dr w)=(dr w)/\
 (dr w)=(dr w)/\
 aB pg (aE .leq 3 aK aK bF bV) (dr w) λf8 w_=>w_=(dr w)/\
 (dr w)=(dr w)/\
 Gd (bB f8 true) (λK=>K aA (dr w)) (dr w) λi0 w_=>w_=(dr w)/\
 Gd (bB f8 true) (λK=>K bV (dr w)) (dr w) λi1 w_=>w_=(dr w)/\
 Gd (bB f8 true) (λK=>aB pg (aL 53 i0 i1) (dr w) K) (dr w) λi2 w_=>w_=(dr w)/\
 Gd (bB f8 true) (λK=>aB pg (aD 9 i2) (dr w) K) (dr w) λi3 w_=>w_=(dr w)/\
 Gd (bB f8 true) (λK=>K aA (dr w)) (dr w) λi4 w_=>w_=(dr w)/\
 Gd (bB f8 true) (λK=>K bA (dr w)) (dr w) λi5 w_=>w_=(dr w)/\
 Gd (bB f8 true) (λK=>aB pg (aL 53 i4 i5) (dr w) K) (dr w) λi6 w_=>w_=(dr w)/\
 Gd (bB f8 true) (λK=>aB pg (aD 9 i6) (dr w) K) (dr w) λi7 w_=>w_=(dr w)/\
 Gd (bB f8 true) (λK=>aH pg bQ #[i3,i7] (dr w) K) (dr w) λi8 dF=>
 Gd (bB f8 true) (λK=>aB pg (Io .not i8) dF K) dF λi9 w_=>w_=dF/\
 aB pg (dW f8 i9 (.bool false)) dF λj0 w_=>w_=dF/\
 eU j0
  (aB pg (aE .sub 3 aK aK bV (Wo 1)) dF λj2 w=>
  kn aA bA bF j2 w)
  (k2 aA bA bF bV dF)
def cL(k2:K4) aA bA bF bV w:=
 bL (λ(X:Wn->K0) (t:Wn) (w:Wm)=>hJ (λ_ _ _ bV w=>X bV w) k2 aA bA bF t w) bV w
theorem sH(k2:K4)(h2:E4 Q k2 2 0 1 10 11)(h:cL k2 (g 0) (g 1) (g 10) (g 11) w):eI pg aT (bI (bN 1 (aM 1 (aM 3 aS)))) Q g w:=by
 refine Gv (λg:Env=>g 11) (λX t w=>hJ (λ_ _ _ bV w=>X bV w) k2 (g 0) (g 1) (g 10) t w) h (λX g1 w1 ha hL=> ?_)
 rw[<-mB 0 ha,<-mB 1 ha,<-mB 10 ha]at hL
 exact(Gt [(2,(CW k2 0 1 10 11))] (kr:=no) (CW (λ_ _ _ bV w=>X bV w) 0 1 10 11) hL jQ GV ⟨h2,trivial⟩)
def hU(R:K1) aA bA bF bV w:=
 cL (hH R) aA bA bF bV w
theorem sI(kn:K4)(hn:N4 Q kn 0 1 10 11)(h:cL kn (g 0) (g 1) (g 10) (g 11) w):eI pg aT (bN 1 (aM 1 (aM 3 aS))) Q g w:=
 CG 2 (sH _ g w kn hn h)
def iA(kn:K4)(k0:K4) aA bA bF bV w:=
 (dr w)=(dr w)/\
 (dr w)=(dr w)/\
 aB pg (aE .leq 3 aK aK bF bV) (dr w) λe2 w_=>w_=(dr w)/\
 (dr w)=(dr w)/\
 Gd (bB e2 true) (λK=>K aA (dr w)) (dr w) λe4 w_=>w_=(dr w)/\
 Gd (bB e2 true) (λK=>K bF (dr w)) (dr w) λe5 w_=>w_=(dr w)/\
 Gd (bB e2 true) (λK=>aB pg (aL 53 e4 e5) (dr w) K) (dr w) λe6 w_=>w_=(dr w)/\
 Gd (bB e2 true) (λK=>aB pg (aD 9 e6) (dr w) K) (dr w) λe7 w_=>w_=(dr w)/\
 Gd (bB e2 true) (λK=>K aA (dr w)) (dr w) λe8 w_=>w_=(dr w)/\
 Gd (bB e2 true) (λK=>K bA (dr w)) (dr w) λe9 w_=>w_=(dr w)/\
 Gd (bB e2 true) (λK=>aB pg (aL 53 e8 e9) (dr w) K) (dr w) λf0 w_=>w_=(dr w)/\
 Gd (bB e2 true) (λK=>aB pg (aD 9 f0) (dr w) K) (dr w) λf1 w_=>w_=(dr w)/\
 Gd (bB e2 true) (λK=>aH pg bQ #[e7,f1] (dr w) K) (dr w) λf2 OH=>
 aB pg (dW e2 f2 (.bool false)) OH λf3 w_=>w_=OH/\
 eU f3
  (aB pg (aE .add 3 aK aK bF (Wo 1)) OH λf5 w=>
  kn aA bA f5 bV w)
  (k0 aA bA bF bV OH)
def cM(k0:K4) aA bA bF bV w:=
 bL (λ(X:Wn->K0) (t:Wn) (w:Wm)=>iA (λ_ _ bF _ w=>X bF w) k0 aA bA t bV w) bF w
theorem sJ(k0:K4)(h0:E4 Q k0 0 0 1 10 11)(h:cM k0 (g 0) (g 1) (g 10) (g 11) w):eI pg aT (bI (bN 1 (aM 3 aS))) Q g w:=by
 refine Gv (λg:Env=>g 10) (λX t w=>iA (λ_ _ bF _ w=>X bF w) k0 (g 0) (g 1) t (g 11) w) h (λX g1 w1 ha hL=> ?_)
 rw[<-mB 0 ha,<-mB 1 ha,<-mB 11 ha]at hL
 exact(Gt [(0,(CW k0 0 1 10 11))] (kr:=no) (CW (λ_ _ bF _ w=>X bF w) 0 1 10 11) hL jQ GV ⟨h0,trivial⟩)
def iB(R:K1) aA bA bF bV w:=
 cM (hU R) aA bA bF bV w
theorem sK(kn:K4)(hn:N4 Q kn 0 1 10 11)(h:cM kn (g 0) (g 1) (g 10) (g 11) w):eI pg aT (bN 1 (aM 3 aS)) Q g w:=
 CG 0 (sJ _ g w kn hn h)
def lZ(kn:K4) aA bA cU IU w:=
 (dr w)=(dr w)/\
 (dr w)=(dr w)/\
 (dr w)=(dr w)/\
 (dr w)=(dr w)/\
 (dr w)=(dr w)/\
 (dr w)=(dr w)/\
 aB pg (aL 53 aA IU) (dr w) λc8 w_=>w_=(dr w)/\
 aB pg (aD 9 c8) (dr w) λc9 w_=>w_=(dr w)/\
 (dr w)=(dr w)/\
 (dr w)=(dr w)/\
 aB pg (aL 53 aA bA) (dr w) λd2 w_=>w_=(dr w)/\
 aB pg (aD 9 d2) (dr w) λd3 w_=>w_=(dr w)/\
 aB pg (aL 53 aA bA) (dr w) λd4 w_=>w_=(dr w)/\
 aB pg (aO 9 d4 c9) (dr w) λ_u13 Q6=>
 aB pg (aL 53 aA IU) Q6 λd5 w_=>w_=Q6/\
 aB pg (aO 9 d5 d3) Q6 λ_u15 TY=>
 aB pg (aE .add 3 aK aK bA (Wo 1)) TY λd7 w=>
 aB pg (aE .sub 3 aK aK cU (Wo 1)) w λd9 w=>
 kn aA bA d7 d9 w
def mA(R:K1) aA bA cU IU w:=
 lZ (iB R) aA bA cU IU w
def pB a0 a1 a2 a3 w(R:K1):=
 mA R a0 a1 a2 a3 w
theorem uE{a0 a1 a2 a3 w R}(h:pB a0 a1 a2 a3 w R):aH pg cY #[a0,a1,a2,a3] w R:=
 vX (ann:=aT) Try.f57 aS [a0,a1,a2,a3] vF 168 TryM.mixed Try.func57 (kA 3 (pG (CW (iB R) 0 1 10 11) h (λg w h=>aI (kA 1 (sK _ g w (hU R) (λg w h=>aI (kA 1 (sI _ g w (hH R) (λg w h=>aI (kA 4 (Px (CW (hG R) 0 1 10 11) h (λg w h=>aI (kA 1 (sG _ g w (iJ R) (λg w h=>aI (yO h jQ)) h))) jQ))) h))) h)))))
def ED:FA:=⟨pL,λi=> .leaf ([],[]) []⟩
def Gj:List ResultVar:=[.tmp 2]
noncomputable def Du:Code:=bM Try.f59
def oF(R:K1) Gr Qu w:=
 aB pg (rH 107 5 Gr) w λd1 w=>
 aB pg (Pg 9 (.string ⟨#[0,1,2,2,3,3,3,3,4,4,4,4,4,4,4,4,5,5,5,5,5,5,5,5,5,5,5,5,5,5,5,5,6,6,6,6,6,6,6,6,6,6,6,6,6,6,6,6,6,6,6,6,6,6,6,6,6,6,6,6,6,6,6,6,7,7,7,7,7,7,7,7,7,7,7,7,7,7,7,7,7,7,7,7,7,7,7,7,7,7,7,7,7,7,7,7,7,7,7,7,7,7,7,7,7,7,7,7,7,7,7,7,7,7,7,7,7,7,7,7,7,7,7,7,7,7,7,7,8,8,8,8,8,8,8,8,8,8,8,8,8,8,8,8,8,8,8,8,8,8,8,8,8,8,8,8,8,8,8,8,8,8,8,8,8,8,8,8,8,8,8,8,8,8,8,8,8,8,8,8,8,8,8,8,8,8,8,8,8,8,8,8,8,8,8,8,8,8,8,8,8,8,8,8,8,8,8,8,8,8,8,8,8,8,8,8,8,8,8,8,8,8,8,8,8,8,8,8,8,8,8,8,8,8,8,8,8,8,8,8,8,8,8,8,8,8,8,8,8,8,8,8,8,8,8,8]⟩) d1) w λd2 w=>
 aB pg (rH 5 3 d2) w λd3 w=>
 aB pg (aE .add 3 aK aK Qu d3) w λd4 w=>
 R d4 w
def Ao(kn:K2) Gr Qu w:=
 aB pg (aE .geq 107 aK aK Gr (.int .u64 256)) w λc4 w=>
 eU c4
  (aB pg (aE .shr 107 aK aK Gr (.int .u64 8)) w λc6 w=>
  aB pg (aE .add 3 aK aK Qu (Wo 8)) w λc8 w=>
  kn c6 c8 w)
  (kn Gr Qu w)
def oH(R:K1) Gr Qu w:=
 Ao (oF R) Gr Qu w
def Ap(kn:K2) Gr Qu w:=
 aB pg (aE .geq 107 aK aK Gr (.int .u64 65536)) w λb8 w=>
 eU b8
  (aB pg (aE .shr 107 aK aK Gr (.int .u64 16)) w λc0 w=>
  aB pg (aE .add 3 aK aK Qu (Wo 16)) w λc2 w=>
  kn c0 c2 w)
  (kn Gr Qu w)
def oI(R:K1) Gr Qu w:=
 Ap (oH R) Gr Qu w
def Aq(kn:K2) Gr w:=
 aB pg (aE .geq 107 aK aK Gr (.int .u64 4294967296)) w λb4 w=>
 eU b4
  (aB pg (aE .shr 107 aK aK Gr (.int .u64 32)) w λb6 w=>
  kn b6 (Wo 32) w)
  (kn Gr (Wo 0) w)
def Ar(R:K1) Gr w:=
 Aq (oI R) Gr w
def CT a0 w(R:K1):=
 Ar R a0 w
theorem DU{a0 w R}(h:CT a0 w R):aH pg pL #[a0] w R:=
 vX (ann:=ED) Try.f59 Du [a0] Gj 25 TryM.mixed Try.func59 (kA 2 (pG (MZ (oI R) 0 2) h (λg w h=>aI (kA 1 (pG (MZ (oH R) 0 2) h (λg w h=>aI (kA 1 (pG (MZ (oF R) 0 2) h (λg w h=>aI (yO h jQ))))))))))
def mN:FA:=⟨dQ,λi=>match Nat.beq i 3 with|true=> .leaf ([18],[]) (fz 18 (ft [] (fz 1 [])))|false=>match Nat.beq i 5 with|true=> .leaf ([12],[]) (fz 12 (ft [] (fz 1 [])))|false=>match Nat.beq i 6 with|true=> .leaf ([21,23],[(7,21)]) (fz 21 (ft [13] (fz 1 (ft [] []))))|false=> .leaf ([],[]) []⟩
def nF:List ResultVar:=[]
noncomputable def lU:Code:=bM Try.f60
def eS(kn:K4)(R:K1) aA GL jD mC GD w:=
 (dr w)=(dr w)/\
 (dr w)=(dr w)/\
 (dr w)=(dr w)/\
 aB pg (aE .add 3 aK aK jD mC) (dr w) λf2 w_=>w_=(dr w)/\
 aB pg (aL 53 aA f2) (dr w) λf3 w_=>w_=(dr w)/\
 aB pg (aD 9 f3) (dr w) λf4 w_=>w_=(dr w)/\
 (dr w)=(dr w)/\
 (dr w)=(dr w)/\
 (dr w)=(dr w)/\
 aB pg (aE .add 3 aK aK jD GD) (dr w) λf8 w_=>w_=(dr w)/\
 aB pg (aL 53 aA f8) (dr w) λf9 w_=>w_=(dr w)/\
 aB pg (aD 9 f9) (dr w) λi0 w_=>w_=(dr w)/\
 aH pg bQ #[f4,i0] (dr w) λi1 dF=>
 aB pg (Io .not i1) dF λi2 w_=>w_=dF/\
 eU i2
  (R (.tuple #[]) dF)
  ((dr dF)=(dr dF)/\
  (dr dF)=(dr dF)/\
  (dr dF)=(dr dF)/\
  aB pg (aE .add 3 aK aK jD mC) (dr dF) λi6 w_=>w_=(dr dF)/\
  (dr dF)=(dr dF)/\
  (dr dF)=(dr dF)/\
  (dr dF)=(dr dF)/\
  aB pg (aE .add 3 aK aK jD GD) (dr dF) λj0 w_=>w_=(dr dF)/\
  (dr dF)=(dr dF)/\
  (dr dF)=(dr dF)/\
  (dr dF)=(dr dF)/\
  aB pg (aE .add 3 aK aK jD GD) (dr dF) λj4 w_=>w_=(dr dF)/\
  aB pg (aL 53 aA j4) (dr dF) λj5 w_=>w_=(dr dF)/\
  aB pg (aD 9 j5) (dr dF) λj6 w_=>w_=(dr dF)/\
  (dr dF)=(dr dF)/\
  (dr dF)=(dr dF)/\
  (dr dF)=(dr dF)/\
  aB pg (aE .add 3 aK aK jD mC) (dr dF) λl0 w_=>w_=(dr dF)/\
  aB pg (aL 53 aA l0) (dr dF) λl1 w_=>w_=(dr dF)/\
  aB pg (aD 9 l1) (dr dF) λl2 w_=>w_=(dr dF)/\
  aB pg (aL 53 aA i6) (dr dF) λl3 w_=>w_=(dr dF)/\
  aB pg (aO 9 l3 j6) (dr dF) λ_u21 OK=>
  (vS pg (aE .add 3 aK aK jD GD) j0 OK/\True)/\
  aB pg (aL 53 aA j0) OK λl4 w_=>w_=OK/\
  aB pg (aO 9 l4 l2) OK λ_u23 T2=>
  kn aA GL jD GD T2)
def nL(kn:K5)(k0:K0) aA GL jD mC w:=
 aB pg (aE .mul 3 aK aK (Wo 2) mC) w λc2 w=>
 aB pg (aE .add 3 aK aK c2 (Wo 1)) w λc3 w=>
 aB pg (aE .geq 3 aK aK c3 GL) w λc6 w=>
 eU c6
  (k0 w)
  ((dr w)=(dr w)/\
  aB pg (aE .add 3 aK aK c3 (Wo 1)) (dr w) λc8 w_=>w_=(dr w)/\
  (dr w)=(dr w)/\
  aB pg (aE .lss 3 aK aK c8 GL) (dr w) λd0 w_=>w_=(dr w)/\
  (dr w)=(dr w)/\
  Gd (bB d0 true) (λK=>K aA (dr w)) (dr w) λd2 w_=>w_=(dr w)/\
  Gd (bB d0 true) (λK=>K jD (dr w)) (dr w) λd3 w_=>w_=(dr w)/\
  Gd (bB d0 true) (λK=>K c3 (dr w)) (dr w) λd4 w_=>w_=(dr w)/\
  Gd (bB d0 true) (λK=>aB pg (aE .add 3 aK aK d3 d4) (dr w) K) (dr w) λd5 w_=>w_=(dr w)/\
  Gd (bB d0 true) (λK=>aB pg (aL 53 d2 d5) (dr w) K) (dr w) λd6 w_=>w_=(dr w)/\
  Gd (bB d0 true) (λK=>aB pg (aD 9 d6) (dr w) K) (dr w) λd7 w_=>w_=(dr w)/\
  Gd (bB d0 true) (λK=>K aA (dr w)) (dr w) λd8 w_=>w_=(dr w)/\
  Gd (bB d0 true) (λK=>K jD (dr w)) (dr w) λd9 w_=>w_=(dr w)/\
  Gd (bB d0 true) (λK=>K c3 (dr w)) (dr w) λe0 w_=>w_=(dr w)/\
  Gd (bB d0 true) (λK=>aB pg (aE .add 3 aK aK d9 e0) (dr w) K) (dr w) λe1 w_=>w_=(dr w)/\
  Gd (bB d0 true) (λK=>aB pg (aE .add 3 aK aK e1 (Wo 1)) (dr w) K) (dr w) λe2 w_=>w_=(dr w)/\
  Gd (bB d0 true) (λK=>aB pg (aL 53 d8 e2) (dr w) K) (dr w) λe3 w_=>w_=(dr w)/\
  Gd (bB d0 true) (λK=>aB pg (aD 9 e3) (dr w) K) (dr w) λe4 w_=>w_=(dr w)/\
  Gd (bB d0 true) (λK=>aH pg bQ #[d7,e4] (dr w) K) (dr w) λe5 OI=>
  aB pg (dW d0 e5 (.bool false)) OI λe6 w_=>w_=OI/\
  eU e6
   (aB pg (aE .add 3 aK aK c3 (Wo 1)) OI λe8 w=>
   kn aA GL jD mC e8 w)
   (kn aA GL jD mC c3 OI))
def iY(kn:K4)(k0:K0)(R:K1) aA GL jD mC w:=
 nL (eS kn R) k0 aA GL jD mC w
def eT(k0:K0)(R:K1) aA GL jD mC w:=
 bL (λ(X:Wn->K0) (t:Wn) (w:Wm)=>iY (λ_ _ _ mC w=>X mC w) k0 R aA GL jD t w) mC w
theorem uF(k0:K0)(R:K1)(h0:E0 Q k0 0)(hr:HR nF R Q)(h:eT k0 R (g 0) (g 2) (g 3) (g 8) w):eI pg mN (bI (aM 1 lU)) Q g w:=by
 refine Gv (λg:Env=>g 8) (λX t w=>iY (λ_ _ _ mC w=>X mC w) k0 R (g 0) (g 2) (g 3) t w) h (λX g1 w1 ha hL=> ?_)
 rw[<-mB 0 ha,<-mB 2 ha,<-mB 3 ha]at hL
 exact(CG 1 (kA 3 (Gt [(0,(MY k0))] (kr:=no) (I3 (eS (λ_ _ _ mC w=>X mC w) R) 0 2 3 8 9) hL (λg w h=>aI (Px (CW (λ_ _ _ mC w=>X mC w) 0 2 3 8) h jQ hr)) GV ⟨h0,trivial⟩)))
def nM(kn:K4) aA SU GL jD w:=
 kn aA GL jD SU w
def nN(kn:K0)(R:K1) aA SU GL jD w:=
 nM (eT kn R) aA SU GL jD w
def pQ a0 a1 a2 a3 w(R:K1):=
 nN (λw=>R (.tuple #[]) w) R a0 a1 a2 a3 w
theorem vD{a0 a1 a2 a3 w R}(h:pQ a0 a1 a2 a3 w R):aH pg dQ #[a0,a1,a2,a3] w R:=
 vX (ann:=mN) Try.f60 lU [a0,a1,a2,a3] nF 76 TryM.mixed Try.func60 (kA 1 (pG (CW (eT (λw=>R (.tuple #[]) w) R) 0 2 3 8) h (λg w h=>aI (CG 0 (uF _ g w (λw=>R (.tuple #[]) w) R jQ jQ h)))))
def AJ:FA:=⟨jK,λi=> .leaf ([],[]) []⟩
def BJ:List ResultVar:=[.tmp 2]
noncomputable def zV:Code:=bM Try.f61
def sE(R:K1) Qp w:=
 aB pg (rH 3 94 Qp) w λb4 w=>
 aH pg oQ #[b4] w λb5 w=>
 aB pg (aE .shl 94 aK aK (.int .u64 1) b5) w λb6 w=>
 R b6 w
def vO a0 w(R:K1):=
 sE R a0 w
theorem AF{a0 w R}(h:vO a0 w R):aH pg jK #[a0] w R:=
 vX (ann:=AJ) Try.f61 zV [a0] BJ 7 TryM.mixed Try.func61 (yO h jQ)
def Be:FA:=⟨kB,λi=>match Nat.beq i 1 with|true=> .leaf ([9],[]) (fz 9 (ft [] []))|false=>match Nat.beq i 2 with|true=> .leaf ([9],[]) (fz 9 (ft [] []))|false=>match Nat.beq i 3 with|true=> .leaf ([9],[]) (fz 9 (ft [] []))|false=> .leaf ([],[]) []⟩
def B7:List ResultVar:=[.tmp 2]
noncomputable def AK:Code:=bM Try.f62
def tU(R:K1) Rk w:=
 (dr w)=(dr w)/\
 aB pg (lW Rk) (dr w) λb4 w_=>w_=(dr w)/\
 aB pg (aD 108 b4) (dr w) λb5 w_=>w_=(dr w)/\
 (dr w)=(dr w)/\
 aB pg (lW Rk) (dr w) λb7 w_=>w_=(dr w)/\
 aB pg (aD 108 b7) (dr w) λb8 w_=>w_=(dr w)/\
 aB pg (aE .shl 108 aK aK b8 (.int .u64 13)) (dr w) λb9 w_=>w_=(dr w)/\
 aB pg (aE .xor 108 aK aK b5 b9) (dr w) λc0 w_=>w_=(dr w)/\
 aB pg (lW Rk) (dr w) λc1 w_=>w_=(dr w)/\
 aB pg (aO 108 c1 c0) (dr w) λ_u9 CC=>
 (dr CC)=(dr CC)/\
 aB pg (lW Rk) (dr CC) λc3 w_=>w_=(dr CC)/\
 aB pg (aD 108 c3) (dr CC) λc4 w_=>w_=(dr CC)/\
 (dr CC)=(dr CC)/\
 aB pg (lW Rk) (dr CC) λc6 w_=>w_=(dr CC)/\
 aB pg (aD 108 c6) (dr CC) λc7 w_=>w_=(dr CC)/\
 aB pg (aE .shr 108 aK aK c7 (.int .u64 7)) (dr CC) λc8 w_=>w_=(dr CC)/\
 aB pg (aE .xor 108 aK aK c4 c8) (dr CC) λc9 w_=>w_=(dr CC)/\
 aB pg (lW Rk) (dr CC) λd0 w_=>w_=(dr CC)/\
 aB pg (aO 108 d0 c9) (dr CC) λ_u9 CD=>
 (dr CD)=(dr CD)/\
 aB pg (lW Rk) (dr CD) λd2 w_=>w_=(dr CD)/\
 aB pg (aD 108 d2) (dr CD) λd3 w_=>w_=(dr CD)/\
 (dr CD)=(dr CD)/\
 aB pg (lW Rk) (dr CD) λd5 w_=>w_=(dr CD)/\
 aB pg (aD 108 d5) (dr CD) λd6 w_=>w_=(dr CD)/\
 aB pg (aE .shl 108 aK aK d6 (.int .u64 17)) (dr CD) λd7 w_=>w_=(dr CD)/\
 aB pg (aE .xor 108 aK aK d3 d7) (dr CD) λd8 w_=>w_=(dr CD)/\
 aB pg (lW Rk) (dr CD) λd9 w_=>w_=(dr CD)/\
 aB pg (aO 108 d9 d8) (dr CD) λ_u9 Ul=>
 aB pg (lW Rk) Ul λe1 w=>
 aB pg (aD 108 e1) w λe2 w=>
 R e2 w
def yG a0 w(R:K1):=
 tU R a0 w
theorem AM{a0 w R}(h:yG a0 w R):aH pg kB #[a0] w R:=
 vX (ann:=Be) Try.f62 AK [a0] B7 33 TryM.mixed Try.func62 (yO h jQ)
def xM:FA:=⟨fZ,λi=> .leaf ([],[]) []⟩
def yQ:List ResultVar:=[.tmp 10]
noncomputable def vU:Code:=bM Try.f64
def oZ(R:K1) aA bA cU UI Lv w:=
 aH pg cO #[aA,bA,cU,Lv] w λc6 w=>
 aB pg (cB c6 0) w λc7 w=>
 aB pg (cB c6 1) w λc8 w=>
 aH pg cO #[aA,c8,UI,Lv] w λd4 w=>
 aB pg (cB d4 0) w λd5 w=>
 aB pg (cB d4 1) w λd6 w=>
 aH pg cO #[aA,c7,d5,Lv] w λe2 w=>
 aB pg (cB e2 0) w λe3 w=>
 aB pg (cB e2 1) w λe4 w=>
 R e4 w
def rC a0 a1 a2 a3 a4 w(R:K1):=
 oZ R a0 a1 a2 a3 a4 w
theorem wO{a0 a1 a2 a3 a4 w R}(h:rC a0 a1 a2 a3 a4 w R):aH pg fZ #[a0,a1,a2,a3,a4] w R:=
 vX (ann:=xM) Try.f64 vU [a0,a1,a2,a3,a4] yQ 36 TryM.mixed Try.func64 (yO h jQ)
def FP:FA:=⟨mU,λi=> .leaf ([],[]) []⟩
def Ha:List ResultVar:=[.tmp 2]
noncomputable def EF:Code:=bM Try.f65
def AO(R:K1) Gr w:=
 aB pg (aE .neq 9 (.tmp 3) (.tmp 4) Gr Gr) w λb5 w=>
 R b5 w
def Dq a0 w(R:K1):=
 AO R a0 w
theorem EE{a0 w R}(h:Dq a0 w R):aH pg mU #[a0] w R:=
 vX (ann:=FP) Try.f65 EF [a0] Ha 6 TryM.mixed Try.func65 (yO h jQ)
def xN:FA:=⟨cO,λi=>match Nat.beq i 1 with|true=> .leaf ([8],[]) (fz 8 (ft [] []))|false=> .leaf ([],[]) []⟩
def yR:List ResultVar:=[.tmp 8,.tmp 9]
noncomputable def vV:Code:=bM Try.f66
def pA(R:K1) aA bA cU OF w:=
 (dr w)=(dr w)/\
 (dr w)=(dr w)/\
 aB pg (aL 53 aA cU) (dr w) λc2 w_=>w_=(dr w)/\
 aB pg (aD 9 c2) (dr w) λc3 w_=>w_=(dr w)/\
 (dr w)=(dr w)/\
 (dr w)=(dr w)/\
 aB pg (aL 53 aA bA) (dr w) λc6 w_=>w_=(dr w)/\
 aB pg (aD 9 c6) (dr w) λc7 w_=>w_=(dr w)/\
 aH pg bQ #[c3,c7] (dr w) λc8 TZ=>
 eU c8
  (aB pg (lW OF) TZ λd0 w=>
  aB pg (aD 3 d0) w λd1 w=>
  aB pg (aE .add 3 aK aK d1 (Wo 1)) w λd2 w=>
  aB pg (lW OF) w λd3 w=>
  aB pg (aO 3 d3 d2) w λ_u w=>
  R (.tuple #[cU,bA]) w)
  (R (.tuple #[bA,cU]) TZ)
def rD a0 a1 a2 a3 w(R:K1):=
 pA R a0 a1 a2 a3 w
theorem wP{a0 a1 a2 a3 w R}(h:rD a0 a1 a2 a3 w R):aH pg cO #[a0,a1,a2,a3] w R:=
 vX (ann:=xN) Try.f66 vV [a0,a1,a2,a3] yR 28 TryM.mixed Try.func66 (yO h jQ)
end Go.Proofs.Ytmhokapokchneaa
namespace Go.En
open Go
section
variable{P:Program}{w:Wm}{t:TypeId}{ox oy:Operand}{k:IntKind}{a b:Int}
theorem kE(s:Sem Wn):(V s).run P w=(s.run P w).andThen λv w=> .ok (.value v) w:=by
 unfold V;rw[Sem.run_bind]<;>rfl
theorem TN(s:Sem Unit):(U s).run P w=(s.run P w).andThen λ_ w=> .ok .skip w:=by
 unfold U;rw[Sem.run_bind]<;>rfl
theorem Ie:(aE .add t ox oy (.int k a) (.int k b)).run P w= .ok (.value (.int k (k.wrap (a+b)))) w:=by
 simp[aE,zE,kE,binOp,Op.intArith]
theorem QL:(aE .sub t ox oy (.int k a) (.int k b)).run P w= .ok (.value (.int k (k.wrap (a-b)))) w:=by
 simp[aE,zE,kE,binOp,Op.intArith]
theorem Sr:(aE .mul t ox oy (.int k a) (.int k b)).run P w= .ok (.value (.int k (k.wrap (a*b)))) w:=by
 simp[aE,zE,kE,binOp,Op.intArith]
theorem Sv(h:b≠0):(aE .quo t ox oy (.int k a) (.int k b)).run P w= .ok (.value (.int k (k.wrap (a.tdiv b)))) w:=by
 simp[aE,zE,kE,binOp,Op.intDiv,h]
theorem Sw(h:b≠0):(aE .rem t ox oy (.int k a) (.int k b)).run P w= .ok (.value (.int k (a.tmod b))) w:=by
 simp[aE,zE,kE,binOp,Op.intDiv,h]
def M0 (k:IntKind)(a b:Int):Int:=k.wrap (BitVec.ofInt k.bits a&&&BitVec.ofInt k.bits b).toNat
def Uu(k:IntKind)(a b:Int):Int:=k.wrap (BitVec.ofInt k.bits a|||BitVec.ofInt k.bits b).toNat
def MT(k:IntKind)(a b:Int):Int:=k.wrap (BitVec.ofInt k.bits a^^^BitVec.ofInt k.bits b).toNat
def Oe(k:IntKind)(a b:Int):Int:=k.wrap (BitVec.ofInt k.bits a&&& ~~~BitVec.ofInt k.bits b).toNat
theorem Sn:(aE .and t ox oy (.int k a) (.int k b)).run P w= .ok (.value (.int k (M0 k a b))) w:=by
 simp[aE,zE,kE,binOp,Op.intBits,M0]
theorem TJ:(aE .or t ox oy (.int k a) (.int k b)).run P w= .ok (.value (.int k (Uu k a b))) w:=by
 simp[aE,zE,kE,binOp,Op.intBits,Uu]
theorem Sy:(aE .xor t ox oy (.int k a) (.int k b)).run P w= .ok (.value (.int k (MT k a b))) w:=by
 simp[aE,zE,kE,binOp,Op.intBits,MT]
theorem Ms:(aE .andNot t ox oy (.int k a) (.int k b)).run P w= .ok (.value (.int k (Oe k a b))) w:=by
 simp[aE,zE,kE,binOp,Op.intBits,Oe]
theorem Sx{k':IntKind}(h:0<=b):(aE .shl t ox oy (.int k a) (.int k' b)).run P w= .ok (.value (.int k (k.wrap (a*2^(min b.toNat k.bits))))) w:=by
 simp[aE,zE,kE,binOp,Op.shift,Int.not_lt.2 h]
theorem Ig{k':IntKind}(h:0<=b):(aE .shr t ox oy (.int k a) (.int k' b)).run P w= .ok (.value (.int k (a.fdiv (2^(min b.toNat k.bits))))) w:=by
 simp[aE,zE,kE,binOp,Op.shift,Int.not_lt.2 h]
theorem GY:(aE .eql t ox oy (.int k a) (.int k b)).run P w= .ok (.value (.bool (a==b))) w:=by
 simp[aE,zE,kE,binOp,Op.intCmp,eqGuard]
theorem St:(aE .neq t ox oy (.int k a) (.int k b)).run P w= .ok (.value (.bool (a !=b))) w:=by
 simp[aE,zE,kE,binOp,Op.intCmp,eqGuard]
theorem yC:(aE .lss t ox oy (.int k a) (.int k b)).run P w= .ok (.value (.bool (decide (a<b)))) w:=by
 simp[aE,zE,kE,binOp,Op.intCmp]
theorem QI:(aE .leq t ox oy (.int k a) (.int k b)).run P w= .ok (.value (.bool (decide (a<=b)))) w:=by
 simp[aE,zE,kE,binOp,Op.intCmp]
theorem yW:(aE .gtr t ox oy (.int k a) (.int k b)).run P w= .ok (.value (.bool (decide (b<a)))) w:=by
 simp[aE,zE,kE,binOp,Op.intCmp]
theorem B4:(aE .geq t ox oy (.int k a) (.int k b)).run P w= .ok (.value (.bool (decide (b<=a)))) w:=by
 simp[aE,zE,kE,binOp,Op.intCmp]
theorem Ss:(Io .neg (.int k a)).run P w= .ok (.value (.int k (k.wrap (0-a)))) w:=by
 simp[Io,kE,Op.unary,Op.intArith]
theorem So:(Io .xor (.int k a)).run P w= .ok (.value (.int k (MT k (if k.signed then-1 else k.max) a))) w:=by
 simp[Io,kE,Op.unary,Op.intBits,MT]
theorem QK(c:Bool):(Io .not (.bool c)).run P w= .ok (.value (.bool !c)) w:=by
 simp[Io,kE,Op.unary]
theorem qE(c:Bool)(x y:Wn):(dW (.bool c) x y).run P w= .ok (.value (if c then x else y)) w:=by
 simp[dW,asBool]
theorem JU{x y:Wn}{r:Bool}(hg:eqGuard .eql t ox oy x y=pure ())(hb:binOp .eql t x y=(do pure (.bool (<-Op.equal t x y))))(he:(Op.equal t x y).run P w= .ok r w):
 (aE .eql t ox oy x y).run P w= .ok (.value (.bool r)) w:=by
 unfold aE
 simp only[zE,kE,hg,hb,pure_bind]
 rw[Sem.run_bind,he]<;>rfl
theorem MF{x y:Wn}{r:Bool}(hg:eqGuard .neq t ox oy x y=pure ())(hb:binOp .neq t x y=(do pure (.bool (!(<-Op.equal t x y)))))(he:(Op.equal t x y).run P w= .ok r w):
 (aE .neq t ox oy x y).run P w= .ok (.value (.bool (!r))) w:=by
 unfold aE
 simp only[zE,kE,hg,hb,pure_bind]
 rw[Sem.run_bind,he]<;>rfl
theorem O1 (n:Nat)(c d:Bool)(hu:P.underlying t=some .bool):(Op.equalIn (n+1) t (.bool c) (.bool d)).run P w= .ok (c==d) w:=by
 simp only[Op.equalIn,underlying]
 simp[hu]
theorem Om(c d:Bool)(hu:P.underlying t=some .bool):(Op.equal t (.bool c) (.bool d)).run P w= .ok (c==d) w:=O1 9999 c d hu
theorem S4 (c d:Bool)(hu:P.underlying t=some .bool):(aE .eql t ox oy (.bool c) (.bool d)).run P w= .ok (.value (.bool (c==d))) w:=
 JU rfl rfl (Om c d hu)
theorem S5 (c d:Bool)(hu:P.underlying t=some .bool):(aE .neq t ox oy (.bool c) (.bool d)).run P w= .ok (.value (.bool (!(c==d)))) w:=
 MF rfl rfl (Om c d hu)
theorem Ca{n:Int}(h0: -9223372036854775808<=n)(h1:n<=9223372036854775807):IntKind.i64.wrap n=n:=by
 unfold IntKind.wrap;simp[IntKind.bits,IntKind.signed];split<;>omega
theorem KQ{n:Int}(h0:0<=n)(h1:n<=18446744073709551615):IntKind.u64.wrap n=n:=by
 unfold IntKind.wrap;simp[IntKind.bits,IntKind.signed];omega
theorem Sz{n:Int}(h0: -2147483648<=n)(h1:n<=2147483647):IntKind.i32.wrap n=n:=by
 unfold IntKind.wrap;simp[IntKind.bits,IntKind.signed];split<;>omega
theorem SB{n:Int}(h0:0<=n)(h1:n<=4294967295):IntKind.u32.wrap n=n:=by
 unfold IntKind.wrap;simp[IntKind.bits,IntKind.signed];omega
theorem SA{n:Int}(h0:0<=n)(h1:n<=65535):IntKind.u16.wrap n=n:=by
 unfold IntKind.wrap;simp[IntKind.bits,IntKind.signed];omega
theorem Tr{n:Int}(h0:0<=n)(h1:n<=255):IntKind.u8.wrap n=n:=by
 unfold IntKind.wrap;simp[IntKind.bits,IntKind.signed];omega
theorem Br(x y:ByteArray):(aE .eql t ox oy (.string x) (.string y)).run P w= .ok (.value (.bool (x.toList==y.toList))) w:=by
 simp[aE,zE,kE,binOp,Op.stringOp,eqGuard]
theorem JD(x y:ByteArray):(aE .neq t ox oy (.string x) (.string y)).run P w= .ok (.value (.bool !(x.toList==y.toList))) w:=by
 simp[aE,zE,kE,binOp,Op.stringOp,eqGuard]
theorem Qa(n:Nat){e:TypeId}(hu:P.underlying t=some (.pointer e))(x:Option Addr):(Op.equalIn (n+1) t (.pointer x) (.pointer none)).run P w= .ok x.isNone w:=by
 simp only[Op.equalIn,underlying]
 cases x<;>simp[hu]
theorem Qb{e:TypeId}(hu:P.underlying t=some (.pointer e))(x:Option Addr):(Op.equal t (.pointer x) (.pointer none)).run P w= .ok x.isNone w:=Qa 9999 hu x
theorem RG(m:Nat){e:TypeId}(hu:P.underlying t=some (.slice e))(x:Option Addr)(n c:Nat):(Op.equalIn (m+1) t (.slice x n c) (.slice none 0 0)).run P w= .ok x.isNone w:=by
 simp only[Op.equalIn,underlying]
 cases x<;>simp[hu]
theorem TD{e:TypeId}(hu:P.underlying t=some (.slice e))(x:Option Addr)(n c:Nat):(Op.equal t (.slice x n c) (.slice none 0 0)).run P w= .ok x.isNone w:=RG 9999 hu x n c
theorem S9 {e:TypeId}(hu:P.underlying t=some (.pointer e))(x:Option Addr):(aE .eql t ox oy (.pointer x) (.pointer none)).run P w= .ok (.value (.bool x.isNone)) w:=
 JU rfl rfl (Qb hu x)
theorem Ta{e:TypeId}(hu:P.underlying t=some (.pointer e))(x:Option Addr):(aE .neq t ox oy (.pointer x) (.pointer none)).run P w= .ok (.value (.bool (!x.isNone))) w:=
 MF rfl rfl (Qb hu x)
theorem RZ{e:TypeId}(hu:P.underlying t=some (.slice e))(x:Option Addr)(n c:Nat):(aE .eql t ox oy (.slice x n c) (.slice none 0 0)).run P w= .ok (.value (.bool x.isNone)) w:=
 JU rfl rfl (TD hu x n c)
theorem Ga{s:TypeId}{d:TypeDesc}{kd:IntKind}(hs:P.underlying s=some d)(hu:P.underlying t=some (.int kd)):(rH s t (.int k a)).run P w= .ok (.value (.int kd (kd.wrap a))) w:=by
 cases d<;>simp[rH,kE,convert,underlying,hs,hu,Conv.intToInt]
theorem Gb{ty:TypeId}{e:TypeId}(hu:P.underlying t=some (.slice e))(x:Option Addr)(n c:Nat):(lG .len #[t] ty [.slice x n c]).run P w= .ok (.value (.int .i64 n)) w:=by
 simp[lG,builtin,Builtin.len_,underlying,hu,goInt]
theorem S7 {ty:TypeId}(hu:P.underlying t=some .string)(x:ByteArray):(lG .len #[t] ty [.string x]).run P w= .ok (.value (.int .i64 x.size)) w:=by
 simp[lG,builtin,Builtin.len_,underlying,hu,goInt]
theorem Sq{ats:Array TypeId}{ty:TypeId}:(lG .min ats ty [.int k a,.int k b]).run P w= .ok (.value (.int k (if b<a then b else a))) w:=by
 simp[lG,builtin,Builtin.min_,Builtin.min2]
theorem Sp{ats:Array TypeId}{ty:TypeId}:(lG .max ats ty [.int k a,.int k b]).run P w= .ok (.value (.int k (if b>a then b else a))) w:=by
 simp[lG,builtin,Builtin.max_,Builtin.max2]
theorem Uw(a b:Wn):(cB (.tuple #[a,b]) 0).run P w= .ok (.value a) w:=Eq.trans rfl rfl
theorem Ux(a b:Wn):(cB (.tuple #[a,b]) 1).run P w= .ok (.value b) w:=Eq.trans rfl rfl
theorem Uy(a b c:Wn):(cB (.tuple #[a,b,c]) 0).run P w= .ok (.value a) w:=Eq.trans rfl rfl
theorem Uz(a b c:Wn):(cB (.tuple #[a,b,c]) 1).run P w= .ok (.value b) w:=Eq.trans rfl rfl
theorem UA(a b c:Wn):(cB (.tuple #[a,b,c]) 2).run P w= .ok (.value c) w:=Eq.trans rfl rfl
theorem UB(a b c d:Wn):(cB (.tuple #[a,b,c,d]) 0).run P w= .ok (.value a) w:=Eq.trans rfl rfl
theorem UC(a b c d:Wn):(cB (.tuple #[a,b,c,d]) 1).run P w= .ok (.value b) w:=Eq.trans rfl rfl
theorem UD(a b c d:Wn):(cB (.tuple #[a,b,c,d]) 2).run P w= .ok (.value c) w:=Eq.trans rfl rfl
theorem UE(a b c d:Wn):(cB (.tuple #[a,b,c,d]) 3).run P w= .ok (.value d) w:=Eq.trans rfl rfl
theorem Su(x:Addr):(lW (.pointer (some x))).run P w= .ok (.value (.pointer (some x))) w:=Eq.trans rfl rfl
theorem eC{fs:Array Field}{f:Field}{i:Nat}{inf:TypeInfo}(hu:P.underlying t=some (.struct fs))(hf:fs[i]?=some f)
 (hi:P.info? f.type=some inf) (hz:inf.size≠0) (x:Addr):(aF t (.pointer (some x)) i).run P w= .ok (.value (.pointer (some (x.add f.offset)))) w:=by
 simp[aF,kE,Instr.fieldAt,underlying,hu,hf,Instr.sureAddr,fieldPlace,sizeOf,typeInfo,hi,hz]
theorem Mt{e:TypeId}{inf:TypeInfo}(hu:P.underlying t=some (.slice e))(hi:P.info? e=some inf)(x:Addr)(n c:Nat)(h0:0<=a)(h1:a<n):
 (aL t (.slice (some x) n c) (.int k a)).run P w= .ok (.value (.pointer (some (x.add (a.toNat*inf.size))))) w:=by
 simp[aL,kE,Instr.indexAt,asIntOf,underlying,hu,h0,h1,sizeOf,typeInfo,hi]
theorem S6 (hu:P.underlying t=some .string)(x:ByteArray)(h0:0<=a)(h1:a.toNat<x.size):
 (Pg t (.string x) (.int k a)).run P w= .ok (.value (.int .u8 (x[a.toNat]'h1).toNat)) w:=by
 simp[Pg,kE,Instr.index,asIntOf,underlying,hu,h0,h1]
end
def bE(w:Wm)(b:Nat)(cs:List Wn):Prop:=
 ∃T lo hi,w.heap[b]?=some (.cells cs.toArray T (lo,hi))/\(cs.length<=lo∨hi=lo)
structure aJ(w w':Wm)(M:Nat->Prop):Prop where
 os:w'.os=w.os
 tape:w'.tape=w.tape
 output:w'.output=w.output
 size:w.heap.size<=w'.heap.size
 keep:∀b,b<w.heap.size->¬M b->w'.heap[b]?=w.heap[b]?
def bR:Nat->Prop:=λ_=>False
theorem aJ.refl (w:Wm)(M:Nat->Prop):aJ w w M:=⟨rfl,rfl,rfl,U0 _,λ_ _ _=>rfl⟩
theorem aJ.mono {w w':Wm}{M N:Nat->Prop}(h:aJ w w' M)(hm:∀b,b<w.heap.size->M b->N b):aJ w w' N:=
 ⟨h.os,h.tape,h.output,h.size,λb hb hn=>h.keep b hb λhM=>hn (hm b hb hM)⟩
theorem aJ.trans {a b c:Wm}{M N:Nat->Prop}(h:aJ a b M)(k:aJ b c N)(hn:∀x,x<a.heap.size->N x->M x):aJ a c M:=
 ⟨k.os.trans h.os,k.tape.trans h.tape,k.output.trans h.output,VG h.size k.size,
   λx hx hM=>(k.keep x (Vb hx h.size) λh=>hM (hn x hx h)).trans (h.keep x hx hM)⟩
theorem aJ.seq {a b c:Wm}{M:Nat->Prop}(h:aJ a b M)(k:aJ b c M):aJ a c M:=h.trans k λ_ _ h=>h
theorem aJ.new {a b c:Wm}{M:Nat->Prop}{x:Nat}(h:aJ a b M)(k:aJ b c (λy=>y=x))(hx:a.heap.size<=x):aJ a c M:=
 h.trans k λy hy e=>absurd hy (by subst e;omega)
theorem aJ.more {a b c:Wm}{M:Nat->Prop}(h:aJ a b M)(k:aJ b c (λ_=>False)):aJ a c M:=h.trans k λ_ _ h=>h.elim
theorem aJ.below {w w':Wm}(h:aJ w w' bR):Go.RowKit.Below w.heap.size w w':=
 ⟨h.os,h.tape,h.output,h.size,λk hk=>h.keep k hk λh=>h⟩
theorem aJ.dr (w:Wm)(M:Nat->Prop):aJ w (dr w) M:=⟨rfl,rfl,rfl,U0 _,λ_ _ _=>rfl⟩
theorem aJ.alloc (w:Wm)(o:Obj)(M:Nat->Prop):aJ w (w.alloc o) M:=
 ⟨rfl,rfl,rfl,by simp,λb hb _=>by show(w.heap.push o)[b]?=_;rw[Array.getElem?_push,if_neg (by omega)]⟩
theorem Ix(w:Wm)(a:Addr)(v:Wn)(b:Nat)(h:b≠a.block):(w.setCell a v).heap[b]?=w.heap[b]?:=Go.RowKit.Below.heap_setCell w a v b h
theorem aJ.setCell (w:Wm)(a:Addr)(v:Wn){M:Nat->Prop}(h:a.block<w.heap.size->M a.block):aJ w (w.setCell a v) M:=
 ⟨rfl,rfl,rfl,by simp,λb hb hM=>Ix w a v b λe=>hM (e▸h (e▸hb))⟩
theorem bE.lt {w:Wm}{b:Nat}{cs:List Wn}(h:bE w b cs):b<w.heap.size:=by
 obtain⟨T,lo,hi,h,_⟩:=h
 rcases Vk b w.heap.size with h'|h'
 .exact h'
 .rw [Vc h']at h;cases h
theorem bE.ext {w w':Wm}{b:Nat}{cs:List Wn}{M:Nat->Prop}(h:bE w b cs)(hx:aJ w w' M)(hM:¬M b):bE w' b cs:=by
 have:=h.lt
 obtain⟨T,lo,hi,h,k⟩:=h
 exact⟨T,lo,hi,by rw[hx.keep b this hM];exact h,k⟩
theorem bE.cell {w:Wm}{b off:Nat}{cs:List Wn}(h:bE w b cs):w.cell? ⟨b,off,none⟩=cs[off]?:=by
 obtain⟨T,lo,hi,h,_⟩:=h
 simp[World.cell?,h]
theorem bE.free {w:Wm}{b off:Nat}{cs:List Wn}{s:Option Nat}(h:bE w b cs)(ho:off<cs.length):w.frozen? ⟨b,off,s⟩=false:=by
 obtain⟨T,lo,hi,h,k⟩:=h
 simp only[World.frozen?,h]
 rcases k with k|k<;>(simp;omega)
theorem bE.setCell {w:Wm}{b off:Nat}{cs:List Wn}(h:bE w b cs)(v:Wn):bE (w.setCell ⟨b,off,none⟩ v) b (cs.set off v):=by
 have hb:=h.lt
 obtain⟨T,lo,hi,h,k⟩:=h
 refine⟨T,lo,hi, ?_,by simpa using k⟩
 simp only[World.setCell,VJ,h]
 simp
theorem bE.alloc (w:Wm)(cs:List Wn)(T:TypeId):bE (w.alloc (.cells cs.toArray T)) w.heap.size cs:=
 ⟨T,0,0,by show(w.heap.push _)[w.heap.size]?=_;simp,.inr rfl⟩
theorem PR{w w':Wm}{M:Nat->Prop}{a:Addr}{v:Wn}(h:w.cell? a=some v)(hx:aJ w w' M)(hM:¬M a.block):w'.cell? a=some v:=by
 have hb:=World.block_lt_of_cell? w a h
 have e:=hx.keep _ hb hM
 unfold World.cell? at h⊢
 rw[e];exact h
section
variable{P:Program}{w:Wm}{t:TypeId}
def OQ(d:TypeDesc):Bool:=match d with| .struct _| .array _ _=>true|_=>false
theorem Em{d:TypeDesc}(hu:P.underlying t=some d):(isAgg t).run P w= .ok (OQ d) w:=by
 cases d<;>simp[isAgg,underlying,hu,OQ]
theorem eZ{i:TypeInfo}(hi:P.info? t=some i):(sizeOf t).run P w= .ok i.size w:=by simp[sizeOf,typeInfo,hi]
theorem GR{b off:Nat}{cs:List Wn}(ho:bE w b cs):∀(n i:Nat) (acc:Array Wn),off+i+n<=cs.length→
 (loadCellsFrom ⟨b,off,none⟩ i n acc).run P w= .ok (acc++((cs.drop (off+i)).take n).toArray) w:=by
 intro n
 induction n with
 |zero=>intro i acc _;simp[loadCellsFrom]
 |succ n ih=>
  intro i acc h
  have hc:w.cell? ((⟨b,off,none⟩:Addr).add i)=some cs[off+i]:=by
   unfold Addr.add
   split
   .rename_i hi;subst hi;rw[ho.cell];simp
   .show w.cell? ⟨b,off+i,none⟩=_;rw[ho.cell];simp
  simp only[loadCellsFrom,Sem.run_bind,run_load,hc,Result.andThen_ok]
  rw[ih (i+1) _ (by omega)]
  congr 1
  rw[Vv (by omega:off+i<cs.length)]
  simp[VC]
theorem Fl{b off n:Nat}{cs:List Wn}(ho:bE w b cs)(h:off+n<=cs.length):
 (loadCells ⟨b,off,none⟩ n).run P w= .ok ((cs.drop off).take n).toArray w:=by
 unfold loadCells
 rw[GR ho n 0 #[] (by omega)]
 simp
theorem IV{d:TypeDesc}{i:TypeInfo}(hu:P.underlying t=some d)(hd:OQ d=true)(hi:P.info? t=some i){b off:Nat}{cs:List Wn}(ho:bE w b cs)(h:off+i.size<=cs.length):
 (aD t (.pointer (some ⟨b,off,none⟩))).run P w= .ok (.value (.agg ((cs.drop off).take i.size).toArray)) w:=by
 unfold aD
 rw[kE]
 simp only[Instr.loadAt,Instr.sureAddr,loadVar,pure_bind,Sem.run_bind,Em hu,hd,Result.andThen_ok,if_true,eZ hi,Fl ho h,Sem.run_pure]
def one(v:Wn):Bool:=match v with| .agg _| .tuple _=>false|_=>true
theorem NC{a:Addr}{v x:Wn}(hv:one v=true)(hc:w.cell? a=some x)(hf:w.frozen? a=false):(store a v).run P w= .ok () (w.setCell a v):=by
 unfold store
 cases v<;>simp[one]at hv<;>simp[Sem.run,hc,hf]
def nG(cs:List Wn)(off:Nat):List Wn->List Wn
 |[]=>cs
 |v::vs=>nG (cs.set off v) (off+1) vs
theorem AG{b:Nat}{M:Nat->Prop}(hM:M b):∀(vs:List Wn) (w:Wm) (off i:Nat) (cs:List Wn),bE w b cs->off+i+vs.length<=cs.length->(∀v∈vs,one v=true)→
 ∃w',(storeCells ⟨b,off,none⟩ vs i).run P w= .ok () w'/\bE w' b (nG cs (off+i) vs)/\aJ w w' M/\w'.heap.size=w.heap.size/\w'.drawn=w.drawn:=by
 intro vs
 induction vs with
 |nil=>intro w off i cs ho _ _;exact⟨w,by simp[storeCells],ho,aJ.refl _ _,rfl,rfl⟩
 |cons v vs ih=>
  intro w off i cs ho h hv
  simp only[U6]at h
  have ha:(⟨b,off,none⟩:Addr).add i=⟨b,off+i,none⟩:=by
   unfold Addr.add;split
   .rename_i hi;subst hi;rfl
   .rfl
  have hlt:off+i<cs.length:=by omega
  have hc:w.cell? ⟨b,off+i,none⟩=some cs[off+i]:=by rw[ho.cell];simp
  have hs:=NC (P:=P) (hv v (by simp)) hc (ho.free hlt)
  obtain⟨w',h1,h2,h3,h4,h5⟩:=ih (w.setCell ⟨b,off+i,none⟩ v) off (i+1) (cs.set (off+i) v) (ho.setCell v) (by simp;omega) (λx hx=>hv x (UX _ hx))
  refine⟨w', ?_,h2,(aJ.setCell w _ v λ_=>hM).trans h3 (λ_ _ h=>h),by rw[h4];simp,by rw[h5]<;>rfl⟩
  simp only[storeCells,Sem.run_bind,ha,hs,Result.andThen_ok]
  exact h1
theorem HX{i:TypeInfo}(hi:P.info? t=some i){b off:Nat}{cs:List Wn}(ho:bE w b cs){v:Wn}(hs:v.cells.size=i.size)
 (hv:∀x∈v.cells.toList,one x=true) (h:off+i.size<=cs.length) {K:Wn->Wm->Prop}
 (hk:∀w',bE w' b (nG cs off v.cells.toList)->aJ w w' (λx=>x=b)->w'.heap.size=w.heap.size->K undef w'):aB P (aO t (.pointer (some ⟨b,off,none⟩)) v) w K:=by
 obtain⟨w',h1,h2,h3,h4,_⟩:=AG (P:=P) (M:=λx=>x=b) rfl v.cells.toList w off 0 cs ho (by simp[hs];omega) hv
 have:(aO t (.pointer (some ⟨b,off,none⟩)) v).run P w= .ok .skip w':=by
  unfold aO
  rw[TN]
  simp only[Instr.storeAt,Instr.sureAddr,storeVar,pure_bind,Sem.run_bind,eZ hi,Result.andThen_ok,hs]
  simp[h1]
 unfold aB
 rw[this]
 exact hk w' h2 h3 h4
theorem KD{v:Wn}(hv:one v=true):v.cells= #[v]:=by cases v<;>simp[one]at hv<;>rfl
theorem mM{i:TypeInfo}(hi:P.info? t=some i)(h1:i.size=1){b off:Nat}{cs:List Wn}(ho:bE w b cs){v:Wn}(hv:one v=true)(h:off<cs.length){K:Wn->Wm->Prop}
 (hk:∀w',bE w' b (cs.set off v)->aJ w w' (λx=>x=b)->w'.heap.size=w.heap.size->K undef w'):aB P (aO t (.pointer (some ⟨b,off,none⟩)) v) w K:=by
 have e:=KD hv
 refine HX hi ho (by rw[e,h1]<;>rfl) (by rw[e];simpa using hv) (by omega) λw' a b c=>hk w' ?_ b c
 rw[e]at a;exact a
def Ni(c:Option Wn)(w:Wm)(Nb:Result Next):Result Next:=match c with|some v=> .ok (.value v) w|none=>Nb
def Nb(P:Program)(t:TypeId)(x:Addr)(w:Wm):Result Next:=(aD t (.pointer (some x))).run P w
theorem fV(v:Wn)(w:Wm)(f:Result Next):Ni (some v) w f= .ok (.value v) w:=rfl
theorem IB{d:TypeDesc}(hu:P.underlying t=some d)(hd:OQ d=false)(x:Addr)(w:Wm):
 (aD t (.pointer (some x))).run P w=Ni (w.cell? x) w (Nb P t x w):=by
 cases h:w.cell? x with
 |none=>rfl
 |some v=>
  unfold aD
  rw[kE]
  simp only[Instr.loadAt,Instr.sureAddr,loadVar,pure_bind,Sem.run_bind,Em hu,hd,Result.andThen_ok,UY,if_false,run_load,h,Ni]
theorem RM{d:TypeDesc}{i:TypeInfo}(hu:P.underlying t=some d)(hd:OQ d=true)(hi:P.info? t=some i){b off:Nat}{cs:List Wn}(ho:bE w b cs)(h:off+i.size<=cs.length){K:Wn->Prop}
 (hk:K (.agg ((cs.drop off).take i.size).toArray)):Iq P t (.pointer (some ⟨b,off,none⟩)) w K:=by
 refine⟨_, ?_,hk⟩
 simp only[asAddr,loadVar,pure_bind,Sem.run_bind,Em hu,hd,Result.andThen_ok,if_true,eZ hi,Fl ho h,Sem.run_pure]
theorem kG{v:Wn}{K:Wn->Wm->Prop}(hk:∀w',bE w' w.heap.size v.cells.toList->aJ w w' bR->w'.heap.size=w.heap.size+1->K (.pointer (some ⟨w.heap.size,0,none⟩)) w'):
 aB P (AL t v) w K:=by
 have:(AL t v).run P w= .ok (.value (.pointer (some ⟨w.heap.size,0,none⟩))) (w.alloc (.cells v.cells.toList.toArray t)):=by
  unfold AL;rw[kE]
  simp[Instr.box,newVar,newRow]
 unfold aB
 rw[this]
 exact hk _ (bE.alloc _ _ _) (aJ.alloc _ _ _) (by simp)
theorem Ey{i:TypeInfo}{z:Wn}(hi:P.info? t=some i)(hz:i.zero=some z){K:Wn->Wm->Prop}
 (hk:∀w',bE w' w.heap.size z.cells.toList->aJ w w' bR->w'.heap.size=w.heap.size+1->K (.pointer (some ⟨w.heap.size,0,none⟩)) w'):
 aB P (lM t) w K:=by
 have:(lM t).run P w= .ok (.value (.pointer (some ⟨w.heap.size,0,none⟩))) (w.alloc (.cells z.cells.toList.toArray t)):=by
  unfold lM;rw[kE]
  simp[Instr.alloc,zeroValue,typeInfo,hi,hz,newVar,newRow]
 unfold aB
 rw[this]
 exact hk _ (bE.alloc _ _ _) (aJ.alloc _ _ _) (by simp)
end
theorem Ek{P:Program}{w:Wm}{k:IntKind}{a:Int}{y:Nat}{code:BoundsCode}(h0:0<=a)(h1:a<=y):(Instr.sliceBound (.int k a) y code).run P w= .ok a.toNat w:=by
 simp[Instr.sliceBound,asIntOf,h0,h1]
section
variable{P:Program}{w:Wm}{t e:TypeId}{k k':IntKind}{lo hi:Int}{i:TypeInfo}
def lN(x:Option Addr)(m l sz:Nat):Option Addr:=if m=l then x else x.map (·.add (l*sz))
theorem JC(hu:P.underlying t=some (.slice e))(hi':P.info? e=some i)(x:Option Addr)(n c:Nat)(h0:0<=lo)(h1:lo<=n):
 (wJ t (.slice x n c) (some (.int k lo)) none none).run P w= .ok (.value (.slice (lN x c lo.toNat i.size) (n-lo.toNat) (c-lo.toNat))) w:=by
 simp only[wJ,kE,Instr.sliceAt,underlying,hu,Sem.run_bind,run_program,Result.andThen_ok,Sem.run_pure,Instr.slice,Instr.sliceBounds,pure_bind,Ek h0 h1,eZ hi',lN]
theorem Nq(hu:P.underlying t=some (.slice e))(hi':P.info? e=some i)(x:Option Addr)(n c:Nat)(h0:0<=hi)(h1:hi<=c):
 (wJ t (.slice x n c) none (some (.int k hi)) none).run P w= .ok (.value (.slice (lN x c 0 i.size) (hi.toNat-0) (c-0))) w:=by
 simp only[wJ,kE,Instr.sliceAt,underlying,hu,Sem.run_bind,run_program,Result.andThen_ok,Sem.run_pure,Instr.slice,Instr.sliceBounds,pure_bind,Ek h0 h1,eZ hi',lN]
theorem Lk(hu:P.underlying t=some (.slice e))(hi':P.info? e=some i)(x:Option Addr)(n c:Nat)(h0:0<=lo)(h1:lo<=hi)(h2:hi<=c):
 (wJ t (.slice x n c) (some (.int k lo)) (some (.int k' hi)) none).run P w= .ok (.value (.slice (lN x c lo.toNat i.size) (hi.toNat-lo.toNat) (c-lo.toNat))) w:=by
 have h3:(0:Int)<=hi:=by omega
 have h4:lo<=(hi.toNat:Int):=by omega
 simp only[wJ,kE,Instr.sliceAt,underlying,hu,Sem.run_bind,run_program,Result.andThen_ok,Sem.run_pure,Instr.slice,Instr.sliceBounds,pure_bind,Ek h3 h2,Ek h0 h4,eZ hi',lN]
end
def Sl(w:Wm)(v:Wn)(l:List Wn):Prop:=
 ∃a n c,v= .slice a n c/\n=l.length/\n<=c/\(0<n->∃b off,a=some ⟨b,off,none⟩/\∀i,i<n->w.cell? ⟨b,off+i,none⟩=l[i]?)
def CR(v:Wn)(M:Nat->Prop):Prop:=match v with| .slice (some a) (_+1) _=>M a.block|_=>False
theorem Sl.ext {w w':Wm}{v:Wn}{l:List Wn}{M:Nat->Prop}(h:Sl w v l)(hx:aJ w w' M)(hM:¬CR v M):Sl w' v l:=by
 obtain⟨a,n,c,rfl,hn,hc,h⟩:=h
 refine⟨a,n,c,rfl,hn,hc,λh0=> ?_⟩
 obtain⟨b,off,rfl,h2⟩:=h h0
 refine⟨b,off,rfl,λi hi=> ?_⟩
 have h1:=h2 i hi
 obtain⟨v,hv⟩:∃v,l[i]?=some v:=⟨l[i],by simp⟩
 rw[hv]at h1⊢
 refine PR h1 hx ?_
 obtain⟨m,rfl⟩:∃m,n=m+1:=⟨n-1,by omega⟩
 exact hM
theorem Sl.old {w:Wm}{v:Wn}{l:List Wn}(h:Sl w v l):¬CR v (λb=>w.heap.size<=b):=by
 obtain⟨a,n,c,rfl,hn,hc,h⟩:=h
 unfold CR
 split
 .rename_i x m _ e
  obtain⟨rfl,rfl,rfl⟩:a=some x/\n=m+1/\c=_:=by simpa using e
  obtain⟨b,off,e,h2⟩:=h (by omega)
  have e:=Vp e;subst e
  have h1:=h2 0 (by omega)
  obtain⟨v,hv⟩:∃v,l[0]?=some v:=⟨l[0],by simp⟩
  rw[hv]at h1
  have:=World.block_lt_of_cell? _ _ h1
  simp at this⊢;omega
 .simp
def zD(x:UInt8):Wn:= .int .u8 x.toNat
abbrev Bs(w:Wm)(v:Wn)(l:List UInt8):Prop:=Sl w v (l.map zD)
theorem Bd(b o n:Nat):(⟨b,o,none⟩:Addr).add n=⟨b,o+n,none⟩:=by
 unfold Addr.add;split
 .rename_i h;subst h;rfl
 .rfl
section
variable{P:Program}{w:Wm}{t e:TypeId}{k:IntKind}{a:Int}
theorem Eu{inf:TypeInfo}{sz:Nat}(hz:inf.size=sz)(hu:P.underlying t=some (.slice e))(hi:P.info? e=some inf)(b o n c:Nat)(h0:0<=a)(h1:a<n):
 (aL t (.slice (some ⟨b,o,none⟩) n c) (.int k a)).run P w= .ok (.value (.pointer (some ⟨b,o+a.toNat*sz,none⟩))) w:=by
 rw[Mt hu hi _ n c h0 h1,Bd,hz]
theorem HC{inf:TypeInfo}(hz:inf.size=1)(hu:P.underlying t=some (.slice e))(hi:P.info? e=some inf)(b o n c:Nat)(h0:0<=a)(h1:a<n):
 (aL t (.slice (some ⟨b,o,none⟩) n c) (.int k a)).run P w= .ok (.value (.pointer (some ⟨b,o+a.toNat,none⟩))) w:=by
 rw[Mt hu hi _ n c h0 h1,Bd,hz,Nat.mul_one]
end
section
variable{P:Program}{w:Wm}{s d e:TypeId}
theorem QH(hs:P.underlying s=some (.slice e))(hd:P.underlying d=some .string)(he:P.underlying e=some (.int .u8)){l:List UInt8}{v:Wn}(h:Bs w v l):
 (rH s d v).run P w= .ok (.value (.string ⟨l.toArray⟩)) w:=by
 obtain⟨a,n,c,rfl,hn,hc,h⟩:=h
 simp only[UU]at hn
 unfold rH
 rw[kE]
 have key:(convert s d (.slice a n c)).run P w= .ok (.string ⟨l.toArray⟩) w:=by
  cases a with
  |none=>
   have hl:l=[]:=by
    cases l with
    |nil=>rfl
    |cons x l=>obtain⟨b,off,e,_⟩:=h (by rw[hn];simp);cases e
   subst hl
   rw[run_convert_bytes_string w s d e none n c hs he hd]
   rfl
  |some x=>
   subst hn
   refine run_convert_bytes_back w s d e x c l hs he hd λj hj=> ?_
   obtain⟨b,off,hx,h2⟩:=h (by omega)
   have hx:=Vp hx
   subst hx
   rw[Bd,h2 j hj]
   simp[zD,hj]
 rw[key]<;>rfl
theorem NM(hs:P.underlying s=some .string)(hd:P.underlying d=some (.slice e))(he:P.underlying e=some (.int .u8)){x:ByteArray}{K:Wn->Wm->Prop}
 (hk:∀w' c,Sl w' (.slice (some ⟨w.heap.size,0,none⟩) x.size c) (x.data.toList.map zD)->aJ w w' bR->w'.heap.size=w.heap.size+1→
  (∃r,bE w' w.heap.size (x.data.toList.map zD++List.replicate r (Value.int .u8 0))/\c=x.size+r)->K (.slice (some ⟨w.heap.size,0,none⟩) x.size c) w'):aB P (rH s d (.string x)) w K:=by
 have run:=run_bytes_of_string (P:=P) w s d e x hs hd he
 have hcap:x.size<=grownCap w x.size 0 e:=Nat.le_add_right _ _
 generalize grownCap w x.size 0 e=c at run hcap
 obtain⟨r,rfl⟩:∃r,c=x.size+r:=⟨c-x.size,by omega⟩
 have hrow:bytesRow x (x.size+r)=(x.data.toList.map zD++List.replicate r (Value.int .u8 0)).toArray:=by
  unfold bytesRow
  have:x.size+r-x.size=r:=by omega
  rw[this]
  apply Array.ext'
  simp only[Array.toList_append,Array.toList_map,Array.toList_replicate]
  rfl
 rw[hrow]at run
 have hlen:(x.data.toList.map zD).length=x.size:=by rw[UU,V5]<;>rfl
 have hsz:(x.data.toList.map zD++List.replicate r (Value.int .u8 0)).toArray.size=x.size+r:=by
  rw[V7,UO,Vz,hlen]
 rw[hsz]at run
 unfold aB rH
 rw[kE,run]
 have ho:bE (w.drew.alloc (.cells (x.data.toList.map zD++List.replicate r (Value.int .u8 0)).toArray e (x.size+r,x.size+r+1))) w.heap.size (x.data.toList.map zD++List.replicate r (Value.int .u8 0)):=
  ⟨e,x.size+r,x.size+r+1,Array.getElem?_push_size,.inl (by rw[UO,Vz,hlen];exact U0 _)⟩
 have hx:aJ w (w.drew.alloc (.cells (x.data.toList.map zD++List.replicate r (Value.int .u8 0)).toArray e (x.size+r,x.size+r+1))) bR:=(aJ.dr w bR).trans (aJ.alloc _ _ bR) (λ_ _ h=>h)
 refine hk _ _ ⟨_,_,_,rfl,hlen.symm,by omega,λ_=>⟨_,_,rfl,λi hi=> ?_⟩⟩ hx (by show(w.heap.push _).size=_;rw[Array.size_push]) ⟨r,ho,rfl⟩
 rw[ho.cell]
 simp only[UQ]
 rw[U8 (by rw[hlen];exact hi)]
end
theorem M1 (l:List UInt8):∀x∈l.map zD,one x=true:=by
 intro x hx
 obtain⟨c,_,rfl⟩:=Vl.1 hx
 rfl
theorem Sl.drop {w:Wm}{b o n c:Nat}{l:List Wn}(h:Sl w (.slice (some ⟨b,o,none⟩) n c) l){k:Nat}(hk:k<=n):
 Sl w (.slice (lN (some ⟨b,o,none⟩) c k 1) (n-k) (c-k)) (l.drop k):=by
 obtain⟨x,m,c',e,hm,hc,hh⟩:=h
 cases e
 refine⟨_,_,_,rfl,by rw[Vs];omega,by omega,λh0=> ?_⟩
 obtain⟨b',o',e,h2⟩:=hh (by omega)
 cases e
 have hne:¬c=k:=by omega
 refine⟨b,o+k,by unfold lN;rw[if_neg hne,Vx,Bd,Nat.mul_one],λi hi=> ?_⟩
 rw[VC,h2 (k+i) (by omega),List.getElem?_drop]
theorem Sl.take {w:Wm}{b o n c:Nat}{l:List Wn}(h:Sl w (.slice (some ⟨b,o,none⟩) n c) l){k:Nat}(hk:k<=n):
 Sl w (.slice (lN (some ⟨b,o,none⟩) c 0 1) (k-0) (c-0)) (l.take k):=by
 obtain⟨x,m,c',e,hm,hc,hh⟩:=h
 cases e
 refine⟨_,_,_,rfl,by rw[Vd];omega,by omega,λh0=> ?_⟩
 obtain⟨b',o',e,h2⟩:=hh (by omega)
 cases e
 have hne:¬c=0:=by omega
 refine⟨b,o,by unfold lN;rw[if_neg hne,Vx,Bd]<;>rfl,λi hi=> ?_⟩
 rw[h2 i (by omega),List.getElem?_take_of_lt (by omega)]
theorem bE.bs {w:Wm}{b off c:Nat}{cs:List Wn}{l:List UInt8}(h:bE w b cs)(hc:l.length<=c)(hl:∀i (hi:i<l.length),cs[off+i]?=some (zD l[i])):Bs w (.slice (some ⟨b,off,none⟩) l.length c) l:=
 ⟨_,_,_,rfl,by simp,hc,λ_=>⟨b,off,rfl,λi hi=>by rw[h.cell,hl i hi];simp[hi]⟩⟩
section
variable{P:Program}{w:Wm}{t e:TypeId}{k:IntKind}{a:Int}
theorem GU{b off:Nat}{l:List Wn}(h:∀i,i<l.length->w.cell? ⟨b,off+i,none⟩=l[i]?)(n:Nat)(hn:n<=l.length):
 (loadCells ⟨b,off,none⟩ n).run P w= .ok (l.take n).toArray w:=by
 have key:∀(m i:Nat) (acc:Array Wn),i+m<=l.length->(loadCellsFrom ⟨b,off,none⟩ i m acc).run P w= .ok (acc++((l.drop i).take m).toArray) w:=by
  intro m
  induction m with
  |zero=>intro i acc _;simp[loadCellsFrom]
  |succ m ih=>
   intro i acc hm
   have hc:=h i (by omega)
   rw[U1 (by omega)]at hc
   simp only[loadCellsFrom,Sem.run_bind,run_load,Bd,hc,Result.andThen_ok]
   rw[ih (i+1) _ (by omega),Vv (by omega:i<l.length),List.take_succ_cons]
   simp
 unfold loadCells
 rw[key n 0 #[] (by omega)]
 simp
theorem Kc{sz n:Nat}{v:Wn}{l:List Wn}(h1:sz=1)(h:Sl w v l)(hn:n<=l.length):(Builtin.firstCells sz n v).run P w= .ok (l.take n).toArray w:=by
 subst h1
 obtain⟨x,m,c,rfl,hm,hc,hh⟩:=h
 cases x with
 |none=>
  have:l=[]:=by
   cases l with
   |nil=>rfl
   |cons y l=>obtain⟨b,off,e,_⟩:=hh (by rw[hm];simp);cases e
  subst this
  simp[Builtin.firstCells]
 |some x=>
  simp only[Builtin.firstCells,Nat.mul_one]
  by_cases h0:0<m
  .obtain ⟨b,off,e,h2⟩:=hh h0
   have e:=Vp e;subst e
   exact GU (λi hi=>h2 i (by omega)) n hn
  .have h00:n=0:=by omega
   subst h00
   simp[loadCells,loadCellsFrom]
theorem Te{v:Wn}{l:List Wn}(h:Sl w v l):(Builtin.lenOf v).run P w= .ok l.length w:=by
 obtain⟨x,m,c,rfl,hm,hc,hh⟩:=h
 simp[Builtin.lenOf,hm]
theorem Q1 {ty t2:TypeId}{i:TypeInfo}(hu:P.underlying t=some (.slice e))(hi:P.info? e=some i)(h1:i.size=1){b off dl c:Nat}{cs:List Wn}(ho:bE w b cs)(hl:off+dl<=cs.length)
 {v:Wn} {l:List Wn} (h:Sl w v l) (hv:∀x∈l,one x=true) {K:Wn->Wm->Prop}
 (hk:∀w',bE w' b (nG cs off (l.take (min l.length dl)))->aJ w w' (λx=>x=b)->w'.heap.size=w.heap.size->K (.int .i64 (min l.length dl:Nat)) w'):
 aB P (lG .copy #[t,t2] ty [.slice (some ⟨b,off,none⟩) dl c,v]) w K:=by
 have hlen:(l.take (min l.length dl)).length=min l.length dl:=by rw[Vd];omega
 obtain⟨w',s1,s2,s3,s4,_⟩:=AG (P:=P) (M:=λx=>x=b) rfl (l.take (min l.length dl)) w off 0 cs ho (by rw[hlen];omega) (λx hx=>hv x (Wg hx))
 have:(lG .copy #[t,t2] ty [.slice (some ⟨b,off,none⟩) dl c,v]).run P w= .ok (.value (.int .i64 (min l.length dl:Nat))) w':=by
  unfold lG builtin
  simp only[Builtin.copy_,VL,UP,UR]
  simp only[underlying,Sem.run_bind,run_program,Result.andThen_ok,hu,Sem.run_pure,Te h,eZ hi,h1]
  have:=Kc (P:=P) (n:=min l.length dl) rfl h (Nat.min_le_left _ _)
  rw[show(Nat.min l.length dl)=min l.length dl from rfl,this]
  simp only[Result.andThen_ok,s1,goInt]
 unfold aB
 rw[this]
 exact hk w' (by simpa using s2) s3 s4
theorem Q2 {i:TypeInfo}{z:Wn}(hu:P.underlying t=some (.slice e))(hi:P.info? e=some i)(h1:i.size=1)(hz:i.zero=some z)(hz1:one z=true){n:Int}(h0:0<=n)(hn:i.bytes*n<=2^48)(hn2:n<=9223372036854775807)
 {K:Wn->Wm->Prop}
 (hk:∀w',bE w' w.heap.size (List.replicate n.toNat z)->aJ w w' bR->w'.heap.size=w.heap.size+1->K (.slice (some ⟨w.heap.size,0,none⟩) n.toNat n.toNat) w'):
 aB P (Ee t (.int k n) (.int k n)) w K:=by
 have hw:IntKind.i64.wrap n=n:=Ca (by omega) hn2
 have hcells:z.cells= #[z]:=KD hz1
 have harr:(Array.range n.toNat).map (λj=>(#[z]:Array Wn)[j%(#[z]:Array Wn).size]!)=(List.replicate n.toNat z).toArray:=by
  apply Array.ext
  .simp
  .intro j h1 h2;simp[Nat.mod_one]
 have hz':(zeroValue e).run P w= .ok z w:=by simp[zeroValue,typeInfo,hi,hz]
 have:(Ee t (.int k n) (.int k n)).run P w= .ok (.value (.slice (some ⟨w.heap.size,0,none⟩) n.toNat n.toNat)) (w.alloc (.cells (List.replicate n.toNat z).toArray e)):=by
  unfold Ee
  rw[kE]
  have t1:(decide (n<0)||decide ((i.bytes:Int)*n>2^48)||decide (n<0)||decide (n>n))=false:=by
   simp only[We,decide_eq_false_iff_not];omega
  by_cases hn0:n.toNat=0
  .simp only[Instr.makeSlice,underlying,typeInfo,asInt,asIntOf,pure_bind,Sem.run_bind,run_program,Result.andThen_ok,hu,hi,Sem.run_pure,hw,t1,UY,if_false,run_askRoom,eZ hi,h1,Nat.mul_one,hn0,if_true,newRow,run_newObj]
   have:(Array.range 0).map (λx=>(#[]:Array Wn)[x%(#[]:Array Wn).size]!)=(List.replicate 0 z).toArray:=by simp
   rw[this]
   rfl
  .simp only[Instr.makeSlice,underlying,typeInfo,asInt,asIntOf,pure_bind,Sem.run_bind,run_program,Result.andThen_ok,hu,hi,Sem.run_pure,hw,t1,UY,if_false,run_askRoom,eZ hi,h1,Nat.mul_one,hn0,hz',hcells,newRow,run_newObj,harr]
   rfl
 unfold aB
 rw[this]
 exact hk _ (bE.alloc _ _ _) (aJ.alloc _ _ _) (by simp)
end
end Go.En

/- Parts of the proof of StoreWhole: merged and given short names by a program of ours. -/
import Derived.Orders
import Derived.Below
import Derived.KernelRfl
import Derived.Eval
import Derived.RangeFuncRecord
import Derived.Laws.Sem
import Derived.Scope
import Derived.Test.YteelnmpbnaohpaaDoorRows
set_option linter.unusedVariables false
set_option linter.unusedSimpArgs false
open Array renaming getD_eq_getD_getElem? → Z2, getElem?_eq_getElem → aaA, getElem?_setIfInBounds_self_of_lt → aaC, getElem?_setIfInBounds_ne → aaE, getElem?_eq_none → aaL, all_eq_true' → abI, getElem?_toList → acE, mem_of_getElem? → adL
open Bool renaming and_eq_true → Z4, false_eq_true → ZS, not_true → ZX, or_eq_true → abC, not_eq_true' → abU, or_eq_false_iff → acT, false_or → adH
open List renaming getElem?_eq_getElem → Z0, getD_eq_getElem?_getD → Z5, map_cons → Z6, mem_cons_of_mem → Z7, getElem?_cons_succ → ZR, length_eq_zero_iff → aaG, length_cons → aaK, mem_cons → aaR, mem_range → aaS, toList_toArray → aaT, all_eq_true → aaU, mem_map → aaY, getElem?_eq_none → aaZ, map_congr_left → abF, mem_cons_self → abH, mem_append → abN, mem_append_left → acA, size_toArray → acB, mem_append_right → acQ, getElem_of_mem → adA, drop_eq_getElem_cons → adB, mem_of_getElem? → adO
open Nat renaming le_refl → Z8, zero_add → ZY, eq_of_beq_eq_true → aaI, lt_or_ge → abB, le_of_ble_eq_true → abY, lt_of_lt_of_le → acD, add_assoc → acI, blt_eq → acJ, ne_of_lt → acP, le_trans → acR, mod_lt → acU
open Option renaming map_some → aaX, getD_some → abL
open Option.some renaming injEq → aaN, inj → abG
namespace Go.En
open Go
abbrev adV := World
abbrev adW := Value
abbrev Env := Nat -> adW
def put (g : Env) (d : Option Tmp) (v : adW) : Env :=
 match d with
 | some d => fun i => match Nat.beq i d with | true => v | false => g i
 | none => g
def ev (g : Env) : Operand -> adW
 | .tmp t => g t
 | .const v => v
 | .global b => .pointer (some ⟨b, 0, none⟩)
 | .func f => .func (.func f) #[] #[]
def Zv (P : Program) (f : FuncId) (args : Array adW) (w : adV) (v : adW) (w' : adV) : Prop :=
 Calls P f args w fun e w'' => e = .returned v /\ w'' = w'
def gU (P : Program) (f : FuncId) (args : Array adW) (w : adV) (R : adW -> adV -> Prop) : Prop :=
 ∃ v w', Zv P f args w v w' /\ R v w'
theorem gU.mono {P : Program} {f : FuncId} {args : Array adW} {w : adV} {R R' : adW -> adV -> Prop} (h : gU P f args w R)
 (hr : ∀ v w', R v w' -> R' v w') : gU P f args w R' :=
 let ⟨v, w', a, b⟩ := h; ⟨v, w', a, hr _ _ b⟩
def YR (P : Program) (l : Nat) (f : FuncId) (tmps : Array adW) (ZP bd : Code) (w : adV) (v : adW) (w' : adV) : Prop :=
 RoundIn Fence.wide 0 P l f tmps ZP bd w fun e w'' => e = .returned v /\ w'' = w'
def Qk (P : Program) (l : Nat) (f : FuncId) (tmps : Array adW) (ZP bd : Code) (w : adV) (R : adW -> adV -> Prop) : Prop :=
 ∃ v w', YR P l f tmps ZP bd w v w' /\ R v w'
def Nm (P : Program) (r : Result Next) (K : adW -> adV -> Prop) : Prop :=
 match r with
 | .ok (.value v) w => K v w
 | .ok .skip w => K undef w
 | .ok (.enter f args) w => gU P f args w K
 | .ok (.round l f tmps ZP bd) w => Qk P l f tmps ZP bd w K
 | _ => False
theorem dX (P : Program) (v : adW) (w : adV) (K : adW -> adV -> Prop) : Nm P (.ok (.value v) w) K = K v w := Eq.trans rfl rfl
theorem stepR_skip (P : Program) (w : adV) (K : adW -> adV -> Prop) : Nm P (.ok .skip w) K = K undef w := Eq.trans rfl rfl
theorem Rd (P : Program) (l : Nat) (f : FuncId) (tmps : Array adW) (ZP bd : Code) (w : adV) (K : adW -> adV -> Prop) :
 Nm P (.ok (.round l f tmps ZP bd) w) K = Qk P l f tmps ZP bd w K := Eq.trans rfl rfl
def eY (P : Program) (s : Sem Next) (w : adV) (K : adW -> adV -> Prop) : Prop := Nm P (s.run P w) K
def gN (P : Program) (s : Sem Next) (v : adW) (w : adV) : Prop := s.run P w = .ok (.value v) w
def Gd (b : Bool) (s : (adW -> adV -> Prop) -> Prop) (w : adV) (K : adW -> adV -> Prop) : Prop :=
 match b with
 | true => s K
 | false => K undef w
def ZF (v : adW) : Option Bool := match v with | .bool b => some b | _ => none
def kP (v : adW) (want : Bool) : Bool := ZF v == some want
def lQ (v : adW) (A B : Prop) : Prop :=
 match v with
 | .bool b => (match b with | true => A | false => B)
 | _ => False
def Bb (ops : Array Oper) (j : Nat) : Option Tmp := (ops[j]?).bind (·.dst)
def xE (g : Env) (t : Option Tmp) (want : Bool) : Bool := match t with | some t => kP (g t) want | none => false
def V (s : Sem adW) : Sem Next := do pure (.value (<- s))
def U (s : Sem Unit) : Sem Next := do s; pure .skip
def Cv (op : BinOp) : Bool := match op with | .eql | .neq => true | _ => false
def gO (op : BinOp) (t : TypeId) (ox oy : Operand) (x y : adW) : Sem Next :=
 match Cv op with
 | true => V (do eqGuard op t ox oy x y; binOp op t x y)
 | false => V (binOp op t x y)
def nG (b : Builtin) (ats : Array TypeId) (ty : TypeId) (args : List adW) : Sem Next := builtin b ats ty #[] args.toArray
def xZ (f : adW) (args : List adW) : Sem Next := do let d <- Deferred.ofValue f args.toArray; invoke d.target d.args
def Jg (fn : Fn) (first captured : List adW) : Sem Next := V (Instr.makeFunc fn first.toArray captured.toArray)
def lK (t : TypeId) (ps : List (Nat × adW)) : Sem Next := V (Instr.build t ps.toArray)
def iF (t : TypeId) (n : Nat) (ps : List (Nat × adW)) : Sem Next := V (Instr.buildSlice t n ps.toArray)
def Gi (g : Env) (o : Oper) : Sem Next :=
 match o.op with
 | .binOp op t x y _ => gO op t x y (ev g x) (ev g y)
 | .makeFunc fn first captured => Jg fn (first.toList.map (ev g)) (captured.toList.map (ev g))
 | .build t ps => lK t (ps.toList.map fun p => (p.1, ev g p.2))
 | .buildSlice t n ps => iF t n (ps.toList.map fun p => (p.1, ev g p.2))
 | .call c => (match c.callee with
   | .builtin b => nG b c.argTypes o.type (c.args.toList.map (ev g))
   | .value f => xZ (ev g f) (c.args.toList.map (ev g))
   | _ => execOp (ev g) o)
 | _ => execOp (ev g) o
def Et (P : Program) (g : Env) (o : Oper) (w : adV) (K : adW -> adV -> Prop) : Prop :=
 match o.op with
 | .move x => K (ev g x) w
 | .assign x => K (ev g x) w
 | .call c => (match c.callee with
   | .value (.func f) => gU P f (c.args.toList.map (ev g)).toArray w K
   | _ => eY P (Gi g o) w K)
 | _ => eY P (Gi g o) w K
def Dc (P : Program) (ops : Array Oper) (g : Env) (o : Oper) (w : adV) (K : adW -> adV -> Prop) : Prop :=
 match o.guard with
 | none => Et P g o w K
 | some (j, want) => Gd (xE g (Bb ops j) want) (Et P g o w) w K
def Ov (P : Program) (ops : Array Oper) : List Oper -> Env -> adV -> (Env -> adV -> Prop) -> Prop
 | [], g, w, K => K g w
 | o :: rest, g, w, K => Dc P ops g o w fun v w' => Ov P ops rest (put g o.dst v) w' K
structure Rec where
 heavy : Bool
 o : Oper
 g : Env
 w : adV
 v : adW
def Zi (ops : Array Oper) (o : Oper) (g : Env) : Bool := match o.guard with | none => true | some (j, want) => xE g (Bb ops j) want
def Gs (b : Bool) (p : Prop) : Prop := match b with | true => p | false => True
def KK (P : Program) (ops : Array Oper) (q : Rec) (o : Oper) (g : Env) (w' : adV) (v : adW) : Prop :=
 match q.heavy with
 | true => Gs (Zi ops o g) (gN P (Gi g o) v q.w)
 | false => Gs (Zi ops q.o q.g) (gN P (Gi q.g q.o) q.v w')
def Pc (i j : Nat) : List (Nat × Nat) -> Bool
 | [] => false
 | (a, b) :: r => match Nat.beq a i with
   | true => (match Nat.beq b j with | true => true | false => Pc i j r)
   | false => Pc i j r
def pF (i : Nat) : List Nat -> Bool
 | [] => false
 | a :: r => match Nat.beq a i with | true => true | false => pF i r
def Q5 : List Rec -> Nat -> Option Rec
 | [], _ => none
 | q :: _, 0 => some q
 | _ :: r, n + 1 => Q5 r n
def WH (P : Program) (ops : Array Oper) (o : Oper) (g : Env) (w' : adV) (v : adW) (hist : List Rec) : List Nat -> Prop
 | [] => True
 | k :: ks => (match Q5 hist k with
   | some q => KK P ops q o g w' v
   | none => False) /\ WH P ops o g w' v hist ks
abbrev Tq := List Nat × List (Nat × Nat)
abbrev RC := List (Bool × List Nat)
def qC (P : Program) (ops : Array Oper) : List Oper -> RC -> List Rec -> Env -> adV -> (Env -> adV -> Prop) -> Prop
 | [], _, _, g, w, K => K g w
 | _ :: _, [], _, _, _, _ => False
 | o :: rest, (hv, ks) :: pl, hist, g, w, K =>
   Dc P ops g o w fun v w' =>
    match hv, ks with
    | true, [] => qC P ops rest pl (⟨true, o, g, w, v⟩ :: hist) (put g o.dst v) w' K
    | true, k :: ks => WH P ops o g w' v hist (k :: ks) /\ qC P ops rest pl (⟨true, o, g, w, v⟩ :: hist) (put g o.dst v) w' K
    | false, [] => w' = w /\ qC P ops rest pl (⟨false, o, g, w, v⟩ :: hist) (put g o.dst v) w K
    | false, k :: ks => w' = w /\ WH P ops o g w v hist (k :: ks) /\ qC P ops rest pl (⟨false, o, g, w, v⟩ :: hist) (put g o.dst v) w K
def jW {α : Type} (F : (α -> adV -> Prop) -> α -> adV -> Prop) (g : α) (w : adV) : Prop :=
 ∃ I : Nat -> α -> adV -> Prop, (∃ n, I n g w) /\ ∀ n g w, I n g w -> F (fun g' w' => ∃ m, m < n /\ I m g' w') g w
def zA (K : Env -> adV -> Prop) (Q : Exit -> Env -> adV -> Prop) : Exit -> Env -> adV -> Prop :=
 fun e g w => (fun (_ : Program -> Sem Next -> adV -> (adW -> adV -> Prop) -> Prop) => match e with | .normal => K g w | e => Q e g w) eY
def Xn (id : Nat) (Q : Exit -> Env -> adV -> Prop) : Exit -> Env -> adV -> Prop :=
 fun e g w => (fun (_ : Program -> Sem Next -> adV -> (adW -> adV -> Prop) -> Prop) => match e with | .exit i => (match Nat.beq i id with | true => Q .normal g w | false => Q (.exit i) g w) | e => Q e g w) eY
inductive HT where
 | leaf (an : Tq) (pl : RC)
 | perm (π : List Nat) (es : List (Nat × Nat)) (an : Tq) (pl : RC)
 | split (a b : Nat) (x y : HT)
structure FA where
 f : FuncId
 t : Nat -> HT
def vG : List Nat -> Nat -> Nat
 | [], _ => 0
 | a :: r, i => match Nat.beq a i with | true => 0 | false => vG r i + 1
def CT (π : List Nat) (i : Nat) : List (Nat × Nat) -> List Edge
 | [] => []
 | (a, b) :: r => match Nat.beq b i with | true => ⟨vG π a, .data⟩ :: CT π i r | false => CT π i r
def Fq (π : List Nat) (es : List (Nat × Nat)) (i : Nat) (o : Oper) : Oper :=
 { dst := o.dst, op := o.op, type := o.type, pos := o.pos, after := (o.after.toList.map (fun e => (⟨vG π e.on, e.ground⟩ : Edge)) ++ CT π i es).toArray,
   guard := match o.guard with | none => none | some (j, b) => some (vG π j, b) }
def Lk (π : List Nat) (es : List (Nat × Nat)) (l : List Oper) : List Nat -> List Oper
 | [] => []
 | i :: r => match l[i]? with | some o => Fq π es i o :: Lk π es l r | none => Lk π es l r
def oX (π : List Nat) (es : List (Nat × Nat)) (ops : Array Oper) : Array Oper := (Lk π es ops.toList π).toArray
def WZ (f : FuncId) (id : Nat) (ops : Array Oper) (a b : Nat) (w : adV) : Bool :=
 Nat.ble ((Region.schedule true ops (w.tape w.drawn (.order f id))).idxOf a) ((Region.schedule true ops (w.tape w.drawn (.order f id))).idxOf b)
def Ord (b : Bool) (A B : Prop) : Prop := match b with | true => A | false => B
def Sg (P : Program) (f : FuncId) (id : Nat) (ops : Array Oper) : HT -> Env -> adV -> adV -> (Env -> adV -> Prop) -> Prop
 | .leaf _ pl, g, _, w, K => qC P ops ops.toList pl [] g w K
 | .perm π es _ pl, g, _, w, K => qC P (oX π es ops) (oX π es ops).toList pl [] g w K
 | .split a b x y, g, w0, w, K => Ord (WZ f id ops a b w0) (Sg P f id ops x g w0 w K) (Sg P f id ops y g w0 w K)
def DS : Nat := 1000003
def Rq : adW -> List Deferred
 | .pointer (some a) => [{ target := .collected a.block, args := #[] }]
 | _ => []
def noMark : adW -> Bool
 | .pointer _ => false
 | _ => true
def tmpsOf (N : Nat) (g : Env) : Array adW := Array.ofFn (n := N) fun i => g i.val
def Mj (P : Program) (f : FuncId) : Nat := match P.funcs[f]? with | some fn => fn.ntmps | none => 0
def XX (Q : Exit -> Env -> adV -> Prop) (g : Env) : Option Code -> adV -> Prop
 | none, w => Q .normal g w
 | some .ret, w => Q .ret g w
 | some (.exit i), w => Q (.exit i) g w
 | _, _ => False
def Ws (l : Nat) (Q : Exit -> Env -> adV -> Prop) (g : Env) (w : adV) : Prop :=
 ∃ r : Loop, w.heap[l]? = some (.loop r) /\ r.state ≠ .busy /\ XX Q g r.pending (w.putObj l (.loop { r with state := .exhausted }))
def U3 (f : FuncId) (N : Nat) (ps : Array Tmp) (ZP bd : Code) (g : Env) (w : adV) : adV :=
 (w.alloc (.deferred (some []))).alloc (.loop { state := .ready, pending := none, fn := f, tmps := tmpsOf N g, params := ps, assign := ZP, body := bd, defers := w.heap.size })
def Za (P : Program) (r : Result Next) (K : adW -> adV -> Prop) : Prop :=
 match r with
 | .ok (.enter f args) w => gU P f args w K
 | _ => False
def Dk (l : Nat) : adW := .func (.yield l) #[] #[]
def RF (P : Program) (f : FuncId) (gf : Operand) (ps : Array Tmp) (ZP bd : Code) (Q : Exit -> Env -> adV -> Prop) (g : Env) (w : adV) : Prop :=
 match noMark (g DS) with
 | true => Za P ((xZ (ev g gf) [Dk (w.heap.size + 1)]).run P (U3 f (Mj P f) ps ZP bd g w)) fun _ w3 =>
  Ws (w.heap.size + 1) Q (put g (some DS) (.pointer (some ⟨w.heap.size, 0, none⟩))) w3
 | false => False
def iL (P : Program) (ann : FA) : Code -> (Exit -> Env -> adV -> Prop) -> Env -> adV -> Prop
 | .skip, Q, g, w => Q .normal g w
 | .region id ops draw, Q, g, w => match draw with
   | false => Ov P ops ops.toList g w (Q .normal)
   | true => Sg P ann.f id ops (ann.t id) g w { w with drawn := w.drawn + 1 } (Q .normal)
 | .seq x y, Q, g, w => iL P ann x (zA (fun g w => iL P ann y Q g w) Q) g w
 | .cond c x y, Q, g, w => lQ (ev g c) (iL P ann x Q g w) (iL P ann y Q g w)
 | .block id c, Q, g, w => iL P ann c (Xn id Q) g w
 | .loop c, Q, g, w => jW (fun X g w => iL P ann c (zA X Q) g w) g w
 | .scope c, Q, g, w => iL P ann c Q g w
 | .label _, Q, g, w => Q .normal g w
 | .exit id, Q, g, w => Q (.exit id) g w
 | .ret, Q, g, w => Q .ret g w
 | .rangeFunc gf ps ZP bd, Q, g, w => RF P ann.f gf ps ZP bd Q g w
 | _, _, _, _ => False
def TU (N : Nat) (o : Oper) : Bool := match o.dst with | some d => Nat.blt d N | none => true
def U1 (b : Array Nat) (i j : Nat) : Bool := (b.getD j 0).testBit i
def looks (ops : Array Oper) (o : Oper) : List Tmp :=
 (o.op.operands.toList.filterMap fun | .tmp t => some t | _ => none) ++ (match o.guard with | some (j, _) => (Bb ops j).toList | none => [])
def Ve (ops : Array Oper) (x y : Oper) : Bool :=
 (match x.dst with | some d => (looks ops y).contains d || y.dst == some d | none => false) ||
 (match y.dst with | some d => (looks ops x).contains d | none => false)
def Nh (o : Oper) : Bool := match o.op with | .select .. => true | _ => false
def Vh (o : Oper) : Bool := match o.op with | .call { callee := .value (.func _), .. } => true | _ => false
def PU (o : Oper) : Bool := match o.op with | .defer .. => true | _ => false
def PQ : Operand -> Bool | .tmp t => Nat.blt t DS | _ => true
def NN (P : Program) (o : Oper) : Bool :=
 match o.op with
 | .call c => (match c.callee with
   | .value (.func f) => (match P.funcs[f]? with | some fn => fn.body.isSome && !(fn.name == "runtime.NumGoroutine") | none => false)
   | .builtin b => (match b with | .print | .println => false | _ => true)
   | _ => true)
 | _ => true
def Ac (P : Program) (o : Oper) : Bool := NN P o && (o.op.operands.toList.all PQ && (!Nh o && !PU o))
def Hn (o : Oper) : Bool := match o.op with | .move _ | .assign _ => true | _ => false
def IQ (ops : Array Oper) (b : Array Nat) (an : Tq) (i j : Nat) (x y : Oper) : Bool :=
 U1 b i j ||
 (!Ve ops x y &&
   match pF i an.1, pF j an.1 with
   | true, true => false
   | false, false => true
   | true, false => Hn y || Pc i j an.2
   | false, true => Hn x || Pc i j an.2)
def Rs (ops : Array Oper) (b : Array Nat) (an : Tq) : Bool :=
 (List.range ops.size).all fun j => (List.range j).all fun i =>
  match ops[i]?, ops[j]? with
  | some x, some y => IQ ops b an i j x y
  | _, _ => false
def PY (ops : Array Oper) : Bool :=
 (List.range ops.size).all fun i => match ops[i]? with
  | some o => o.after.all fun e => !Region.binds .any e || Nat.blt e.on i
  | none => false
def P5 (ops : Array Oper) (b : Array Nat) : Bool :=
 (List.range ops.size).all fun j => (List.range ops.size).all fun i =>
  !U1 b i j || (match ops[j]? with
   | some o => o.after.any fun e => Region.binds .any e && (Nat.beq e.on i || U1 b i e.on)
   | none => false)
def Oy (ops : Array Oper) (an : Tq) : Bool :=
 PY ops && P5 ops (Region.before ops) && Rs ops (Region.before ops) an && (ops.all fun o => !Nh o) &&
  (List.range ops.size).all fun i => match ops[i]? with | some o => !Vh o || pF i an.1 | none => false
def Oz (n : Nat) (an : Tq) (pl : RC) : Bool :=
 (List.range n).all fun i => match pl[i]? with
  | some (h, ks) => h == pF i an.1 && an.2.all fun p => !Nat.beq p.2 i || (Nat.blt p.1 i && ks.contains (i - 1 - p.1))
  | none => false
def SS (π : List Nat) (ops : Array Oper) : Bool :=
 Nat.beq π.length ops.size && ((List.range ops.size).all fun k => match π[k]? with | some i => Nat.beq (vG π i) k && Nat.blt i ops.size | none => false) &&
  ((List.range ops.size).all fun i => match π[vG π i]? with | some j => Nat.beq j i | none => false) &&
  ((List.range ops.size).all fun i => match ops[i]? with
    | some o => (o.after.all fun e => Nat.blt e.on ops.size) && (match o.guard with | some (j, _) => Nat.blt j ops.size | none => true)
    | none => false)
def KF (P : Program) (N : Nat) (ops : Array Oper) : List (Nat × Nat) -> HT -> Bool
 | _, .leaf an pl => Oy ops an && Oz ops.size an pl
 | path, .perm π es an pl => (es.all fun p => Pc p.1 p.2 path && Nat.blt p.1 ops.size) && SS π ops && (oX π es ops).all (TU N) && (oX π es ops).all (Ac P) &&
  Oy (oX π es ops) an && Oz (oX π es ops).size an pl
 | path, .split a b x y => !Nat.beq a b && KF P N ops ((a, b) :: path) x && KF P N ops ((b, a) :: path) y
def codeOk (P : Program) (N : Nat) (ann : FA) : Code -> Bool
 | .skip | .exit _ | .ret | .label _ => true
 | .scope c => codeOk P N ann c
 | .region id ops draw => ops.all (TU N) && ops.all (Ac P) && (!draw || KF P N ops [] (ann.t id))
 | .seq x y => codeOk P N ann x && codeOk P N ann y
 | .cond c x y => PQ c && (codeOk P N ann x && codeOk P N ann y)
 | .block _ c => codeOk P N ann c
 | .loop c => codeOk P N ann c
 | .rangeFunc gf _ _ _ => PQ gf
 | _ => false
def qV : Code -> Bool
 | .seq x y => qV x && qV y
 | .cond _ x y => qV x && qV y
 | .block _ c => qV c
 | .loop c => qV c
 | .scope c => qV c
 | .rangeFunc .. => false
 | _ => true
def P7 : ResultVar -> Bool
 | .tmp t => Nat.blt t DS
 | .cell a _ => Nat.blt a DS
theorem GO (g : Env) (d i : Nat) (v : adW) : put g (some d) v i = if i = d then v else g i := by
 unfold put
 by_cases h : i = d
 .subst h; simp
 .have : Nat.beq i d = false := by
   cases hb : Nat.beq i d
   .rfl
   .exact absurd (aaI hb) h
  simp [this, h]
theorem RD {P : Program} {o : Oper} (h : Ac P o = true) : NN P o = true := by
 unfold Ac at h; simp only [Z4] at h; exact h.1
theorem SO {P : Program} {o : Oper} (h : Ac P o = true) : ∀ x ∈ o.op.operands, PQ x = true := by
 unfold Ac at h; simp only [Z4] at h
 intro x hx
 exact aaU.1 h.2.1 x (by simpa using hx)
theorem Th {P : Program} {o : Oper} (h : Ac P o = true) : Nh o = false := by
 unfold Ac at h; simp only [Z4, abU] at h; exact h.2.2.1
theorem Tf {P : Program} {o : Oper} (h : Ac P o = true) : PU o = false := by
 unfold Ac at h; simp only [Z4, abU] at h; exact h.2.2.2
def Kz (N : Nat) (ops : Array Oper) : Prop := ∀ (i : Nat) (o : Oper), ops[i]? = some o -> ∀ t, o.dst = some t -> t < N
structure Jb (N : Nat) (g : Env) (a : Act) : Prop where
 le : N <= DS
 defers : a.defers = Rq (g DS)
 size : a.tmps.size = N
 at_ : ∀ i, i ≠ DS -> a.tmps.getD i undef = g i
theorem Jb.ev {N : Nat} {g : Env} {a : Act} (h : Jb N g a) (x : Operand) (hx : PQ x = true) : a.eval x = ev g x := by
 cases x with
 | tmp t =>
   have : t < DS := (acJ (x := t) (y := DS)) ▸ hx
   have e := h.at_ t (acP this)
   simp [Act.eval, En.ev, <- e]
 | _ => simp [Act.eval, En.ev]
theorem Jb.put {N : Nat} {g : Env} {a : Act} (h : Jb N g a) (d : Option Tmp) (v : adW) (hd : ∀ t, d = some t -> t < N) :
 Jb N (put g d v) (a.put d v) := by
 cases d with
 | none => exact h
 | some t =>
   obtain ⟨h0, h1, h2, h3⟩ := h
   have ht := hd t rfl
   refine ⟨h0, ?_, by simp [Act.put, h2], fun i hne => ?_⟩
   .rw [GO, if_neg (Nat.ne_of_gt (acD ht h0))]; exact h1
   .rw [GO, <- h3 i hne]
    by_cases hi : i = t
    .subst hi; simp [Act.put, h2, ht]
    .have hi' : t ≠ i := fun e => hi e.symm
     simp [Act.put, hi, aaE hi']
theorem Jb.wanted {N : Nat} {g : Env} {a : Act} (h : Jb N g a) (ops : Array Oper) (hd : Kz N ops) (o : Oper) :
 Region.wanted o (yielded ops a.tmps) = match o.guard with | none => true | some (j, want) => xE g (Bb ops j) want := by
 unfold Region.wanted
 cases o.guard with
 | none => rfl
 | some p =>
   obtain ⟨j, want⟩ := p
   simp only [yielded, xE, Bb]
   cases ho : ops[j]? with
   | none => simp
   | some o' =>
     cases hdd : o'.dst with
     | none => simp [hdd]
     | some t =>
       have hlt := hd j o' ho t hdd
       have hle := h.le
       have h3 := h.at_ t (acP (acD hlt hle))
       simp only [hdd, Option.bind_some, kP, ZF, <- h3]
       simp only [Z2]
       cases ht : a.tmps[t]? with
       | none => simp [undef]
       | some v => cases v <;> simp
def Zf (P : Program) (o : Oper) (a : Act) (next : Act -> adV -> Prop) : Result Next -> Prop
 | .ok (.value v) w' => next (a.put o.dst v) w'
 | .ok .skip w' => next (a.put o.dst undef) w'
 | .ok (.enter f args) w' => ∃ v w'', Zv P f args w' v w'' /\ next (a.put o.dst v) w''
 | .ok (.round l f tmps ZP bd) w' => ∃ v w'', YR P l f tmps ZP bd w' v w'' /\ next (a.put o.dst v) w''
 | _ => False
def Sw (P : Program) (o : Oper) (a : Act) (w : adV) (next : Act -> adV -> Prop) : Prop := PU o = false /\ Zf P o a next ((execOp a.eval o).run P w)
def I0 (P : Program) (ops : Array Oper) (i : Nat) (K : Act -> adV -> Prop) (a : Act) (w : adV) : Prop :=
 match ops[i]? with
 | none => K a w
 | some o => if Region.wanted o (yielded ops a.tmps) then Sw P o a w K else K (a.put o.dst undef) w
def Bf (P : Program) (ops : Array Oper) (Q : Act -> adV -> Prop) : List Nat -> Act -> adV -> Prop
 | [], a, w => Q a w
 | i :: rest, a, w => I0 P ops i (Bf P ops Q rest) a w
def OT (P : Program) (ops : Array Oper) (Q : Act -> adV -> Prop) : Nat -> Array Bool -> Act -> adV -> Prop
 | 0, listed, a, w => Region.ready .any ops listed = [] /\ Q a w
 | fuel + 1, listed, a, w =>
   (Region.ready .any ops listed = [] -> Q a w) /\ ∀ i ∈ Region.ready .any ops listed, I0 P ops i (OT P ops Q fuel (listed.setIfInBounds i true)) a w
theorem PK {P : Program} {o : Oper} {a : Act} {w : adV} {K K' : Act -> adV -> Prop} (h : ∀ a w, K a w -> K' a w) (hh : Sw P o a w K) : Sw P o a w K' := by
 refine ⟨hh.1, ?_⟩
 have hh := hh.2
 generalize (execOp a.eval o).run P w = r at *
 cases r with
 | ok x w' =>
   cases x <;> simp only [Zf] at hh ⊢ <;> first | exact h _ _ hh | (obtain ⟨v, w'', h1, h2⟩ := hh; exact ⟨v, w'', h1, h _ _ h2⟩) | exact hh
 | halt x w' => exact hh.elim
theorem Sx {P : Program} {ops : Array Oper} {i : Nat} {a : Act} {w : adV} {K K' : Act -> adV -> Prop} (h : ∀ a w, K a w -> K' a w) (hh : I0 P ops i K a w) : I0 P ops i K' a w := by
 unfold I0 at *
 split
 .exact h _ _ (by simpa [*] using hh)
 .rename_i o ho
  simp only [ho] at hh
  split
  .rename_i hw; simp only [hw, if_true] at hh; exact PK h hh
  .rename_i hw; simp only [hw] at hh; exact h _ _ hh
def OL (ro : Option Nat) : Fence := { Fence.wide with round := ro }
theorem UY {P : Program} {ops : Array Oper} {Q : Act -> adV -> Prop} (ro : Option Nat) : ∀ (L : List Nat) (a : Act) (w : adV), Bf P ops Q L a w →
 wpOpsIn (OL ro) 0 P ops (fun e a w => e = .normal /\ Q a w) L a w := by
 intro L
 induction L with
 | nil => intro a w h; exact ⟨rfl, h⟩
 | cons i L ih =>
   intro a w h
   simp only [Bf, I0] at h
   simp only [wpOpsIn]
   cases ho : ops[i]? with
   | none => rw [ho] at h; exact ih _ _ h
   | some o =>
     rw [ho] at h
     simp only at h ⊢
     by_cases hw : Region.wanted o (yielded ops a.tmps) = true
     .rw [if_pos hw] at h ⊢
      obtain ⟨hd, h⟩ := h
      refine ⟨fun _ _ => trivial, ?_⟩
      rw [Oper.semAt_eq _ _ _ (fun c hc => by simp [PU, hc] at hd)]
      generalize (execOp a.eval o).run P w = r at *
      cases r with
      | halt x w' => exact h.elim
      | ok x w' =>
        cases x <;> simp only [Zf] at h <;> simp only [Oper.uponIn] <;> try (exact h.elim)
        .exact ih _ _ h
        .exact ih _ _ h
        .obtain ⟨v, w'', h1, h2⟩ := h
         refine ⟨fun hn => by simp [OL, Fence.wide] at hn, ?_⟩
         have := callsIn_wide (n := 0).2 h1
         refine CallsIn.mono (F := OL ro) (n := 0) this ?_
         rintro e w3 ⟨rfl, rfl⟩
         exact ih _ _ h2
        .obtain ⟨v, w'', h1, h2⟩ := h
         refine ⟨fun hn => by simp [OL, Fence.wide] at hn, ?_⟩
         refine RoundIn.mono (F := OL ro) (n := 0) h1 ?_
         rintro e w3 ⟨rfl, rfl⟩
         exact ih _ _ h2
     .rw [if_neg hw] at h ⊢
      exact ⟨fun _ _ => trivial, ih _ _ h⟩
section
variable {P : Program} {ops : Array Oper}
def MZ (P : Program) (ops : Array Oper) (g : Env) (o : Oper) (w : adV) (v : adW) (w' : adV) : Prop :=
 ∀ K : adW -> adV -> Prop, K v w' -> Dc P ops g o w K
theorem TL {s : Sem Next} {w : adV} {K : adW -> adV -> Prop} (h : eY P s w K) :
 ∃ v w', (∀ K' : adW -> adV -> Prop, K' v w' -> eY P s w K') /\ K v w' := by
 unfold eY at *
 generalize s.run P w = r at *
 match r, h with
 | .ok (.value v) w1, h => exact ⟨v, w1, fun _ h' => h', h⟩
 | .ok .skip w1, h => exact ⟨undef, w1, fun _ h' => h', h⟩
 | .ok (.enter f args) w1, h =>
   obtain ⟨v, w', hr, hk⟩ := h
   exact ⟨v, w', fun _ h' => ⟨v, w', hr, h'⟩, hk⟩
 | .ok (.round l f tmps ZP bd) w1, h =>
   obtain ⟨v, w', hr, hk⟩ := h
   exact ⟨v, w', fun _ h' => ⟨v, w', hr, h'⟩, hk⟩
theorem PJ {g : Env} {o : Oper} {w : adV} {K : adW -> adV -> Prop} (h : Et P g o w K) :
 ∃ v w', (∀ K' : adW -> adV -> Prop, K' v w' -> Et P g o w K') /\ K v w' := by
 unfold Et at *
 split at h
 .exact ⟨_, _, fun _ h' => h', h⟩
 .exact ⟨_, _, fun _ h' => h', h⟩
 .split at h
  .obtain ⟨v, w', a, b⟩ := h
   exact ⟨v, w', fun _ h' => ⟨v, w', a, h'⟩, b⟩
  .exact TL h
 .exact TL h
theorem Xu (op : BinOp) (t : TypeId) (ox oy : Operand) (x y : adW) : gO op t ox oy x y = V (do eqGuard op t ox oy x y; binOp op t x y) := by
 cases op <;> simp [gO, Cv, eqGuard]
theorem Va {g : Env} {o : Oper} (ho : Ac P o = true) : Gi g o = execOp (ev g) o := by
 have ho := RD ho
 unfold Gi
 split
 .rename_i op t x y yt hx
  simp only [execOp, hx, Xu, V]
 .rename_i fn first captured hx
  have e1 : (List.map (ev g) first.toList).toArray = first.map (ev g) := by obtain ⟨l⟩ := first; simp
  have e2 : (List.map (ev g) captured.toList).toArray = captured.map (ev g) := by obtain ⟨l⟩ := captured; simp
  simp only [execOp, hx, Jg, V, e1, e2]
 .rename_i t ps hx
  have e : (List.map (fun p : Nat × Operand => (p.1, ev g p.2)) ps.toList).toArray = ps.map (fun p => (p.1, ev g p.2)) := by obtain ⟨l⟩ := ps; simp
  simp only [execOp, hx, lK, V, e]
 .rename_i t n ps hx
  have e : (List.map (fun p : Nat × Operand => (p.1, ev g p.2)) ps.toList).toArray = ps.map (fun p => (p.1, ev g p.2)) := by obtain ⟨l⟩ := ps; simp
  simp only [execOp, hx, iF, V, e]
 .rename_i c hx
  split
  .rename_i b hb
   simp only [execOp, hx, resolve, hb, pure_bind, invoke, nG]
   unfold NN at ho
   simp only [hx, hb] at ho
   have e : (List.map (ev g) c.args.toList).toArray = c.args.map (ev g) := by obtain ⟨l⟩ := c.args; simp
   rw [e]
   cases b <;> first | rfl | (cases ho)
  .rename_i f hb
   have e : (List.map (ev g) c.args.toList).toArray = c.args.map (ev g) := by obtain ⟨l⟩ := c.args; simp
   simp only [execOp, hx, resolve, hb, xZ, e]
  .rfl
 .rfl
theorem Ht {f : FuncId} {fn : Func} (hf : P.funcs[f]? = some fn) (hb : fn.body.isSome = true) (hn : (fn.name == "runtime.NumGoroutine") = false)
 (args : Array adW) (w : adV) : (callFunc f args).run P w = .ok (.enter f args) w := by
 unfold callFunc
 have hb' : fn.body.isNone = false := by cases h : fn.body <;> simp_all
 show Sem.run P (Sem.program fun p => _) w = _
 simp only [Sem.run]
 simp only [bind, Sem.bind, hf, hn, hb', ZS, if_false]
 rfl
theorem Hd {g : Env} {o : Oper} {w : adV} {K : adW -> adV -> Prop} (h : Dc P ops g o w K) :
 ∃ v w', MZ P ops g o w v w' /\ K v w' := by
 unfold MZ
 unfold Dc at *
 split at h
 .obtain ⟨v, w', h1, h2⟩ := PJ h
  exact ⟨v, w', h1, h2⟩
 .rename_i j want hg
  unfold Gd at *
  cases hb : xE g (Bb ops j) want with
  | true =>
    simp only [hb] at h
    obtain ⟨v, w', h1, h2⟩ := PJ h
    exact ⟨v, w', fun K hk => h1 K hk, h2⟩
  | false =>
    simp only [hb] at h
    exact ⟨_, _, fun K hk => hk, h⟩
theorem MY {N i : Nat} {g : Env} {a : Act} {o : Oper} {w w' : adV} {v : adW} {next : Act -> adV -> Prop}
 (hi : ops[i]? = some o) (hc : Ac P o = true) (hd : Kz N ops) (hr : Jb N g a) (hy : MZ P ops g o w v w') (hn : next (a.put o.dst v) w') : I0 P ops i next a w := by
 have h := hy (fun v2 w2 => v2 = v /\ w2 = w') ⟨rfl, rfl⟩
 unfold I0
 rw [hi]
 simp only [hr.wanted ops hd]
 have run : Et P g o w (fun v2 w2 => v2 = v /\ w2 = w') -> Sw P o a w next := by
  intro h
  refine ⟨Tf hc, ?_⟩
  have hevs : execOp a.eval o = execOp (ev g) o := execOp_congr o (fun cs b he => by have := Th hc; simp [Nh, he] at this) (fun x hx => hr.ev x (SO hc x hx))
  have stp : eY P (Gi g o) w (fun v2 w2 => v2 = v /\ w2 = w') -> Zf P o a next ((execOp (ev g) o).run P w) := by
   intro h
   rw [Va hc] at h
   unfold eY at h
   generalize (execOp (ev g) o).run P w = r at *
   match r, h with
   | .ok (.value v) w1, h => obtain ⟨rfl, rfl⟩ := h; exact hn
   | .ok .skip w1, h => obtain ⟨rfl, rfl⟩ := h; exact hn
   | .ok (.enter f args) w1, h =>
     obtain ⟨v2, w2, hret, rfl, rfl⟩ := h
     exact ⟨_, _, hret, hn⟩
   | .ok (.round l f tmps ZP bd) w1, h =>
     obtain ⟨v2, w2, hret, rfl, rfl⟩ := h
     exact ⟨_, _, hret, hn⟩
  rw [hevs]
  unfold Et at h
  split at h
  .rename_i x hx
   obtain ⟨rfl, rfl⟩ := h
   simp only [execOp, hx]; exact hn
  .rename_i x hx
   obtain ⟨rfl, rfl⟩ := h
   simp only [execOp, hx]; exact hn
  .rename_i c hx
   split at h
   .rename_i f hcal
    obtain ⟨v2, w2, hret, rfl, rfl⟩ := h
    have e : (execOp (ev g) o).run P w = .ok (.enter f (List.map (ev g) c.args.toList).toArray) w := by
     have hc := RD hc
     unfold NN at hc
     simp only [hx, hcal] at hc
     cases hfn : P.funcs[f]? with
     | none => rw [hfn] at hc; cases hc
     | some fn =>
       rw [hfn] at hc
       simp only [Z4, abU] at hc
       have ea : (List.map (ev g) c.args.toList).toArray = c.args.map (ev g) := by obtain ⟨l⟩ := c.args; simp
       rw [ea]
       simp only [execOp, hx, resolve, hcal, ev, Deferred.ofValue, pure_bind, invoke]
       simp only [Array.empty_append, Array.append_empty]
       exact Ht hfn hc.1 hc.2 _ w
    rw [e]
    exact ⟨_, _, hret, hn⟩
   .exact stp h
  .exact stp h
 unfold Dc at h
 cases hg : o.guard with
 | none =>
   rw [hg] at h
   simp only [if_true]
   exact run h
 | some p =>
   obtain ⟨j, want⟩ := p
   simp only [hg] at h
   simp only
   by_cases hb : xE g (Bb ops j) want = true
   .rw [if_pos hb]
    simp only [hb, Gd] at h
    exact run h
   .rw [if_neg hb]
    have hb' : xE g (Bb ops j) want = false := by simpa using hb
    simp only [hb', Gd] at h
    obtain ⟨rfl, rfl⟩ := h
    exact hn
def Ma (P : Program) (ops : Array Oper) : Prop := ∀ (i : Nat) (o : Oper), ops[i]? = some o -> Ac P o = true
theorem UG {N : Nat} (hd : Kz N ops) (hca : Ma P ops) {Q : Act -> adV -> Prop} {K : Env -> adV -> Prop}
 (hQ : ∀ g a w, Jb N g a -> K g w -> Q a w) :
 ∀ (l : List Oper) (k : Nat) (g : Env) (a : Act) (w : adV), (∀ j, l[j]? = ops[k + j]?) -> Jb N g a -> Ov P ops l g w K →
   Bf P ops Q (List.range' k l.length) a w := by
 intro l
 induction l with
 | nil => intro k g a w _ hr h; exact hQ _ _ _ hr h
 | cons o l ih =>
   intro k g a w hl hr h
   have h0 : ops[k]? = some o := by have := hl 0; simpa using this.symm
   obtain ⟨v, w', hy, hk⟩ := Hd h
   rw [aaK, List.range'_succ]
   show I0 P ops k (Bf P ops Q _) a w
   refine MY h0 (hca k o h0) hd hr hy ?_
   refine ih (k + 1) _ _ _ (fun j => ?_) (hr.put _ _ (hd k o h0)) hk
   have := hl (j + 1)
   simp only [ZR] at this
   rw [this]; congr 1; omega
def Nd (an : Tq) (O : Nat -> Oper) (G : Nat -> Env) (W : Nat -> adV) (V : Nat -> adW) (i : Nat) : Rec :=
 ⟨pF i an.1, O i, G i, W i, V i⟩
def Tp (P : Program) (ops : Array Oper) (an : Tq) (O : Nat -> Oper) (G : Nat -> Env) (W : Nat -> adV) (V : Nat -> adW) (i j : Nat) : Prop :=
 KK P ops (Nd an O G W V i) (O j) (G j) (W (j + 1)) (V j)
structure U2 (P : Program) (ops : Array Oper) (an : Tq) (g0 : Env) (w0 : adV) (n : Nat) (O : Nat -> Oper) (G : Nat -> Env) (W : Nat -> adV) (V : Nat -> adW) : Prop where
 g0 : G 0 = g0
 w0 : W 0 = w0
 op : ∀ i, i < n -> ops[i]? = some (O i)
 yld : ∀ i, i < n -> MZ P ops (G i) (O i) (W i) (V i) (W (i + 1))
 light : ∀ i, i < n -> pF i an.1 = false -> W (i + 1) = W i
 env : ∀ i, i < n -> G (i + 1) = put (G i) (O i).dst (V i)
 chk : ∀ i j, i < j -> j < n -> Pc i j an.2 = true -> Tp P ops an O G W V i j
theorem Q9 {o : Oper} {g : Env} {w' : adV} {v : adW} {hist : List Rec} : ∀ {ks : List Nat}, WH P ops o g w' v hist ks -> ∀ k ∈ ks, ∃ q, Q5 hist k = some q /\ KK P ops q o g w' v := by
 intro ks
 induction ks with
 | nil => intro _ k hk; cases hk
 | cons a ks ih =>
   rintro ⟨h1, h2⟩ k hk
   rcases aaR.1 hk with rfl | hk
   .cases hn : Q5 hist k with
    | none => rw [hn] at h1; exact h1.elim
    | some q => rw [hn] at h1; exact ⟨q, rfl, h1⟩
   .exact ih h2 k hk
theorem UN {n : Nat} {an : Tq} {pl : RC} (h : Oz n an pl = true) {i : Nat} (hi : i < n) :
 ∃ ks, pl[i]? = some (pF i an.1, ks) /\ ∀ j, Pc j i an.2 = true -> j < i /\ (i - 1 - j) ∈ ks := by
 have := aaU.1 h i (aaS.2 hi)
 cases hp : pl[i]? with
 | none => rw [hp] at this; cases this
 | some p =>
   obtain ⟨hv, ks⟩ := p
   rw [hp] at this
   simp only [Z4] at this
   obtain ⟨h1, h2⟩ := this
   have h1 : hv = pF i an.1 := by simpa using h1
   refine ⟨ks, by rw [h1], fun j hj => ?_⟩
   have mm : ∀ (l : List (Nat × Nat)), Pc j i l = true -> (j, i) ∈ l := by
    intro l
    induction l with
    | nil => intro h; cases h
    | cons q r ih =>
      obtain ⟨a, b⟩ := q
      intro h
      unfold Pc at h
      cases ha : Nat.beq a j with
      | true =>
        simp only [ha] at h
        cases hb : Nat.beq b i with
        | true =>
          obtain rfl := aaI ha
          obtain rfl := aaI hb
          exact abH
        | false => simp only [hb] at h; exact Z7 _ (ih h)
      | false => simp only [ha] at h; exact Z7 _ (ih h)
   have := aaU.1 h2 (j, i) (mm _ hj)
   simp only [Nat.beq_refl, ZX, adH, Z4] at this
   refine ⟨?_, by simpa using this.2⟩
   have hlt := this.1
   exact (acJ (x := j) (y := i)) ▸ hlt
theorem Rb {an : Tq} {pl : RC} {g0 : Env} {w0 : adV} {K : Env -> adV -> Prop} (hpl : Oz ops.size an pl = true) :
 ∀ (l : List Oper) (m : Nat) (hist : List Rec) (O : Nat -> Oper) (G : Nat -> Env) (W : Nat -> adV) (V : Nat -> adW),
   (∀ j, l[j]? = ops[m + j]?) -> m + l.length = ops.size -> U2 P ops an g0 w0 m O G W V -> (∀ i, i < m -> Q5 hist (m - 1 - i) = some (Nd an O G W V i)) →
   qC P ops l (pl.drop m) hist (G m) (W m) K →
   ∃ (O : Nat -> Oper) (G : Nat -> Env) (W : Nat -> adV) (V : Nat -> adW), U2 P ops an g0 w0 (m + l.length) O G W V /\ K (G (m + l.length)) (W (m + l.length)) := by
 intro l
 induction l with
 | nil => intro m hist O G W V _ _ hr _ h; exact ⟨O, G, W, V, hr, by unfold qC at h; exact h⟩
 | cons o l ih =>
   intro m hist O G W V hl hlen hr hh h
   have h0 : ops[m]? = some o := by have := hl 0; simpa using this.symm
   have hmn : m < ops.size := by rw [aaK] at hlen; omega
   obtain ⟨ks, hk1, hk2⟩ := UN hpl hmn
   have hdrop : pl.drop m = (pF m an.1, ks) :: pl.drop (m + 1) := by
    have hlt : m < pl.length := by
     rcases abB m pl.length with h | h
     .exact h
     .rw [aaZ h] at hk1; cases hk1
    rw [adB hlt]
    rw [Z0 hlt] at hk1
    rw [abG hk1]
   rw [hdrop] at h
   obtain ⟨v, w', hy, hk⟩ := Hd h
   have key : (pF m an.1 = false -> w' = W m) /\ (∀ k ∈ ks, ∃ q, Q5 hist k = some q /\ KK P ops q o (G m) w' v) /\
       (qC P ops l (pl.drop (m + 1)) (⟨pF m an.1, o, G m, W m, v⟩ :: hist) (put (G m) o.dst v) w' K) := by
    have nil : ∀ w', ∀ k ∈ ([] : List Nat), ∃ q, Q5 hist k = some q /\ KK P ops q o (G m) w' v := fun _ k hk => (by cases hk)
    cases hm : pF m an.1 with
    | true =>
      rw [hm] at hk
      cases ks with
      | nil => exact ⟨fun e => (by cases e), nil _, hk⟩
      | cons k ks => exact ⟨fun e => (by cases e), Q9 hk.1, hk.2⟩
    | false =>
      rw [hm] at hk
      cases ks with
      | nil => obtain ⟨rfl, hk⟩ := hk; exact ⟨fun _ => rfl, nil _, hk⟩
      | cons k ks => obtain ⟨rfl, hc, hk⟩ := hk; exact ⟨fun _ => rfl, Q9 hc, hk⟩
   obtain ⟨kl, c1, c2⟩ := key
   let O' : Nat -> Oper := fun i => if i = m then o else O i
   let V' : Nat -> adW := fun i => if i = m then v else V i
   let G' : Nat -> Env := fun i => if i = m + 1 then put (G m) o.dst v else G i
   let W' : Nat -> adV := fun i => if i = m + 1 then w' else W i
   have eO : ∀ i, i < m -> O' i = O i := fun i hi => if_neg (by omega)
   have eV : ∀ i, i < m -> V' i = V i := fun i hi => if_neg (by omega)
   have eG : ∀ i, i <= m -> G' i = G i := fun i hi => if_neg (by omega)
   have eW : ∀ i, i <= m -> W' i = W i := fun i hi => if_neg (by omega)
   have oO : O' m = o := if_pos rfl
   have oV : V' m = v := if_pos rfl
   have oG : G' (m + 1) = put (G m) o.dst v := if_pos rfl
   have oW : W' (m + 1) = w' := if_pos rfl
   have eR : ∀ i, i < m -> Nd an O' G' W' V' i = Nd an O G W V i := fun i hi => by
    simp only [Nd, eO i hi, eV i hi, eG i (by omega), eW i (by omega)]
   have hr' : U2 P ops an g0 w0 (m + 1) O' G' W' V' := by
    refine ⟨by rw [eG 0 (by omega)]; exact hr.g0, by rw [eW 0 (by omega)]; exact hr.w0, fun i hi => ?_, fun i hi => ?_, fun i hi hm => ?_, fun i hi => ?_, fun i j hij hj hm => ?_⟩
    .by_cases hi' : i = m
     .subst hi'; rw [oO]; exact h0
     .rw [eO i (by omega)]; exact hr.op i (by omega)
    .by_cases hi' : i = m
     .subst hi'; rw [oO, oV, oW, eG i (by omega), eW i (by omega)]; exact hy
     .rw [eO i (by omega), eV i (by omega), eG i (by omega), eW i (by omega), eW (i + 1) (by omega)]; exact hr.yld i (by omega)
    .by_cases hi' : i = m
     .subst hi'; rw [oW, eW i (by omega)]; exact kl hm
     .rw [eW i (by omega), eW (i + 1) (by omega)]; exact hr.light i (by omega) hm
    .by_cases hi' : i = m
     .subst hi'; rw [oO, oV, oG, eG i (by omega)]
     .rw [eO i (by omega), eV i (by omega), eG i (by omega), eG (i + 1) (by omega)]; exact hr.env i (by omega)
    .unfold Tp
     by_cases hj' : j = m
     .subst hj'
      rw [eR i (by omega), oO, oV, oW, eG j (by omega)]
      obtain ⟨q, hq, hc⟩ := c1 _ (hk2 i hm).2
      rw [hh i hij] at hq
      obtain rfl := abG hq
      exact hc
     .rw [eR i (by omega), eO j (by omega), eV j (by omega), eG j (by omega), eW (j + 1) (by omega)]
      exact hr.chk i j hij (by omega) hm
   have := ih (m + 1) (⟨pF m an.1, o, G m, W m, v⟩ :: hist) O' G' W' V' (fun j => by
       have := hl (j + 1)
       simp only [ZR] at this
       rw [this]; congr 1; omega) (by rw [aaK] at hlen; omega) hr' (fun i hi => by
       by_cases hi' : i = m
       .subst hi'
        rw [show i + 1 - 1 - i = 0 from by omega]
        simp only [Q5, Nd, oO, oV, eG i (by omega), eW i (by omega)]
       .rw [eR i (by omega), show m + 1 - 1 - i = (m - 1 - i) + 1 from by omega]
        exact hh i (by omega)) (by rw [oG, oW]; exact c2)
   rw [aaK, show m + (l.length + 1) = m + 1 + l.length from by omega]
   exact this
end
section
variable {P : Program} {ops : Array Oper} {an : Tq} {g0 : Env} {w0 : adV} {O : Nat -> Oper} {G : Nat -> Env} {W : Nat -> adV} {V : Nat -> adW}
def G5 (n : Nat) (O : Nat -> Oper) (V : Nat -> adW) (g0 : Env) (S : Nat -> Prop) (g : Env) : Prop :=
 ∀ s, (∃ j, j < n /\ S j /\ (O j).dst = some s /\ (∀ k, k < n -> S k -> (O k).dst = some s -> k <= j) /\ g s = V j) ∨
   ((∀ j, j < n -> S j -> (O j).dst ≠ some s) /\ g s = g0 s)
theorem G5.agree {n : Nat} {S T : Nat -> Prop} {g g' : Env} (h : G5 n O V g0 S g) (h' : G5 n O V g0 T g') (s : Nat)
 (hs : ∀ j, j < n -> (O j).dst = some s -> (S j ↔ T j)) : g s = g' s := by
 rcases h s with ⟨j, h1, h2, h3, h4, h5⟩ | ⟨h1, h2⟩ <;> rcases h' s with ⟨k, k1, k2, k3, k4, k5⟩ | ⟨k1, k2⟩
 .have a := h4 k k1 ((hs k k1 k3).2 k2) k3
  have b := k4 j h1 ((hs j h1 h3).1 h2) h3
  have : j = k := by omega
  subst this; rw [h5, k5]
 .exact absurd h3 (k1 j h1 ((hs j h1 h3).1 h2))
 .exact absurd k3 (h1 k k1 ((hs k k1 k3).2 k2))
 .rw [h2, k2]
theorem G5.step {n : Nat} {S : Nat -> Prop} {g : Env} (h : G5 n O V g0 S g) (i : Nat) (hi : i < n)
 (hw : ∀ s, (O i).dst = some s -> ∀ j, j < n -> j ≠ i -> (O j).dst = some s -> S j -> j < i) :
 G5 n O V g0 (fun j => S j ∨ j = i) (put g (O i).dst (V i)) := by
 intro s
 cases hd : (O i).dst with
 | none =>
   rcases h s with ⟨j, h1, h2, h3, h4, h5⟩ | ⟨h1, h2⟩
   .refine .inl ⟨j, h1, .inl h2, h3, fun k k1 k2 k3 => ?_, h5⟩
    rcases k2 with k2 | rfl
    .exact h4 k k1 k2 k3
    .rw [hd] at k3; cases k3
   .refine .inr ⟨fun j h3 h4 h5 => ?_, h2⟩
    rcases h4 with h4 | rfl
    .exact h1 j h3 h4 h5
    .rw [hd] at h5; cases h5
 | some t =>
   rw [GO]
   by_cases hst : s = t
   .subst hst
    rw [if_pos rfl]
    refine .inl ⟨i, hi, .inr rfl, hd, fun k k1 k2 k3 => ?_, rfl⟩
    rcases k2 with k2 | rfl
    .by_cases hk : k = i
     .omega
     .have := hw s hd k k1 hk k3 k2; omega
    .omega
   .rw [if_neg hst]
    rcases h s with ⟨j, h1, h2, h3, h4, h5⟩ | ⟨h1, h2⟩
    .refine .inl ⟨j, h1, .inl h2, h3, fun k k1 k2 k3 => ?_, h5⟩
     rcases k2 with k2 | rfl
     .exact h4 k k1 k2 k3
     .rw [hd] at k3; exact absurd (abG k3).symm hst
    .refine .inr ⟨fun j h3 h4 h5 => ?_, h2⟩
     rcases h4 with h4 | rfl
     .exact h1 j h3 h4 h5
     .rw [hd] at h5; exact absurd (abG h5).symm hst
theorem U2.envFor {n : Nat} (r : U2 P ops an g0 w0 n O G W V) : ∀ i, i <= n -> G5 n O V g0 (fun j => j < i) (G i) := by
 intro i
 induction i with
 | zero => intro _ s; exact .inr ⟨fun j _ h => absurd h (by omega), by rw [r.g0]⟩
 | succ i ih =>
   intro hi
   have h := ih (by omega)
   have := h.step (V := V) i (by omega) (fun s _ j _ _ _ hj => hj)
   rw [<- r.env i (by omega)] at this
   intro s
   rcases this s with ⟨j, h1, h2, h3, h4, h5⟩ | ⟨h1, h2⟩
   .exact .inl ⟨j, h1, by omega, h3, fun k k1 k2 k3 => h4 k k1 (by omega) k3, h5⟩
   .exact .inr ⟨fun j a b => h1 j a (by omega), h2⟩
theorem U2.still {n : Nat} (r : U2 P ops an g0 w0 n O G W V) (i : Nat) : ∀ d, i + d <= n -> (∀ h, i <= h -> h < i + d -> pF h an.1 = false) -> W (i + d) = W i := by
 intro d
 induction d with
 | zero => intro _ _; rfl
 | succ d ih =>
   intro h1 h2
   rw [<- acI, r.light (i + d) (by omega) (h2 _ (by omega) (by omega))]
   exact ih (by omega) (fun h a b => h2 h a (by omega))
theorem U2.still' {n : Nat} (r : U2 P ops an g0 w0 n O G W V) {i k : Nat} (hik : i <= k) (hk : k <= n) (hh : ∀ h, i <= h -> h < k -> pF h an.1 = false) : W k = W i := by
 have := r.still i (k - i) (by omega) (fun h a b => hh h a (by omega))
 rwa [show i + (k - i) = k from by omega] at this
theorem Q8 {i k : Nat} : (∃ h, i <= h /\ h < k /\ pF h an.1 = true) -> ∃ h, i <= h /\ h < k /\ pF h an.1 = true /\ ∀ h', i <= h' -> h' < h -> pF h' an.1 = false := by
 rintro ⟨h, h1, h2, h3⟩
 induction h using Nat.strongRecOn with
 | _ h ih =>
   by_cases hx : ∃ h', i <= h' /\ h' < h /\ pF h' an.1 = true
   .obtain ⟨h', a, b, c⟩ := hx
    exact ih h' b a (by omega) c
   .refine ⟨h, h1, h2, h3, fun h' a b => ?_⟩
    cases hm : pF h' an.1
    .rfl
    .exact absurd ⟨h', a, b, hm⟩ hx
theorem ON {i k : Nat} : (∃ h, i <= h /\ h < k /\ pF h an.1 = true) -> ∃ h, i <= h /\ h < k /\ pF h an.1 = true /\ ∀ h', h < h' -> h' < k -> pF h' an.1 = false := by
 rintro ⟨h, h1, h2, h3⟩
 induction hd : k - h using Nat.strongRecOn generalizing h with
 | _ d ih =>
   by_cases hx : ∃ h', h < h' /\ h' < k /\ pF h' an.1 = true
   .obtain ⟨h', a, b, c⟩ := hx
    exact ih (k - h') (by omega) h' (by omega) b c rfl
   .refine ⟨h, h1, h2, h3, fun h' a b => ?_⟩
    cases hm : pF h' an.1
    .rfl
    .exact absurd ⟨h', a, b, hm⟩ hx
structure On (ops : Array Oper) (an : Tq) (O : Nat -> Oper) (b : Array Nat) : Prop where
 back : ∀ i, i < ops.size -> ∀ e ∈ (O i).after, Region.binds .any e = true -> e.on < i
 closed : ∀ i j, i < ops.size -> j < ops.size -> U1 b i j = true -> ∃ e ∈ (O j).after, Region.binds .any e = true /\ (e.on = i ∨ U1 b i e.on = true)
 pair : ∀ i j, i < j -> j < ops.size -> IQ ops b an i j (O i) (O j) = true
 sel : ∀ i, i < ops.size -> Nh (O i) = false
 fn : ∀ i, i < ops.size -> Vh (O i) = true -> pF i an.1 = true
theorem Uk (h : Oy ops an = true) (ho : ∀ i, i < ops.size -> ops[i]? = some (O i)) : On ops an O (Region.before ops) := by
 unfold Oy at h
 simp only [Z4] at h
 obtain ⟨⟨⟨⟨h1, h2⟩, h3⟩, h5⟩, h6⟩ := h
 refine ⟨fun i hi e he hb => ?_, fun i j hi hj hb => ?_, fun i j hij hj => ?_, fun i hi => ?_, fun i hi hf => ?_⟩
 .unfold PY at h1
  have := aaU.1 h1 i (aaS.2 hi)
  rw [ho i hi] at this
  have := abI.1 this e he
  simp only [hb, ZX, adH] at this
  exact (acJ (x := e.on) (y := i)) ▸ this
 .unfold P5 at h2
  have := aaU.1 (aaU.1 h2 j (aaS.2 hj)) i (aaS.2 hi)
  rw [ho j hj] at this
  simp only [hb, ZX, adH] at this
  obtain ⟨e, he, h⟩ := Array.any_eq_true'.1 this
  simp only [Z4, abC] at h
  refine ⟨e, he, h.1, h.2.imp (fun h => aaI h) id⟩
 .unfold Rs at h3
  have := aaU.1 (aaU.1 h3 j (aaS.2 hj)) i (aaS.2 hij)
  rw [ho i (by omega), ho j hj] at this
  exact this
 .have := abI.1 h5 (O i) (adL (ho i hi))
  simpa using this
 .have := aaU.1 h6 i (aaS.2 hi)
  rw [ho i hi] at this
  simpa [hf] using this
theorem Vb {i j : Nat} : ∀ {l : List (Nat × Nat)}, Pc i j l = true -> (i, j) ∈ l := by
 intro l
 induction l with
 | nil => intro h; cases h
 | cons p r ih =>
   obtain ⟨a, b⟩ := p
   intro h
   unfold Pc at h
   cases ha : Nat.beq a i with
   | true =>
     simp only [ha] at h
     cases hb : Nat.beq b j with
     | true =>
       obtain rfl := aaI ha
       obtain rfl := aaI hb
       exact abH
     | false => simp only [hb] at h; exact Z7 _ (ih h)
   | false => simp only [ha] at h; exact Z7 _ (ih h)
theorem On.order {b : Array Nat} (st : On ops an O b) {S : Nat -> Prop} {i : Nat} (hi : i < ops.size)
 (hdown : ∀ j k, j < ops.size -> k < ops.size -> S k -> U1 b j k = true -> S j) (hbi : ∀ j, j < ops.size -> U1 b j i = true -> S j) (hni : ¬ S i)
 {s : Nat} (hs : s ∈ looks ops (O i) ∨ (O i).dst = some s) {j : Nat} (hj : j < ops.size) (hji : j ≠ i) (hd : (O j).dst = some s) : S j ↔ j < i := by
 rcases abB j i with h | h
 .refine ⟨fun _ => h, fun _ => ?_⟩
  have p := st.pair j i h hi
  unfold IQ at p
  simp only [abC, Z4, abU] at p
  rcases p with p | p
  .exact hbi j hj p
  .exfalso
   have p1 := p.1
   unfold Ve at p1
   simp only [hd, acT] at p1
   rcases hs with hs | hs
   .have := p1.1.1; simp [hs] at this
   .have := p1.1.2; simp [hs] at this
 .have h' : i < j := by omega
  refine ⟨fun hS => ?_, fun hh => by omega⟩
  exfalso
  have p := st.pair i j h' hj
  unfold IQ at p
  simp only [abC, Z4, abU] at p
  rcases p with p | p
  .exact hni (hdown i j hi hj hS p)
  .have p1 := p.1
   unfold Ve at p1
   simp only [hd, acT] at p1
   rcases hs with hs | hs
   .have := p1.2; simp [hs] at this
   .have := p1.1; rw [hs] at this; simp at this
theorem GD {g g' : Env} {o : Oper} (h : ∀ s ∈ looks ops o, g s = g' s) : ∀ x ∈ o.op.operands, ev g x = ev g' x := by
 intro x hx
 cases x with
 | tmp t => exact h t (acA _ (List.mem_filterMap.2 ⟨.tmp t, by simpa using hx, rfl⟩))
 | _ => rfl
theorem Rl {g g' : Env} {o : Oper} (hs : Nh o = false) (h : ∀ s ∈ looks ops o, g s = g' s) : Gi g o = Gi g' o := by
 have e := execOp_congr o (fun cs b he => by simp [Nh, he] at hs) (GD h)
 have k := GD h
 unfold Gi
 split
 .rename_i op t x y yt hx
  rw [k x (by simp [hx, Op.operands]), k y (by simp [hx, Op.operands])]
 .rename_i fn first captured hx
  have e1 : List.map (ev g) first.toList = List.map (ev g') first.toList := abF fun p hp => k p (by simp [hx, Op.operands]; exact .inl (by simpa using hp))
  have e2 : List.map (ev g) captured.toList = List.map (ev g') captured.toList := abF fun p hp => k p (by simp [hx, Op.operands]; exact .inr (by simpa using hp))
  rw [e1, e2]
 .rename_i t ps hx
  congr 1
  refine abF fun p hp => ?_
  rw [k p.2 (by simp [hx, Op.operands]; exact ⟨p.1, by simpa using hp⟩)]
 .rename_i t n ps hx
  congr 1
  refine abF fun p hp => ?_
  rw [k p.2 (by simp [hx, Op.operands]; exact ⟨p.1, by simpa using hp⟩)]
 .rename_i c hx
  split
  .rename_i b hb
   congr 1
   refine abF fun p hp => ?_
   exact k p (by simp [hx, Op.operands, Call.operands, hb]; simpa using hp)
  .rename_i f hb
   have : List.map (ev g) c.args.toList = List.map (ev g') c.args.toList := abF fun p hp => k p (by simp [hx, Op.operands, Call.operands, hb]; exact .inr (by simpa using hp))
   rw [this, k f (by simp [hx, Op.operands, Call.operands, hb])]
  .exact e
 .exact e
theorem Py {g g' : Env} {o : Oper} {j : Nat} {want : Bool} (hg : o.guard = some (j, want)) (h : ∀ s ∈ looks ops o, g s = g' s) :
 xE g (Bb ops j) want = xE g' (Bb ops j) want := by
 cases hs : Bb ops j with
 | none => rfl
 | some t =>
   have := h t (acQ _ (by simp [hg, hs]))
   simp [xE, this]
theorem LH {g g' : Env} {o : Oper} {w : adV} {K : adW -> adV -> Prop} (hs : Nh o = false) (h : ∀ s ∈ looks ops o, g s = g' s)
 (hk : Dc P ops g o w K) : Dc P ops g' o w K := by
 have e := Rl (ops := ops) hs h
 have run : Et P g o w = Et P g' o w := by
  funext K
  unfold Et
  split
  .rename_i x hx
   have := GD (ops := ops) h x (by simp [hx, Op.operands])
   rw [this]
  .rename_i x hx
   have := GD (ops := ops) h x (by simp [hx, Op.operands])
   rw [this]
  .rename_i c hx
   have k := GD h
   have : List.map (ev g) c.args.toList = List.map (ev g') c.args.toList := abF fun p hp => k p (by simp [hx, Op.operands, Call.operands]; exact .inr (by simpa using hp))
   rw [this, e]
  .rw [e]
 unfold Dc at *
 cases hg : o.guard with
 | none => rw [hg] at hk; simp only at hk ⊢; rwa [<- run]
 | some p =>
   obtain ⟨j, want⟩ := p
   simp only [hg] at hk ⊢
   rw [<- run, <- Py hg h]
   exact hk
theorem Rc {n : Nat} (hn : n = ops.size) {b : Array Nat} (r : U2 P ops an g0 w0 n O G W V) (st : On ops an O b) {S : Nat -> Prop} {i k : Nat} (hi : i < n) (hk : k <= n)
 (hdown : ∀ j k, j < ops.size -> k < ops.size -> S k -> U1 b j k = true -> S j) (hbi : ∀ j, j < ops.size -> U1 b j i = true -> S j) (hni : ¬ S i)
 (hS : ∀ h, h < n -> pF h an.1 = true -> (S h ↔ h < k)) (hl : pF i an.1 = false) :
 MZ P ops (G i) (O i) (W k) (V i) (W k) := by
 subst hn
 have same : Gs (Zi ops (O i) (G i)) (gN P (Gi (G i) (O i)) (V i) (W k)) -> Hn (O i) = false -> MZ P ops (G i) (O i) (W k) (V i) (W k) := by
  intro hs hm K hK
  have run : gN P (Gi (G i) (O i)) (V i) (W k) -> Et P (G i) (O i) (W k) K := by
   intro hs
   unfold gN at hs
   have stp : eY P (Gi (G i) (O i)) (W k) K := by unfold eY; rw [hs]; exact hK
   unfold Et
   split
   .rename_i x hx; simp [Hn, hx] at hm
   .rename_i x hx; simp [Hn, hx] at hm
   .rename_i c hx
    have hf : Vh (O i) = false := by
     cases hh : Vh (O i)
     .rfl
     .rw [st.fn i hi hh] at hl; cases hl
    obtain ⟨cal, cargs, cats⟩ := c
    cases cal with
    | value f =>
      cases f with
      | func f => simp [Vh, hx] at hf
      | _ => exact stp
    | _ => exact stp
   .exact stp
  have hy := r.yld i hi (fun v _ => v = V i) rfl
  unfold Dc at hy ⊢
  unfold Zi at hs
  cases hg : (O i).guard with
  | none => rw [hg] at hs; exact run hs
  | some p =>
    obtain ⟨j, want⟩ := p
    rw [hg] at hs
    simp only [hg] at hs hy ⊢
    cases hb : xE (G i) (Bb ops j) want with
    | true => rw [hb] at hs; exact run hs
    | false =>
      rw [hb] at hy
      have : undef = V i := hy
      show K undef (W k)
      rw [this]; exact hK
 have moved : Hn (O i) = true -> MZ P ops (G i) (O i) (W k) (V i) (W k) := by
  intro hm K hK
  have hy := r.yld i hi (fun v _ => v = V i) rfl
  unfold Dc at hy ⊢
  have mv : ∀ (K' : adW -> adV -> Prop) w, Et P (G i) (O i) w K' ↔ ∃ x, ((O i).op = .move x ∨ (O i).op = .assign x) /\ K' (ev (G i) x) w := by
   intro K' w
   unfold Et
   unfold Hn at hm
   split
   .rename_i x hx; constructor
    .intro h; exact ⟨x, .inl hx, h⟩
    .rintro ⟨y, h | h, h'⟩
     .rw [hx] at h; cases h; exact h'
     .rw [hx] at h; cases h
   .rename_i x hx; constructor
    .intro h; exact ⟨x, .inr hx, h⟩
    .rintro ⟨y, h | h, h'⟩
     .rw [hx] at h; cases h
     .rw [hx] at h; cases h; exact h'
   .rename_i c hx; simp [hx] at hm
   .rename_i h1 h2 _; split at hm
    .rename_i x hx; exact absurd hx (h1 x)
    .rename_i x hx; exact absurd hx (h2 x)
    .cases hm
  cases hg : (O i).guard with
  | none =>
    rw [hg] at hy
    simp only at hy ⊢
    rw [mv] at hy ⊢
    obtain ⟨x, hx, h⟩ := hy
    exact ⟨x, hx, h ▸ hK⟩
  | some p =>
    obtain ⟨j, want⟩ := p
    simp only [hg] at hy ⊢
    unfold Gd at *
    cases hb : xE (G i) (Bb ops j) want with
    | true =>
      simp only [hb] at hy ⊢
      rw [mv] at hy ⊢
      obtain ⟨x, hx, h⟩ := hy
      exact ⟨x, hx, h ▸ hK⟩
    | false =>
      simp only [hb] at hy ⊢
      rwa [hy]
 rcases Nat.le_total k i with hki | hki
 .by_cases hx : ∃ h, k <= h /\ h < i /\ pF h an.1 = true
  .obtain ⟨h, h1, h2, h3, h4⟩ := Q8 hx
   have e : W h = W k := r.still' h1 (by omega) h4
   have p := st.pair h i h2 hi
   unfold IQ at p
   simp only [abC, Z4, abU] at p
   rcases p with p | p
   .have := hbi h (by omega) p
    have := (hS h (by omega) h3).1 this
    omega
   .have p2 := p.2
    rw [h3, hl] at p2
    simp only [abC] at p2
    cases hmv : Hn (O i) with
    | true => exact moved hmv
    | false =>
      rcases p2 with p2 | p2
      .rw [hmv] at p2; cases p2
      .refine same ?_ hmv
       have c := r.chk h i h2 hi p2
       unfold Tp KK Nd at c
       simp only [h3] at c
       rw [<- e]; exact c
  .have e : W i = W k := r.still' hki (by omega) (fun h a b => by
    cases hm : pF h an.1
    .rfl
    .exact absurd ⟨h, a, b, hm⟩ hx)
   have hy := r.yld i hi
   rw [r.light i hi hl, e] at hy
   exact hy
 .by_cases hx : ∃ h, i <= h /\ h < k /\ pF h an.1 = true
  .obtain ⟨h, h1, h2, h3, h4⟩ := ON hx
   have hne : h ≠ i := fun e => by rw [e, hl] at h3; cases h3
   have e : W k = W (h + 1) := r.still' (by omega) hk (fun h' a b => h4 h' (by omega) b)
   have p := st.pair i h (by omega) (by omega)
   unfold IQ at p
   simp only [abC, Z4, abU] at p
   rcases p with p | p
   .exact absurd (hdown i h (by omega) (by omega) ((hS h (by omega) h3).2 h2) p) hni
   .have p2 := p.2
    rw [h3, hl] at p2
    simp only [abC] at p2
    cases hmv : Hn (O i) with
    | true => exact moved hmv
    | false =>
      rcases p2 with p2 | p2
      .rw [hmv] at p2; cases p2
      .refine same ?_ hmv
       have c := r.chk i h (by omega) (by omega) p2
       unfold Tp KK Nd at c
       simp only [hl] at c
       rw [e]; exact c
  .have e : W k = W i := r.still' hki hk (fun h a b => by
    cases hm : pF h an.1
    .rfl
    .exact absurd ⟨h, a, b, hm⟩ hx)
   have hy := r.yld i hi
   rw [r.light i hi hl, <- e] at hy
   exact hy
def mJ (listed : Array Bool) (i : Nat) : Prop := listed.getD i false = true
theorem Wc {N n : Nat} (hn : n = ops.size) (hd : Kz N ops) (hca : Ma P ops) {b : Array Nat} (r : U2 P ops an g0 w0 n O G W V) (st : On ops an O b)
 {Q : Act -> adV -> Prop} (hQ : ∀ a, Jb N (G n) a -> Q a (W n)) :
 ∀ (fuel : Nat) (listed : Array Bool) (g : Env) (a : Act) (k : Nat), listed.size = n -> Jb N g a -> k <= n →
   (∀ j, j < n -> mJ listed j -> ∀ e ∈ (O j).after, Region.binds .any e = true -> mJ listed e.on) →
   G5 n O V g0 (mJ listed) g -> (∀ h, h < n -> pF h an.1 = true -> (mJ listed h ↔ h < k)) →
   ((List.range n).filter fun i => !listed.getD i false).length <= fuel →
   OT P ops Q fuel listed a (W k) := by
 subst hn
 have ready_iff : ∀ (listed : Array Bool), listed.size = ops.size -> ∀ i, i ∈ Region.ready .any ops listed ↔ (i < ops.size /\ ¬ mJ listed i /\ ∀ e ∈ (O i).after, Region.binds .any e = true -> mJ listed e.on) := by
  intro listed hsz i
  unfold Region.ready mJ
  rw [List.mem_filter, aaS]
  constructor
  .rintro ⟨h1, h2⟩
   rw [r.op i h1] at h2
   simp only [Z4, aaX, abL] at h2
   refine ⟨h1, ?_, fun e he hb => ?_⟩
   .have := h2.1
    rw [Z2] at this ⊢
    rw [aaA (by omega)] at this ⊢
    simpa using this
   .have := abI.1 h2.2 e he
    simpa [hb] using this
  .rintro ⟨h1, h2, h3⟩
   refine ⟨h1, ?_⟩
   rw [r.op i h1]
   simp only [Z4, aaX, abL]
   refine ⟨?_, abI.2 fun e he => ?_⟩
   .rw [Z2] at h2 ⊢
    rw [aaA (by omega)] at h2 ⊢
    simpa using h2
   .by_cases hb : Region.binds .any e = true
    .simp [hb, h3 e he hb]
    .simp [hb]
 have none_ready : ∀ (listed : Array Bool), listed.size = ops.size -> Region.ready .any ops listed = [] -> ∀ i, i < ops.size -> mJ listed i := by
  intro listed hsz hr i
  induction i using Nat.strongRecOn with
  | _ i ih =>
    intro hi
    refine Classical.byContradiction fun hl => ?_
    have : i ∈ Region.ready .any ops listed := (ready_iff listed hsz i).2 ⟨hi, hl, fun e he hb => by
     have := st.back i hi e he hb
     exact ih e.on this (by omega)⟩
    rw [hr] at this; cases this
 have all_done : ∀ (listed : Array Bool) (g : Env) (a : Act) (k : Nat), Jb N g a -> k <= ops.size -> G5 ops.size O V g0 (mJ listed) g →
     (∀ h, h < ops.size -> pF h an.1 = true -> (mJ listed h ↔ h < k)) -> (∀ i, i < ops.size -> mJ listed i) -> Q a (W k) := by
  intro listed g a k hr hk he hh hall
  have e : W ops.size = W k := r.still' hk (Z8 _) (fun h h1 h2 => by
   cases hm : pF h an.1
   .rfl
   .have := (hh h h2 hm).1 (hall h h2); omega)
  have eg : g = G ops.size := funext fun s => he.agree (r.envFor ops.size (Z8 _)) s (fun j hj _ => ⟨fun _ => hj, fun _ => hall j hj⟩)
  rw [<- e]; exact hQ a (eg ▸ hr)
 intro fuel
 induction fuel with
 | zero =>
   intro listed g a k hsz hr hk hdep henv hh hc
   have hall : ∀ i, i < ops.size -> mJ listed i := by
    intro i hi
    have hnil : ((List.range ops.size).filter fun i => !listed.getD i false) = [] := aaG.1 (by omega)
    have := List.filter_eq_nil_iff.1 hnil i (aaS.2 hi)
    unfold mJ; simpa using this
   refine ⟨?_, all_done listed g a k hr hk henv hh hall⟩
   rw [List.eq_nil_iff_forall_not_mem]
   intro i hi
   have := (ready_iff listed hsz i).1 hi
   exact this.2.1 (hall i this.1)
 | succ fuel ih =>
   intro listed g a k hsz hr hk hdep henv hh hc
   refine ⟨fun hn => all_done listed g a k hr hk henv hh (none_ready listed hsz hn), fun i hi => ?_⟩
   obtain ⟨h1, h2, h3⟩ := (ready_iff listed hsz i).1 hi
   have hdown : ∀ k j, j < ops.size -> k < ops.size -> mJ listed k -> U1 b j k = true -> mJ listed j := by
    intro k
    induction k using Nat.strongRecOn with
    | _ k ihk =>
      intro j hj hk hl hb
      obtain ⟨e, he, hbi, h⟩ := st.closed j k hj hk hb
      have hle := hdep k hk hl e he hbi
      rcases h with h | h
      .exact h ▸ hle
      .have hlt := st.back k hk e he hbi
       exact ihk e.on hlt j hj (by omega) hle h
   have hbi : ∀ j, j < ops.size -> U1 b j i = true -> mJ listed j := by
    intro j hj hb
    obtain ⟨e, he, hbi, h⟩ := st.closed j i hj h1 hb
    have hle := h3 e he hbi
    rcases h with h | h
    .exact h ▸ hle
    .have hlt := st.back i h1 e he hbi
     exact hdown e.on j hj (by omega) hle h
   have hdown' : ∀ j k, j < ops.size -> k < ops.size -> mJ listed k -> U1 b j k = true -> mJ listed j := fun j k => hdown k j
   have hlooks : ∀ s ∈ looks ops (O i), (G i) s = g s := fun s hs =>
    (r.envFor i (by omega)).agree henv s (fun j hj hd => by
      by_cases hji : j = i
      .subst hji
       exact ⟨fun h => absurd h (by omega), fun h => absurd h h2⟩
      .exact (st.order h1 hdown' hbi h2 (.inl hs) hj hji hd).symm)
   have hl' : ∀ j, mJ (listed.setIfInBounds i true) j ↔ (mJ listed j ∨ j = i) := by
    intro j
    unfold mJ
    rw [Z2, Z2]
    by_cases hji : j = i
    .subst hji
     rw [aaC (by omega)]
     simp
    .rw [aaE (fun e => hji e.symm)]
     simp [hji]
   have next : ∀ k', k' <= ops.size -> (∀ h, h < ops.size -> pF h an.1 = true -> ((mJ listed h ∨ h = i) ↔ h < k')) -> MZ P ops g (O i) (W k) (V i) (W k') →
       I0 P ops i (OT P ops Q fuel (listed.setIfInBounds i true)) a (W k) := by
    intro k' hk' hh' hy
    refine MY (r.op i h1) (hca i _ (r.op i h1)) hd hr hy ?_
    refine ih _ (put g (O i).dst (V i)) _ k' (by simp [hsz]) (hr.put _ _ (hd i _ (r.op i h1))) hk' ?_ ?_ ?_ ?_
    .intro j hj hlj e he hb
     rw [hl'] at hlj ⊢
     rcases hlj with hlj | rfl
     .exact .inl (hdep j hj hlj e he hb)
     .exact .inl (h3 e he hb)
    .have := henv.step i h1 (fun s hs j hj hji hd hlj => (st.order h1 hdown' hbi h2 (.inr hs) hj hji hd).1 hlj)
     intro s
     rcases this s with ⟨j, j1, j2, j3, j4, j5⟩ | ⟨j1, j2⟩
     .exact .inl ⟨j, j1, (hl' j).2 j2, j3, fun k k1 k2 k3 => j4 k k1 ((hl' k).1 k2) k3, j5⟩
     .exact .inr ⟨fun j a b => j1 j a ((hl' j).1 b), j2⟩
    .intro h a b; rw [hl']; exact hh' h a b
    .have hin : i ∈ (List.range ops.size).filter fun i => !listed.getD i false :=
      List.mem_filter.2 ⟨aaS.2 h1, by unfold mJ at h2; simpa using h2⟩
     have e1 : ((List.range ops.size).filter fun j => !(listed.setIfInBounds i true).getD j false) = ((List.range ops.size).filter fun j => !listed.getD j false).filter fun j => j != i := by
      rw [List.filter_filter]
      refine List.filter_congr fun j _ => ?_
      have := hl' j
      unfold mJ at this
      by_cases hji : j = i
      .have hh : (listed.setIfInBounds i true).getD j false = true := this.2 (.inr hji)
       rw [hh, hji]; simp
      .have hne : (j != i) = true := by simpa using hji
       rw [hne, Bool.true_and]
       cases ha : listed.getD j false with
       | true => rw [this.2 (.inl ha)]
       | false =>
         cases hb : (listed.setIfInBounds i true).getD j false with
         | false => rfl
         | true => rcases this.1 hb with h | h
                   .rw [ha] at h; cases h
                   .exact absurd h hji
     have hnd : ((List.range ops.size).filter fun j => !listed.getD j false).Nodup := List.nodup_range.filter _
     rw [e1, <- List.Nodup.erase_eq_filter hnd, List.length_erase_of_mem hin]
     omega
   cases hm : pF i an.1 with
   | true =>
     have hS : ∀ h, h < ops.size -> pF h an.1 = true -> (mJ listed h ↔ h < i) := by
      intro h hh1 hhm
      rcases Nat.lt_trichotomy h i with hlt | heq | hgt
      .refine ⟨fun _ => hlt, fun _ => ?_⟩
       have p := st.pair h i hlt h1
       unfold IQ at p
       rw [hhm, hm] at p
       simp only [abC, Z4, ZS, and_false, or_false] at p
       exact hbi h hh1 p
      .subst heq; exact ⟨fun hh => absurd hh h2, fun hh => absurd hh (by omega)⟩
      .refine ⟨fun hl => ?_, fun hh => absurd hh (by omega)⟩
       have p := st.pair i h hgt hh1
       unfold IQ at p
       rw [hhm, hm] at p
       simp only [abC, Z4, ZS, and_false, or_false] at p
       exact absurd (hdown h i h1 hh1 hl p) h2
     have eW : W k = W i := by
      rcases Nat.le_total k i with hki | hki
      .exact (r.still' hki (by omega) (fun h a b => by
        cases hx : pF h an.1
        .rfl
        .have := (hh h (by omega) hx).1 ((hS h (by omega) hx).2 b); omega)).symm
      .exact r.still' hki hk (fun h a b => by
        cases hx : pF h an.1
        .rfl
        .have := (hS h (by omega) hx).1 ((hh h (by omega) hx).2 b); omega)
     refine next (i + 1) (by omega) (fun h a b => ?_) ?_
     .rw [hS h a b]; omega
     .rw [eW]
      intro K hK
      exact LH (ops := ops) (st.sel i h1) hlooks (r.yld i h1 K hK)
   | false =>
     refine next k hk (fun h a b => ?_) ?_
     .rw [<- hh h a b]
      constructor
      .rintro (h' | rfl)
       .exact h'
       .rw [hm] at b; cases b
      .exact .inl
     .intro K hK
      exact LH (ops := ops) (st.sel i h1) hlooks (Rc rfl r st h1 hk hdown' hbi h2 hh hm K hK)
end
abbrev OR (P : Program) : Machine -> Prop := Machine.fenced P Fence.wide
def Of (P : Program) (f : FuncId) (ro : Option Nat) (c : Code) (Q : Exit -> Act -> adV -> Prop) (a : Act) (w : adV) : Prop :=
 ∀ (b : Frame) (k : List Item) (cs : List Frame), b.fn = f -> b.roundOf = ro -> ∃ e a' w', Q e a' w' /\ ArrivesIn (OR P) P (lone (b.atR a (.code c :: k)) cs w) b k cs e a' w'
section
variable {P : Program} {f : FuncId} {ro : Option Nat} {Q : Exit -> Act -> adV -> Prop} {a : Act} {w : adV}
theorem Eg {m m1 : Machine} (h : step P m = .next m1) : StepsIn (OR P) P m m1 := .one (fenced_wide P m) h
theorem HH {m m1 m2 : Machine} (h : step P m = .next m1) (h' : StepsIn (OR P) P m1 m2) : StepsIn (OR P) P m m2 := .head (fenced_wide P m) h h'
theorem Vw (h : Q .normal a w) : Of P f ro .skip Q a w := fun _ _ _ _ _ => ⟨.normal, a, w, h, Eg Go.stepR_skip⟩
theorem UM {l : Nat} (h : Q .normal a w) : Of P f ro (.label l) Q a w := fun _ _ _ _ _ => ⟨.normal, a, w, h, Eg stepR_label⟩
theorem Rx {id : Nat} (h : Q (.exit id) a w) : Of P f ro (.exit id) Q a w :=
 fun _ k _ _ _ => ⟨.exit id, a, w, h, fun _ hk => Eg (stepR_exit hk), fun _ hk => ⟨k, hk, .refl _⟩⟩
theorem Tv (h : Q .ret a w) : Of P f ro .ret Q a w :=
 fun _ k _ _ _ => ⟨.ret, a, w, h, fun hn => ⟨_, Eg (stepR_ret hn)⟩, fun _ => ⟨k, .refl _⟩⟩
theorem WA {x y : Code} (h : Of P f ro x (Exit.then (Of P f ro y Q) Q) a w) : Of P f ro (.seq x y) Q a w := by
 intro b k cs hb hro
 obtain ⟨e, a1, w1, hq, har⟩ := h b (.code y :: k) cs hb hro
 cases e with
 | normal =>
   obtain ⟨e2, a2, w2, hq2, har2⟩ := hq b k cs hb hro
   exact ⟨e2, a2, w2, hq2, .of_steps (HH stepR_seq har) har2⟩
 | _ => exact ⟨_, a1, w1, hq, .of_steps (Eg stepR_seq) (.pass (x := .code y) rfl (fun _ _ => .inl (by simp)) har)⟩
theorem VV {c : Operand} {x y : Code} {t : Bool} (hc : a.eval c = .bool t) (h : Of P f ro (if t then x else y) Q a w) : Of P f ro (.cond c x y) Q a w :=
 fun b k cs hb hro => let ⟨e, a1, w1, q, r⟩ := h b k cs hb hro; ⟨e, a1, w1, q, .of_steps (Eg (stepR_cond hc)) r⟩
theorem UA {id : Nat} {c : Code} (h : Of P f ro c (Exit.inBlock id Q) a w) : Of P f ro (.block id c) Q a w := by
 intro b k cs hb hro
 obtain ⟨e, a1, w1, hq, har⟩ := h b (.inBlock id :: k) cs hb hro
 cases e with
 | normal => exact ⟨.normal, a1, w1, hq, HH stepR_block (StepsIn.trans har (Eg stepR_inBlock))⟩
 | exit i =>
   by_cases hid : i = id
   .simp only [Exit.inBlock, hid, if_true] at hq
    exact ⟨.normal, a1, w1, hq, HH stepR_block (har.1 k (by simp [exitTo, hid]))⟩
   .simp only [Exit.inBlock, hid, if_false] at hq
    have this : (id == i) = false := by simp; exact fun h => hid h.symm
    have hx : exitTo i (.inBlock id :: k) = exitTo i k := by simp [exitTo, this]
    exact ⟨.exit i, a1, w1, hq, fun k' hk => HH stepR_block (har.1 k' (by rw [hx]; exact hk)),
     fun hr' hk => let ⟨k1, h1, h2⟩ := har.2 hr' (by rw [hx]; exact hk); ⟨k1, h1, HH stepR_block h2⟩⟩
 | goto l =>
   have hx : gotoIn l (.inBlock id :: k) = gotoIn l k := by simp [gotoIn]
   exact ⟨_, a1, w1, hq, fun k' hk => HH stepR_block (har.1 k' (by rw [hx]; exact hk)),
    fun hr' hk => let ⟨k1, h1, h2⟩ := har.2 hr' (by rw [hx]; exact hk); ⟨k1, h1, HH stepR_block h2⟩⟩
 | ret => exact ⟨_, a1, w1, hq, .of_steps (Eg stepR_block) har⟩
 | panic ch => exact ⟨_, a1, w1, hq, .of_steps (Eg stepR_block) har⟩
 | outgrown => exact ⟨_, a1, w1, hq, .of_steps (Eg stepR_block) har⟩
theorem yV {b : Frame} {k : List Item} {cs : List Frame} {c : Code} :
 step P (lone (b.atR a (.code (.scope c) :: k)) cs w) = .next (lone (b.atR a (.code c :: .inScope c :: k)) cs w) :=
 step_lone_go (by simp [stepG, stepG.exec, Frame.atR])
theorem Pp {b : Frame} {k : List Item} {cs : List Frame} {c : Code} :
 step P (lone (b.atR a (.inScope c :: k)) cs w) = .next (lone (b.atR a k) cs w) :=
 step_lone_go (by simp [stepG, stepG.exec, Frame.atR])
theorem UR {c : Code} (h : Of P f ro c (Exit.noGoto Q) a w) : Of P f ro (.scope c) Q a w := by
 intro b k cs hb hro
 obtain ⟨e, a1, w1, hq, har⟩ := h b (.inScope c :: k) cs hb hro
 cases e with
 | normal => exact ⟨.normal, a1, w1, hq, HH yV (StepsIn.trans har (Eg Pp))⟩
 | exit id =>
   have hx : exitTo id (.inScope c :: k) = exitTo id k := by simp [exitTo]
   exact ⟨.exit id, a1, w1, hq, fun k' hk => HH yV (har.1 k' (by rw [hx]; exact hk)),
    fun hr' hk => let ⟨k1, h1, h2⟩ := har.2 hr' (by rw [hx]; exact hk); ⟨k1, h1, HH yV h2⟩⟩
 | goto l => exact hq.elim
 | ret => exact ⟨_, a1, w1, hq, .of_steps (Eg yV) har⟩
 | panic ch => exact ⟨_, a1, w1, hq, .of_steps (Eg yV) har⟩
 | outgrown => exact ⟨_, a1, w1, hq, .of_steps (Eg yV) har⟩
theorem VW {c : Code} (I : Act -> adV -> Prop) (μ : Act -> adV -> Nat) (h0 : I a w)
 (round : ∀ a w, I a w -> Of P f ro c (Exit.then (fun a' w' => I a' w' /\ μ a' w' < μ a w) Q) a w) : Of P f ro (.loop c) Q a w := by
 intro b k cs hb hro
 have key : ∀ n a w, μ a w = n -> I a w →
     ∃ e a' w', Q e a' w' /\ ArrivesIn (OR P) P (lone (b.atR a (.code c :: .inLoop c :: k)) cs w) b k cs e a' w' := by
  intro n
  induction n using Nat.strongRecOn with
  | _ n ih =>
    intro a w hn hI
    obtain ⟨e, a1, w1, hq, har⟩ := round a w hI b (.inLoop c :: k) cs hb hro
    cases e with
    | normal =>
      obtain ⟨hI1, hlt⟩ := hq
      obtain ⟨e2, a2, w2, hq2, har2⟩ := ih (μ a1 w1) (hn ▸ hlt) a1 w1 rfl hI1
      exact ⟨e2, a2, w2, hq2, .of_steps (StepsIn.trans har (Eg stepR_inLoop)) har2⟩
    | _ => exact ⟨_, a1, w1, hq, .pass (x := .inLoop c) rfl (fun _ _ => .inl (by simp)) har⟩
 obtain ⟨e, a', w', hq, har⟩ := key _ a w rfl h0
 exact ⟨e, a', w', hq, .of_steps (Eg stepR_loop) har⟩
theorem TX {ops : Array Oper} {L : List Nat} (h : Bf P ops (Q .normal) L a w) (b : Frame) (k : List Item) (cs : List Frame) (hro : b.roundOf = ro) :
 ∃ e a' w', Q e a' w' /\ ArrivesIn (OR P) P (lone (b.atR a (.inRegion ops L :: k)) cs w) b k cs e a' w' := by
 obtain ⟨e, a', w', ⟨rfl, hq⟩, hs⟩ := wp_opsIn (F := OL ro) (n := 0) L a w (UY ro L a w h) b k cs hro trivial (fun _ h => by simp [OL, Fence.wide] at h)
 exact ⟨.normal, a', w', hq, hs⟩
theorem Sr {id : Nat} {ops : Array Oper} (h : Bf P ops (Q .normal) (List.range ops.size) a w) : Of P f ro (.region id ops false) Q a w := by
 intro b k cs hb hro
 obtain ⟨e, a1, w1, q, r⟩ := TX h b k cs hro
 exact ⟨e, a1, w1, q, .of_steps (Eg stepR_region) r⟩
theorem Nv (hm : P.follows .mixedOrders = true) {id : Nat} {ops : Array Oper}
 (h : Bf P ops (Q .normal) (Region.schedule true ops (w.tape w.drawn (.order f id))) a { w with drawn := w.drawn + 1 }) : Of P f ro (.region id ops true) Q a w := by
 intro b k cs hb hro
 obtain ⟨e, a1, w1, q, r⟩ := TX h b k cs hro
 refine ⟨e, a1, w1, q, .of_steps (Eg ?_) r⟩
 have := @stepR_region_draw P b a k cs w ops id
 rw [hm, hb] at this
 exact this
def CA (v : adW) (w : adV) (K : adV -> Prop) : Prop :=
 match v with
 | .pointer (some a) => w.heap[a.block]? = some (.deferred (some [])) /\ K (w.putObj a.block (.deferred none))
 | _ => K w
def Uq (P : Program) (fn : Func) (R : adW -> adV -> Prop) : Exit -> Act -> adV -> Prop
 | .normal, a, w | .ret, a, w => ∃ m, a.defers = Rq m /\ CA m w fun w' => ∃ v, (results fn a.tmps).run P w' = .ok v w' /\ R v w'
 | _, _, _ => False
theorem Rp {fn : Func} {R : adW -> adV -> Prop} {fr : Frame} {cs : List Frame} (hm : fr.mode = .returning) (hf : P.funcs[fr.fn]? = some fn) (hk : fr.kind = .normal) {m : adW} (hd : fr.defers = Rq m)
 (h : CA m w fun w' => ∃ v, (results fn fr.tmps).run P w' = .ok v w' /\ R v w') :
 ∃ v w' fr', R v w' /\ Steps P (lone fr cs w) (lone fr' cs w') /\ fr'.fn = fr.fn /\ fr'.leaving P w' (.returned v) := by
 have nil : fr.defers = [] -> (∃ v, (results fn fr.tmps).run P w = .ok v w /\ R v w) →
     ∃ v w' fr', R v w' /\ Steps P (lone fr cs w) (lone fr' cs w') /\ fr'.fn = fr.fn /\ fr'.leaving P w' (.returned v) := by
  rintro hd ⟨v, hv, hR⟩
  exact ⟨v, w, fr, hR, .refl _ _, rfl, hm, hd, hk, fn, hf, hv⟩
 cases m with
 | pointer p =>
   cases p with
   | none => exact nil hd h
   | some a =>
     obtain ⟨h1, v, hv, hR⟩ := h
     have hs := step_collected (P := P) (fr := fr) (cs := cs) (w := w) (d := { target := .collected a.block, args := #[] }) (r := a.block) (ds := []) (calls := [])
      (by rw [hm]; simp) hd rfl (run_takeDeferred h1)
     exact ⟨v, _, { fr with defers := [] }, hR, .head hs (.refl _ _), rfl, hm, rfl, hk, fn, hf, hv⟩
 | _ => exact nil hd h
theorem Qq {fn : Func} {c : Code} {args : Array adW} {w : adV} {R : adW -> adV -> Prop}
 (hf : P.funcs[f]? = some fn) (hb : fn.body = some c)
 (h : Of P f none c (Uq P fn R) { tmps := args ++ Array.replicate (fn.ntmps - args.size) undef, defers := [] } w) : Calls P f args w fun e w' => ∃ v, e = .returned v /\ R v w' := by
 intro cs
 let b : Frame := { (default : Frame) with fn := f, kind := .normal, roundOf := none }
 have henter : Frame.enter P f args .normal = b.atR { tmps := args ++ Array.replicate (fn.ntmps - args.size) undef, defers := [] } [.code c] := by
  simp [Frame.enter, Frame.atR, hf, hb, b]
 obtain ⟨e, a', w', hq, har⟩ := h b [] cs rfl rfl
 rw [<- henter] at har
 cases e with
 | normal =>
   obtain ⟨m, hd, hq⟩ := hq
   obtain ⟨v, w2, fr, hR, hs, hfn, hl⟩ := Rp (P := P) (cs := cs) (fr := { b.atR a' [] with mode := .returning }) rfl hf rfl hd hq
   exact ⟨.returned v, w2, fr, ⟨v, rfl, hR⟩, (StepsIn.steps har).trans (.head (stepR_end rfl) hs), hfn, hl⟩
 | ret =>
   obtain ⟨m, hd, hq⟩ := hq
   obtain ⟨todo, hs0⟩ := har.1 rfl
   obtain ⟨v, w2, fr, hR, hs, hfn, hl⟩ := Rp (P := P) (cs := cs) (fr := { b.atR a' todo with mode := .returning }) rfl hf rfl hd hq
   exact ⟨.returned v, w2, fr, ⟨v, rfl, hR⟩, (StepsIn.steps hs0).trans hs, hfn, hl⟩
 | panic chain => exact hq.elim
 | exit id => exact hq.elim
 | goto l => exact hq.elim
 | outgrown => exact hq.elim
def XJ (P : Program) (f : FuncId) (Q : Exit -> Act -> adV -> Prop) (a : Act) (w : adV) : Option Code -> Prop
 | none => Q .normal a w
 | some c => Of P f none c Q a w
theorem T9 {gf : Operand} {ps : Array Tmp} {ZP bd : Code} {d : Deferred} {g : FuncId} {args : Array adW} {w1 : adV} {l : Nat} {mark : List Deferred} {w2 w3 : adV} {v : adW}
 (he : (Instr.enterLoop f a.tmps ps ZP bd none).run P w = .ok (l, mark) w1)
 (hres : (resolve a.eval (rangeCall gf l) 0).run P w1 = .ok d w1) (hinv : (invoke d.target d.args).run P w1 = .ok (.enter g args) w2)
 (hcall : Zv P g args w2 v w3)
 {jump : Option Code} {w4 : adV} (hend : (Instr.endLoop l).run P w3 = .ok jump w4)
 (hj : XJ P f Q { a with defers := mark ++ a.defers } w4 jump) :
 Of P f none (.rangeFunc gf ps ZP bd) Q a w := by
 intro b k cs hb hro
 rw [<- hb, <- hro] at he
 have henter := stepR_rangeFunc (P := P) (b := b) (a := a) (k := k) (cs := cs) (w := w) he hres hinv
 obtain ⟨e, w3', fr, ⟨rfl, rfl⟩, hsteps, hfn, hleave⟩ := hcall (b.atR { a with defers := mark ++ a.defers } (.inRangeFunc l :: k) :: cs)
 have sback : StepsIn (OR P) P (lone (b.atR a (.code (.rangeFunc gf ps ZP bd) :: k)) cs w) (lone (b.atR { a with defers := mark ++ a.defers } ((jump.map Item.code).toList ++ k)) cs w4) := by
  refine HH henter (StepsIn.trans (stepsIn_wide.2 hsteps) (HH (m1 := lone (b.atR { a with defers := mark ++ a.defers } (.endRangeFunc l :: k)) cs w3') ?_ (Eg (stepR_endRangeFunc hend))))
  rw [<- finish_atR_inRangeFunc l v]; exact step_leave_returned hleave
 cases jump with
 | none => exact ⟨.normal, _, w4, hj, sback⟩
 | some c =>
   obtain ⟨e', a'', w5, hq, harr⟩ := hj b k cs hb hro
   exact ⟨e', a'', w5, hq, .of_steps sback harr⟩
def SF (P : Program) (l : Nat) (R : adW -> adV -> Prop) : Exit -> Act -> adV -> Prop
 | .normal, _, w => ∃ v w', (Instr.endRound l none).run P w = .ok v w' /\ R v w'
 | .ret, _, w => ∃ v w', (Instr.endRound l (some .ret)).run P w = .ok v w' /\ R v w'
 | .exit id, _, w => ∃ v w', (Instr.endRound l (some (.exit id))).run P w = .ok v w' /\ R v w'
 | _, _, _ => False
theorem Qx {l : Nat} {tmps : Array adW} {ZP bd : Code} {R : adW -> adV -> Prop}
 (h : Of P f (some l) ZP (Exit.then (fun a1 w1 => ∃ w2, (Instr.beginRound l).run P w1 = .ok () w2 /\ Of P f (some l) bd (SF P l R) a1 w2) (fun _ _ _ => False))
   { tmps := tmps, defers := [] } w) :
 RoundIn Fence.wide 0 P l f tmps ZP bd w fun e w' => ∃ v, e = .returned v /\ R v w' := by
 refine ⟨trivial, fun c cs _ => ?_⟩
 let b : Frame := { (default : Frame) with fn := f, kind := .normal, roundOf := some l }
 have hb0 : Frame.round l f tmps ZP bd .normal = b.atR { tmps := tmps, defers := [] } [.code ZP, .beginRound, .code bd] := by
  simp [Frame.round, Frame.atR, b]
 obtain ⟨e, a1, w1, hq, harr⟩ := h b [.beginRound, .code bd] (c :: cs) rfl rfl
 rw [<- hb0] at harr
 cases e with
 | normal =>
   obtain ⟨w2, hbr, hbody⟩ := hq
   have s1 := Eg (stepR_beginRound (P := P) (b := b) (a := a1) (k := [.code bd]) (cs := c :: cs) rfl hbr)
   obtain ⟨e2, a2, w3, hq2, harr2⟩ := hbody b [] (c :: cs) rfl rfl
   cases e2 with
   | normal =>
     obtain ⟨v, w4, hend, hR⟩ := hq2
     exact ⟨.returned v, w4, ⟨v, rfl, hR⟩, (StepsIn.trans harr s1).trans (StepsIn.trans harr2 (Eg (stepR_round_end rfl rfl hend)))⟩
   | ret =>
     obtain ⟨v, w4, hend, hR⟩ := hq2
     obtain ⟨k1, hs⟩ := harr2.2 rfl
     exact ⟨.returned v, w4, ⟨v, rfl, hR⟩, (StepsIn.trans harr s1).trans (StepsIn.trans hs (Eg (stepR_round_ret rfl rfl hend)))⟩
   | exit id =>
     obtain ⟨v, w4, hend, hR⟩ := hq2
     obtain ⟨k1, hk, hs⟩ := harr2.2 rfl rfl
     exact ⟨.returned v, w4, ⟨v, rfl, hR⟩, (StepsIn.trans harr s1).trans (StepsIn.trans hs (Eg (stepR_round_exit rfl rfl hk hend)))⟩
   | goto t => exact hq2.elim
   | panic chain => exact hq2.elim
   | outgrown => exact hq2.elim
 | exit id => exact hq.elim
 | goto t => exact hq.elim
 | ret => exact hq.elim
 | panic chain => exact hq.elim
 | outgrown => exact hq.elim
end
def Qs (ops : Array Oper) : Nat -> Array Bool -> List Nat -> Prop
 | 0, _, L => L = []
 | _ + 1, listed, [] => Region.ready .any ops listed = []
 | n + 1, listed, i :: L => i ∈ Region.ready .any ops listed /\ Qs ops n (listed.setIfInBounds i true) L
section
variable {P : Program} {ops : Array Oper} {Q : Act -> adV -> Prop}
theorem Xv : ∀ (fuel t : Nat) (listed : Array Bool), Qs ops fuel listed (Region.linearise.go .any ops fuel t listed []) := by
 intro fuel
 induction fuel with
 | zero => intro t listed; simp [Region.linearise.go, Qs]
 | succ fuel ih =>
   intro t listed
   simp only [Region.linearise.go]
   change Qs ops (fuel + 1) listed (match (Region.ready .any ops listed)[t % (Region.ready .any ops listed).length]? with
    | some i => Region.linearise.go .any ops fuel (t / (Region.ready .any ops listed).length) (listed.setIfInBounds i true) [i]
    | none => [].reverse)
   cases hi : (Region.ready .any ops listed)[t % (Region.ready .any ops listed).length]? with
   | none =>
     have : Region.ready .any ops listed = [] := by
      cases hr : Region.ready .any ops listed with
      | nil => rfl
      | cons x xs =>
        rw [hr] at hi
        have hlt : t % (x :: xs).length < (x :: xs).length := acU _ (by simp)
        rw [Z0 hlt] at hi
        cases hi
     simpa [Qs] using this
   | some i =>
     simp only []
     rw [linearise_go_acc]
     exact ⟨adO hi, ih _ _⟩
theorem Ly : ∀ (fuel : Nat) (listed : Array Bool) (L : List Nat) (a : Act) (w : adV), OT P ops Q fuel listed a w -> Qs ops fuel listed L -> Bf P ops Q L a w := by
 intro fuel
 induction fuel with
 | zero => intro listed L a w h hL; obtain rfl : L = [] := hL; exact h.2
 | succ fuel ih =>
   intro listed L a w h hL
   cases L with
   | nil => exact h.1 hL
   | cons i L =>
     exact Sx (fun a w hh => ih _ _ a w hh hL.2) (h.2 i hL.1)
end
structure PB (π : List Nat) (ops : Array Oper) : Prop where
 len : π.length = ops.size
 to : ∀ i, i < ops.size -> vG π i < ops.size /\ π[vG π i]? = some i
 back : ∀ k, k < ops.size -> ∃ i, π[k]? = some i /\ vG π i = k /\ i < ops.size
 after : ∀ (i : Nat) (o : Oper), ops[i]? = some o -> ∀ e ∈ o.after, e.on < ops.size
 guard : ∀ (i : Nat) (o : Oper) (j : Nat) (b : Bool), ops[i]? = some o -> o.guard = some (j, b) -> j < ops.size
theorem Xr {π : List Nat} {ops : Array Oper} (h : SS π ops = true) : PB π ops := by
 unfold SS at h
 simp only [Z4] at h
 obtain ⟨⟨⟨h1, h2⟩, h3⟩, h4⟩ := h
 have h1 := aaI h1
 have at4 : ∀ (i : Nat) (o : Oper), ops[i]? = some o -> (o.after.all fun e => Nat.blt e.on ops.size) = true /\ (match o.guard with | some (j, _) => Nat.blt j ops.size | none => true) = true := by
  intro i o ho
  have hi : i < ops.size := by
   rcases abB i ops.size with h | h
   .exact h
   .rw [aaL h] at ho; cases ho
  have := aaU.1 h4 i (aaS.2 hi)
  rw [ho] at this
  simp only [Z4] at this
  refine ⟨this.1, ?_⟩
  have h := this.2
  revert h
  cases o.guard <;> exact id
 refine ⟨h1, fun i hi => ?_, fun k hk => ?_, fun i o ho e he => ?_, fun i o j b ho hg => ?_⟩
 .have := aaU.1 h3 i (aaS.2 hi)
  cases hp : π[vG π i]? with
  | none => rw [hp] at this; cases this
  | some j =>
    rw [hp] at this
    obtain rfl := aaI this
    refine ⟨?_, rfl⟩
    rcases abB (vG π j) π.length with h | h
    .omega
    .rw [aaZ h] at hp; cases hp
 .have := aaU.1 h2 k (aaS.2 hk)
  cases hp : π[k]? with
  | none => rw [hp] at this; cases this
  | some i =>
    rw [hp] at this
    simp only [Z4] at this
    exact ⟨i, rfl, aaI this.1, (acJ (x := i) (y := ops.size)) ▸ this.2⟩
 .have := abI.1 (at4 i o ho).1 e he
  exact (acJ (x := e.on) (y := ops.size)) ▸ this
 .have := (at4 i o ho).2
  rw [hg] at this
  exact (acJ (x := j) (y := ops.size)) ▸ this
theorem PX {π : List Nat} {es : List (Nat × Nat)} {l : List Oper} : ∀ (r : List Nat), (∀ i ∈ r, i < l.length) -> (Lk π es l r).length = r.length /\ ∀ k i : Nat, r[k]? = some i -> (Lk π es l r)[k]? = (l[i]?).map (Fq π es i) := by
 intro r
 induction r with
 | nil => intro _; exact ⟨rfl, fun k i h => by simp at h⟩
 | cons j r ih =>
   intro h
   obtain ⟨h1, h2⟩ := ih fun i hi => h i (Z7 _ hi)
   have hj : j < l.length := h j (by simp)
   simp only [Lk, Z0 hj]
   refine ⟨by simp [h1], fun k i hk => ?_⟩
   cases k with
   | zero => simp at hk; subst hk; simp [Z0 hj]
   | succ k => simp at hk ⊢; exact h2 k i hk
section
variable {P : Program} {ops : Array Oper} {Q : Act -> adV -> Prop} {π : List Nat} {es : List (Nat × Nat)}
theorem PB.mem (p : PB π ops) : ∀ i ∈ π, i < ops.toList.length := by
 intro i hi
 obtain ⟨k, hk, e⟩ := adA hi
 obtain ⟨j, h1, _, h2⟩ := p.back k (by rw [<- p.len]; exact hk)
 rw [Z0 hk] at h1
 cases h1
 rw [<- e]; simpa using h2
theorem PB.size (p : PB π ops) : (oX π es ops).size = ops.size := by
 unfold oX
 rw [acB, (PX (es := es) (π := π) π p.mem).1, p.len]
theorem PB.get (p : PB π ops) {i : Nat} (hi : i < ops.size) : (oX π es ops)[vG π i]? = (ops[i]?).map (Fq π es i) := by
 unfold oX
 have := (PX (es := es) (π := π) π p.mem).2 (vG π i) i (p.to i hi).2
 rw [acE] at this
 simpa using this
theorem S8 {i : Nat} {o : Oper} {a : Act} {w : adV} {K : Act -> adV -> Prop} : Sw P (Fq π es i o) a w K ↔ Sw P o a w K := by
 unfold Sw
 have h1 : execOp a.eval (Fq π es i o) = execOp a.eval o := by
  obtain ⟨d, op, ty, ps, af, g⟩ := o
  cases op <;> rfl
 have h2 : PU (Fq π es i o) = PU o := rfl
 rw [h1, h2]
 generalize (execOp a.eval o).run P w = r
 cases r with
 | ok n w => cases n <;> exact Iff.rfl
 | halt x w => exact Iff.rfl
theorem R4 (p : PB π ops) {i : Nat} {o : Oper} (ho : ops[i]? = some o) (tmps : Array adW) :
 Region.wanted (Fq π es i o) (yielded (oX π es ops) tmps) = Region.wanted o (yielded ops tmps) := by
 unfold Region.wanted Fq
 simp only
 cases hg : o.guard with
 | none => rfl
 | some q =>
   obtain ⟨j, b⟩ := q
   simp only
   have hj := p.guard i o j b ho hg
   have : (oX π es ops)[vG π j]?.bind (·.dst) = (ops[j]?).bind (·.dst) := by
    rw [p.get hj]
    cases ops[j]? <;> rfl
   unfold yielded
   rw [this]
theorem SE (p : PB π ops) : ∀ (L : List Nat), (∀ i ∈ L, i < ops.size) -> ∀ (a : Act) (w : adV), Bf P (oX π es ops) Q (L.map (vG π)) a w -> Bf P ops Q L a w := by
 intro L
 induction L with
 | nil => intro _ a w h; exact h
 | cons i L ih =>
   intro hL a w h
   rw [Z6] at h
   simp only [Bf] at h ⊢
   have hi := hL i (by simp)
   have ih := ih fun i hi => hL i (Z7 _ hi)
   unfold I0 at h ⊢
   rw [p.get hi] at h
   rw [aaA hi] at h ⊢
   simp only [aaX] at h
   rw [R4 p (aaA hi)] at h
   simp only
   split
   .rename_i hw
    rw [if_pos hw, S8] at h
    exact PK (fun a w => ih a w) h
   .rename_i hw
    rw [if_neg hw] at h
    exact ih _ _ h
theorem JL {ops : Array Oper} {listed : Array Bool} (hsz : listed.size = ops.size) (i : Nat) :
 i ∈ Region.ready .any ops listed ↔ (i < ops.size /\ listed.getD i false = false /\ ∀ o, ops[i]? = some o -> ∀ e ∈ o.after, Region.binds .any e = true -> listed.getD e.on false = true) := by
 unfold Region.ready
 rw [List.mem_filter, aaS]
 constructor
 .rintro ⟨h1, h2⟩
  rw [aaA h1] at h2
  simp only [Z4, aaX, abL] at h2
  refine ⟨h1, ?_, fun o ho e he hb => ?_⟩
  .have := h2.1
   rw [Z2] at this ⊢
   rw [aaA (by omega)] at this ⊢
   simpa using this
  .rw [aaA h1] at ho
   cases ho
   have := abI.1 h2.2 e he
   simpa [hb] using this
 .rintro ⟨h1, h2, h3⟩
  refine ⟨h1, ?_⟩
  rw [aaA h1]
  simp only [Z4, aaX, abL]
  refine ⟨?_, abI.2 fun e he => ?_⟩
  .rw [Z2] at h2 ⊢
   rw [aaA (by omega)] at h2 ⊢
   simpa using h2
  .by_cases hb : Region.binds .any e = true
   .simp [hb, h3 _ (aaA h1) e he hb]
   .simp [hb]
theorem VP {π : List Nat} {i : Nat} : ∀ {es : List (Nat × Nat)} {e : Edge}, e ∈ CT π i es -> ∃ a, (a, i) ∈ es /\ e.on = vG π a := by
 intro es
 induction es with
 | nil => intro e h; simp [CT] at h
 | cons q r ih =>
   obtain ⟨a, b⟩ := q
   intro e h
   simp only [CT] at h
   cases hb : Nat.beq b i with
   | true =>
     rw [hb] at h
     obtain rfl := aaI hb
     rcases aaR.1 h with rfl | h
     .exact ⟨a, by simp, rfl⟩
     .obtain ⟨a, h1, h2⟩ := ih h; exact ⟨a, Z7 _ h1, h2⟩
   | false => rw [hb] at h; obtain ⟨a, h1, h2⟩ := ih h; exact ⟨a, Z7 _ h1, h2⟩
theorem UC (p : PB π ops) {L0 : List Nat} (hes : ∀ q ∈ es, L0.idxOf q.1 <= L0.idxOf q.2 /\ q.1 ≠ q.2 /\ q.1 < ops.size) :
 ∀ (fuel : Nat) (listed listed' : Array Bool) (pre L : List Nat), L0 = pre ++ L -> listed.size = ops.size -> listed'.size = ops.size →
   (∀ j, j < ops.size -> listed'.getD (vG π j) false = listed.getD j false) -> (∀ j ∈ pre, listed.getD j false = true) -> (∀ j, listed.getD j false = true -> j ∈ pre) →
   Qs ops fuel listed L -> Qs (oX π es ops) fuel listed' (L.map (vG π)) /\ ∀ i ∈ L, i < ops.size := by
 intro fuel
 induction fuel with
 | zero => intro listed listed' pre L _ _ _ _ _ _ h; obtain rfl : L = [] := h; exact ⟨rfl, by simp⟩
 | succ fuel ih =>
   intro listed listed' pre L hL0 hs hs' hrel hpre hpre' h
   have hsz : (oX π es ops).size = ops.size := p.size
   cases L with
   | nil =>
     refine ⟨?_, by simp⟩
     show Region.ready .any (oX π es ops) listed' = []
     rw [List.eq_nil_iff_forall_not_mem]
     intro k hk
     obtain ⟨h1, h2, h3⟩ := (JL (by omega) k).1 hk
     obtain ⟨i, hi1, hi2, hi3⟩ := p.back k (by omega)
     have : i ∈ Region.ready .any ops listed := by
      refine (JL hs i).2 ⟨hi3, ?_, fun o ho e he hb => ?_⟩
      .rw [<- hrel i hi3, hi2]; exact h2
      .have g := p.get (es := es) hi3
       rw [hi2, ho] at g
       have hon := p.after i o ho e he
       have := h3 _ g ⟨vG π e.on, e.ground⟩ (by
        simp only [Fq, List.mem_toArray, abN, aaY]
        exact .inl ⟨e, by simpa using he, rfl⟩) (by unfold Region.binds at hb ⊢; exact hb)
       rw [<- hrel e.on hon]; exact this
     rw [show Region.ready .any ops listed = [] from h] at this
     cases this
   | cons i L =>
     obtain ⟨h1, h2⟩ := h
     obtain ⟨r1, r2, r3⟩ := (JL hs i).1 h1
     have hnot : i ∉ pre := fun hm => by rw [hpre i hm] at r2; cases r2
     have hidx : L0.idxOf i = pre.length := by
      rw [hL0, List.idxOf_append, if_neg hnot]; simp
     have ready' : vG π i ∈ Region.ready .any (oX π es ops) listed' := by
      refine (JL (by omega) _).2 ⟨by rw [hsz]; exact (p.to i r1).1, by rw [hrel i r1]; exact r2, fun o' ho' e' he' hb => ?_⟩
      rw [p.get r1, aaA r1] at ho'
      simp only [aaX, aaN] at ho'
      subst ho'
      simp only [Fq, List.mem_toArray, abN, aaY] at he'
      rcases he' with ⟨e, he, rfl⟩ | he'
      .have ho := aaA r1
       have he2 : e ∈ ops[i].after := by simpa using he
       rw [hrel e.on (p.after i _ ho e he2)]
       exact r3 _ ho e he2 (by unfold Region.binds at hb ⊢; exact hb)
      .obtain ⟨a, ha, hon⟩ := VP he'
       obtain ⟨q1, q2, q3⟩ := hes _ ha
       simp only at q1 q2 q3
       rw [hon, hrel a q3]
       refine hpre a ?_
       rw [hidx] at q1
       rw [hL0, List.idxOf_append] at q1
       by_cases hm : a ∈ pre
       .exact hm
       .rw [if_neg hm] at q1
        exfalso
        have hz : (i :: L).idxOf a = 0 := by omega
        rw [List.idxOf_cons] at hz
        cases hb : (i == a) with
        | true => exact q2 (by simpa using (beq_iff_eq.1 hb).symm)
        | false => rw [hb] at hz; simp at hz
     have hlen' : listed'.size = ops.size := hs'
     obtain ⟨k1, k2⟩ := ih (listed.setIfInBounds i true) (listed'.setIfInBounds (vG π i) true) (pre ++ [i]) L (by rw [hL0]; simp) (by simp [hs]) (by simp [hs'])
      (fun j hj => by
       by_cases hji : j = i
       .subst hji
        rw [Z2, Z2, aaC (by rw [hs']; exact (p.to j hj).1), aaC (by omega)]
       .have hne : vG π i ≠ vG π j := fun e => by
         have a1 := (p.to i r1).2
         have a2 := (p.to j hj).2
         rw [e] at a1
         rw [a1] at a2
         exact hji (abG a2).symm
        have := hrel j hj
        rw [Z2, Z2] at this ⊢
        rw [aaE hne, aaE (fun e => hji e.symm)]
        exact this)
      (fun j hj => by
       rw [Z2]
       rcases abN.1 hj with hj | hj
       .by_cases hji : j = i
        .subst hji; rw [aaC (by omega)] <;> rfl
        .rw [aaE (fun e => hji e.symm), <- Z2]; exact hpre j hj
       .have : j = i := by simpa using hj
        subst this
        rw [aaC (by omega)] <;> rfl)
      (fun j hj => by
       by_cases hji : j = i
       .subst hji; simp
       .rw [Z2, aaE (fun e => hji e.symm), <- Z2] at hj
        exact acA _ (hpre' j hj))
      h2
     exact ⟨⟨ready', k1⟩, fun j hj => (aaR.1 hj).elim (fun e => e ▸ r1) (k2 j)⟩
end
section
variable {P : Program} {ops : Array Oper}
theorem Nf {N : Nat} {an : Tq} {pl : RC} (hok : Oy ops an = true) (hpl : Oz ops.size an pl = true) (hd : Kz N ops) (hca : Ma P ops)
 {K : Env -> adV -> Prop} {Q : Act -> adV -> Prop} (hQ : ∀ g a w, Jb N g a -> K g w -> Q a w) {g : Env} {a : Act} {w : adV} (hr : Jb N g a)
 (h : qC P ops ops.toList pl [] g w K) : OT P ops Q ops.size (Array.replicate ops.size false) a w := by
 have r0 : U2 P ops an g w 0 (fun _ => default) (fun _ => g) (fun _ => w) (fun _ => undef) :=
  ⟨rfl, rfl, fun i hi => by omega, fun i hi => by omega, fun i hi => by omega, fun i hi => by omega, fun i j _ hj => by omega⟩
 obtain ⟨O, G, W, V, r, hk⟩ := Rb hpl ops.toList 0 [] _ _ _ _ (fun j => by simp) (by simp) r0 (fun i hi => by omega) h
 simp only [ZY, Array.length_toList] at r hk
 have st := Uk hok r.op
 have := Wc (Q := Q) (n := ops.size) rfl hd hca r st (fun a hra => hQ _ a _ hra hk) ops.size (Array.replicate ops.size false) g a 0 (by simp) hr (by omega)
  (fun j hj hl => by unfold mJ at hl; simp [Z2, hj] at hl)
  (fun s => .inr ⟨fun j hj hl => by unfold mJ at hl; simp [Z2, hj] at hl, rfl⟩)
  (fun h hh _ => ⟨fun hl => by unfold mJ at hl; simp [Z2, hh] at hl, fun hl => by omega⟩)
  (acR (List.length_filter_le _ _) (by simp))
 rw [r.w0] at this
 exact this
theorem My {N : Nat} {ops : Array Oper} (h : ops.all (TU N) = true) : Kz N ops := by
 intro i o ho t ht
 have := abI.1 h o (adL ho)
 unfold TU at this
 rw [ht] at this
 exact (acJ (x := t) (y := N)) ▸ this
theorem NW {ops : Array Oper} (h : ops.all (Ac P) = true) : Ma P ops :=
 fun _ o ho => abI.1 h o (adL ho)
theorem Tb {N : Nat} {f : FuncId} {id : Nat} (hd : Kz N ops) (hca : Ma P ops)
 {K : Env -> adV -> Prop} {Q : Act -> adV -> Prop} (hQ : ∀ g a w, Jb N g a -> K g w -> Q a w) {g : Env} {a : Act} {w0 w : adV} (hr : Jb N g a) :
 ∀ (T : HT) (path : List (Nat × Nat)), KF P N ops path T = true →
   (∀ q ∈ path, (Region.schedule true ops (w0.tape w0.drawn (.order f id))).idxOf q.1 <= (Region.schedule true ops (w0.tape w0.drawn (.order f id))).idxOf q.2 /\ q.1 ≠ q.2) →
   Sg P f id ops T g w0 w K -> Bf P ops Q (Region.schedule true ops (w0.tape w0.drawn (.order f id))) a w := by
 have lin : Qs ops ops.size (Array.replicate ops.size false) (Region.schedule true ops (w0.tape w0.drawn (.order f id))) := by
  unfold Region.schedule
  simp only [Bool.true_or, if_true]
  exact Xv _ _ _
 generalize hL : Region.schedule true ops (w0.tape w0.drawn (.order f id)) = L at lin ⊢
 intro T
 induction T with
 | leaf an pl =>
   intro path hok _ h
   simp only [KF, Z4] at hok
   exact Ly _ _ _ _ _ (Nf hok.1 hok.2 hd hca hQ hr h) lin
 | perm π es an pl =>
   intro path hok hpath h
   simp only [KF, Z4] at hok
   obtain ⟨⟨⟨⟨⟨h1, h2⟩, h3⟩, h4⟩, h5⟩, h6⟩ := hok
   have p := Xr h2
   have hes : ∀ q ∈ es, L.idxOf q.1 <= L.idxOf q.2 /\ q.1 ≠ q.2 /\ q.1 < ops.size := fun q hq => by
    have := aaU.1 h1 q hq
    simp only [Z4] at this
    have hp := hpath q (Vb this.1)
    exact ⟨hp.1, hp.2, (acJ (x := q.1) (y := ops.size)) ▸ this.2⟩
   obtain ⟨k1, k2⟩ := UC (es := es) p hes ops.size (Array.replicate ops.size false) (Array.replicate ops.size false) [] L rfl (by simp) (by simp)
    (fun j hj => by simp [Z2, hj, (p.to j hj).1]) (by simp)
    (fun j hj => by rw [Z2] at hj; by_cases hh : j < ops.size <;> simp [hh] at hj) lin
   have hw := Nf h5 h6 (My h3) (NW h4) hQ hr h
   rw [p.size] at hw
   exact SE (es := es) p L k2 a w (Ly _ _ _ _ _ hw k1)
 | split x y A B ihA ihB =>
   intro path hok hpath h
   simp only [KF, Z4] at hok
   have hne : x ≠ y := by
    intro e
    have := hok.1.1
    rw [e] at this
    simp at this
   simp only [Sg] at h
   unfold Ord WZ at h
   rw [hL] at h
   cases hb : Nat.ble (L.idxOf x) (L.idxOf y) with
   | true =>
     rw [hb] at h
     refine ihA _ hok.1.2 (fun q hq => ?_) h
     rcases aaR.1 hq with rfl | hq
     .exact ⟨abY hb, hne⟩
     .exact hpath q hq
   | false =>
     rw [hb] at h
     refine ihB _ hok.2 (fun q hq => ?_) h
     rcases aaR.1 hq with rfl | hq
     .refine ⟨?_, hne.symm⟩
      simp only
      rcases abB (L.idxOf y) (L.idxOf x) with hh | hh
      .omega
      .have := Nat.ble_eq_true_of_le hh; rw [this] at hb; cases hb
     .exact hpath q hq
end
section
variable {P : Program} {ann : FA}
def oJ : List Oper -> List Nat
 | [] => []
 | o :: r => match o.dst with | some d => d :: oJ r | none => oJ r
def J3 : Code -> List Nat
 | .region _ ops _ => oJ ops.toList
 | .seq x y => J3 x ++ J3 y
 | .cond _ x y => J3 x ++ J3 y
 | .block _ c => J3 c
 | .scope c => J3 c
 | .loop c => J3 c
 | .rangeFunc .. => [DS]
 | _ => []
def mI (l : List Nat) (g g' : Env) : Prop := ∀ s, s ∉ l -> g' s = g s
theorem mI.refl (l : List Nat) (g : Env) : mI l g g := fun _ _ => rfl
theorem mI.trans {l l1 l2 : List Nat} {a b c : Env} (h : mI l1 a b) (k : mI l2 b c) (h1 : ∀ s, s ∈ l1 -> s ∈ l) (h2 : ∀ s, s ∈ l2 -> s ∈ l) : mI l a c :=
 fun s hs => (k s fun h => hs (h2 s h)).trans (h s fun h => hs (h1 s h))
theorem mI.mono {l l1 : List Nat} {a b : Env} (h : mI l1 a b) (h1 : ∀ s, s ∈ l1 -> s ∈ l) : mI l a b := fun s hs => h s fun hh => hs (h1 s hh)
theorem mI.put {l : List Nat} {a : Env} (d : Option Tmp) (v : adW) (h : ∀ t, d = some t -> t ∈ l) : mI l a (put a d v) := by
 intro s hs
 cases d with
 | none => rfl
 | some t =>
   rw [GO, if_neg (fun e => hs (by rw [e]; exact h t rfl))]
theorem SC {ops : Array Oper} {K : Env -> adV -> Prop} : ∀ (l : List Oper) (g : Env) (w : adV), Ov P ops l g w K →
 ∃ g' w', K g' w' /\ mI (oJ l) g g' /\ ∀ K' : Env -> adV -> Prop, K' g' w' -> Ov P ops l g w K' := by
 intro l
 induction l with
 | nil => intro g w h; exact ⟨g, w, h, mI.refl _ _, fun _ h => h⟩
 | cons o l ih =>
   intro g w h
   obtain ⟨v, w1, hy, h1⟩ := Hd h
   obtain ⟨g', w', hk, ha, hall⟩ := ih _ _ h1
   refine ⟨g', w', hk, ?_, fun K' hk' => hy _ (hall K' hk')⟩
   refine mI.trans (mI.put o.dst v (l := oJ (o :: l)) fun t ht => by simp [oJ, ht]) ha (fun _ h => h) (fun s hs => ?_)
   unfold oJ
   split
   .exact Z7 _ hs
   .exact hs
theorem M1 {ops : Array Oper} {K : Env -> adV -> Prop} : ∀ (l : List Oper) (pl : RC) (hist : List Rec) (g : Env) (w : adV), qC P ops l pl hist g w K →
 ∃ g' w', K g' w' /\ mI (oJ l) g g' /\ ∀ K' : Env -> adV -> Prop, K' g' w' -> qC P ops l pl hist g w K' := by
 intro l
 induction l with
 | nil => intro pl hist g w h; unfold qC at h; exact ⟨g, w, h, mI.refl _ _, fun _ h => (by unfold qC; exact h)⟩
 | cons o l ih =>
   intro pl hist g w h
   cases pl with
   | nil => exact h.elim
   | cons p pl =>
     obtain ⟨hv, ks⟩ := p
     obtain ⟨v, w1, hy, h1⟩ := Hd h
     have tail : ∀ (w2 : adV) (hist' : List Rec), qC P ops l pl hist' (put g o.dst v) w2 K →
         ∃ g' w', K g' w' /\ mI (oJ (o :: l)) g g' /\ ∀ K' : Env -> adV -> Prop, K' g' w' -> qC P ops l pl hist' (put g o.dst v) w2 K' := by
      intro w2 hist' c2
      obtain ⟨g', w', hk, ha, hall⟩ := ih _ _ _ _ c2
      refine ⟨g', w', hk, ?_, hall⟩
      refine mI.trans (mI.put o.dst v (l := oJ (o :: l)) fun t ht => by simp [oJ, ht]) ha (fun _ h => h) (fun s hs => ?_)
      unfold oJ
      split
      .exact Z7 _ hs
      .exact hs
     cases hv with
     | true =>
       cases ks with
       | nil =>
         obtain ⟨g', w', hk, ha, hall⟩ := tail w1 _ h1
         exact ⟨g', w', hk, ha, fun K' hk' => hy _ (hall K' hk')⟩
       | cons k ks =>
         obtain ⟨hc, h1⟩ := h1
         obtain ⟨g', w', hk, ha, hall⟩ := tail w1 _ h1
         exact ⟨g', w', hk, ha, fun K' hk' => hy _ ⟨hc, hall K' hk'⟩⟩
     | false =>
       cases ks with
       | nil =>
         obtain ⟨rfl, h1⟩ := h1
         obtain ⟨g', w', hk, ha, hall⟩ := tail w1 _ h1
         exact ⟨g', w', hk, ha, fun K' hk' => hy _ ⟨rfl, hall K' hk'⟩⟩
       | cons k ks =>
         obtain ⟨rfl, hc, h1⟩ := h1
         obtain ⟨g', w', hk, ha, hall⟩ := tail w1 _ h1
         exact ⟨g', w', hk, ha, fun K' hk' => hy _ ⟨rfl, hc, hall K' hk'⟩⟩
theorem Es {l : List Oper} {s : Nat} : s ∈ oJ l ↔ ∃ o ∈ l, o.dst = some s := by
 induction l with
 | nil => simp [oJ]
 | cons o l ih =>
   unfold oJ
   cases hd : o.dst with
   | none => simp [ih, hd]
   | some d => simp [ih, hd, eq_comm]
theorem S7 {π : List Nat} {es : List (Nat × Nat)} {l : List Oper} {s : Nat} : ∀ (r : List Nat), s ∈ oJ (Lk π es l r) -> s ∈ oJ l := by
 intro r
 induction r with
 | nil => intro h; simp [Lk, oJ] at h
 | cons i r ih =>
   intro h
   simp only [Lk] at h
   cases ho : l[i]? with
   | none => rw [ho] at h; exact ih h
   | some o =>
     rw [ho] at h
     obtain ⟨o', h1, h2⟩ := Es.1 h
     rcases aaR.1 h1 with rfl | h1
     .exact Es.2 ⟨o, adO ho, h2⟩
     .exact ih (Es.2 ⟨o', h1, h2⟩)
theorem VO {f : FuncId} {id : Nat} {ops : Array Oper} {K : Env -> adV -> Prop} {g : Env} {w0 : adV} : ∀ (T : HT) (w : adV), Sg P f id ops T g w0 w K →
 ∃ g' w', K g' w' /\ mI (oJ ops.toList) g g' /\ ∀ K' : Env -> adV -> Prop, K' g' w' -> Sg P f id ops T g w0 w K' := by
 intro T
 induction T with
 | leaf an pl => intro w h; exact M1 _ _ _ _ _ h
 | perm π es an pl =>
   intro w h
   obtain ⟨g', w', a, b, c⟩ := M1 _ _ _ _ _ h
   exact ⟨g', w', a, b.mono (fun s hs => S7 π (by simpa [oX] using hs)), c⟩
 | split x y A B ihA ihB =>
   intro w h
   simp only [Sg, Ord] at h ⊢
   cases hb : WZ f id ops x y w0 with
   | true => rw [hb] at h; exact ihA w h
   | false => rw [hb] at h; exact ihB w h
theorem jW.head {α : Type} {F : (α -> adV -> Prop) -> α -> adV -> Prop} (hmono : ∀ X Y g w, (∀ g w, X g w -> Y g w) -> F X g w -> F Y g w)
 {g : α} {w : adV} (h : F (fun g' w' => jW F g' w') g w) (hdet : ∃ g' w', jW F g' w' /\ ∀ X : α -> adV -> Prop, X g' w' -> F X g w) : jW F g w := by
 obtain ⟨g1, w1, ⟨I, ⟨n1, h1⟩, hI⟩, hF⟩ := hdet
 refine ⟨fun n g' w' => I n g' w' ∨ (n = n1 + 1 /\ g' = g /\ w' = w), ⟨n1 + 1, .inr ⟨rfl, rfl, rfl⟩⟩, ?_⟩
 rintro n g' w' (h | ⟨rfl, rfl, rfl⟩)
 .exact hmono _ _ _ _ (fun _ _ ⟨m, hm, hh⟩ => ⟨m, hm, .inl hh⟩) (hI _ _ _ h)
 .exact hF _ ⟨n1, by omega, .inl h1⟩
theorem Yb {f : FuncId} {gf : Operand} {ps : Array Tmp} {ZP bd : Code} {Q : Exit -> Env -> adV -> Prop} {g : Env} {w : adV} (h : RF P f gf ps ZP bd Q g w) :
 ∃ e g' w', Q e g' w' /\ mI [DS] g g' /\ ∀ Q' : Exit -> Env -> adV -> Prop, Q' e g' w' -> RF P f gf ps ZP bd Q' g w := by
 unfold RF at h ⊢
 cases hn : noMark (g DS) with
 | false => rw [hn] at h; exact h.elim
 | true =>
   rw [hn] at h
   simp only at h ⊢
   generalize (xZ (ev g gf) [Dk (w.heap.size + 1)]).run P (U3 f (Mj P f) ps ZP bd g w) = r at *
   match r, h with
   | .ok (.enter f2 args) w1, h =>
     obtain ⟨v, w3, hret, r, h1, h2, h3⟩ := h
     have ha : mI [DS] g (put g (some DS) (.pointer (some ⟨w.heap.size, 0, none⟩))) := mI.put _ _ (fun t ht => by cases ht; simp)
     cases hp : r.pending with
     | none =>
       rw [hp] at h3
       exact ⟨.normal, _, _, h3, ha, fun Q' h => ⟨v, w3, hret, r, h1, h2, by rw [hp]; exact h⟩⟩
     | some c =>
       rw [hp] at h3
       cases c <;> first
        | exact h3.elim
        | exact ⟨.ret, _, _, h3, ha, fun Q' h => ⟨v, w3, hret, r, h1, h2, by rw [hp]; exact h⟩⟩
        | exact ⟨.exit _, _, _, h3, ha, fun Q' h => ⟨v, w3, hret, r, h1, h2, by rw [hp]; exact h⟩⟩
theorem NR : ∀ (c : Code) (Q : Exit -> Env -> adV -> Prop) (g : Env) (w : adV), iL P ann c Q g w →
 ∃ e g' w', Q e g' w' /\ mI (J3 c) g g' /\ ∀ Q' : Exit -> Env -> adV -> Prop, Q' e g' w' -> iL P ann c Q' g w := by
 intro c
 induction c with
 | skip => intro Q g w h; exact ⟨_, _, _, h, mI.refl _ _, fun _ h => h⟩
 | region id ops draw =>
   intro Q g w h
   cases draw with
   | false =>
     obtain ⟨g', w', a, b, c⟩ := SC _ _ _ h
     exact ⟨.normal, g', w', a, b, fun Q' h => c _ h⟩
   | true =>
     obtain ⟨g', w', a, b, c⟩ := VO _ _ h
     exact ⟨.normal, g', w', a, b, fun Q' h => c _ h⟩
 | seq x y ihx ihy =>
   intro Q g w h
   obtain ⟨e, g1, w1, a, b, c⟩ := ihx _ _ _ h
   cases e with
   | normal =>
     obtain ⟨e2, g2, w2, a2, b2, c2⟩ := ihy _ _ _ a
     exact ⟨e2, g2, w2, a2, b.trans b2 (fun s h => acA _ h) (fun s h => acQ _ h), fun Q' h => c _ (c2 _ h)⟩
   | _ => exact ⟨_, g1, w1, a, b.mono (fun s h => acA _ h), fun Q' h => c _ h⟩
 | cond c x y ihx ihy =>
   intro Q g w h
   simp only [iL] at h ⊢
   unfold lQ at h ⊢
   cases hc : ev g c with
   | bool b =>
     rw [hc] at h
     cases b with
     | true =>
       obtain ⟨e, g', w', a, b, c⟩ := ihx _ _ _ h
       exact ⟨e, g', w', a, b.mono (fun s h => acA _ h), c⟩
     | false =>
       obtain ⟨e, g', w', a, b, c⟩ := ihy _ _ _ h
       exact ⟨e, g', w', a, b.mono (fun s h => acQ _ h), c⟩
   | _ => rw [hc] at h; exact h.elim
 | block id c ih =>
   intro Q g w h
   obtain ⟨e, g', w', a, b, c⟩ := ih _ _ _ h
   cases e with
   | exit i =>
     simp only [Xn] at a
     cases hb : Nat.beq i id with
     | true =>
       simp only [hb] at a
       refine ⟨.normal, g', w', a, b, fun Q' h => c _ ?_⟩
       simp only [Xn, hb]; exact h
     | false =>
       simp only [hb] at a
       refine ⟨.exit i, g', w', a, b, fun Q' h => c _ ?_⟩
       simp only [Xn, hb]; exact h
   | _ => exact ⟨_, g', w', a, b, fun Q' h => c _ h⟩
 | loop c ih =>
   intro Q g w h
   have hmono : ∀ (Q : Exit -> Env -> adV -> Prop) (X Y : Env -> adV -> Prop) g w, (∀ g w, X g w -> Y g w) -> iL P ann c (zA X Q) g w -> iL P ann c (zA Y Q) g w := by
    intro Q X Y g w hxy h
    obtain ⟨e, g', w', a, _, k⟩ := ih _ _ _ h
    refine k _ ?_
    cases e with
    | normal => exact hxy _ _ a
    | _ => exact a
   obtain ⟨I, ⟨n, h0⟩, hI⟩ := h
   have key : ∀ n g w, I n g w -> ∃ e g' w', Q e g' w' /\ mI (J3 c) g g' /\ ∀ Q' : Exit -> Env -> adV -> Prop, Q' e g' w' -> jW (fun X g w => iL P ann c (zA X Q') g w) g w := by
    intro n
    induction n using Nat.strongRecOn with
    | _ n ih2 =>
      intro g w hg
      obtain ⟨e, g1, w1, a, b, k⟩ := ih _ _ _ (hI n g w hg)
      have once : ∀ (Q' : Exit -> Env -> adV -> Prop), (∀ X : Env -> adV -> Prop, iL P ann c (zA X Q') g w) -> jW (fun X g w => iL P ann c (zA X Q') g w) g w := by
       intro Q' h
       refine ⟨fun n g' w' => g' = g /\ w' = w, ⟨0, rfl, rfl⟩, ?_⟩
       rintro _ g' w' ⟨rfl, rfl⟩
       exact h _
      cases e with
      | normal =>
        obtain ⟨m, hm, hIm⟩ := a
        obtain ⟨e2, g2, w2, a2, b2, k2⟩ := ih2 m hm g1 w1 hIm
        refine ⟨e2, g2, w2, a2, b.trans b2 (fun _ h => h) (fun _ h => h), fun Q' h => ?_⟩
        have hl := k2 Q' h
        exact jW.head (hmono Q') (k _ hl) ⟨g1, w1, hl, fun X hx => k _ hx⟩
      | _ => exact ⟨_, g1, w1, a, b, fun Q' h => once Q' fun X => k _ h⟩
   exact key n g w h0
 | exit id => intro Q g w h; exact ⟨_, _, _, h, mI.refl _ _, fun _ h => h⟩
 | label l => intro Q g w h; exact ⟨_, _, _, h, mI.refl _ _, fun _ h => h⟩
 | scope c ih => intro Q g w h; exact ih Q g w h
 | ret => intro Q g w h; exact ⟨_, _, _, h, mI.refl _ _, fun _ h => h⟩
 | rangeFunc gf ps ZP bd => intro Q g w h; exact Yb h
 | _ => intro Q g w h; exact h.elim
theorem BY {c : Code} {Q Q' : Exit -> Env -> adV -> Prop} {g : Env} {w : adV} (h : iL P ann c Q g w)
 (hq : ∀ e g' w', mI (J3 c) g g' -> Q e g' w' -> Q' e g' w') : iL P ann c Q' g w :=
 let ⟨_, _, _, a, b, k⟩ := NR c Q g w h
 k _ (hq _ _ _ b a)
def XR (Q : Exit -> Env -> adV -> Prop) : Exit -> Env -> adV -> Prop
 | .goto _, _, _ => False
 | e, g, w => Q e g w
theorem SB : ∀ (c : Code) (Q : Exit -> Env -> adV -> Prop) (g : Env) (w : adV), iL P ann c Q g w -> iL P ann c (XR Q) g w := by
 intro c
 induction c with
 | skip => intro Q g w h; exact h
 | region id ops draw => intro Q g w h; cases draw <;> exact h
 | seq x y ihx ihy =>
   intro Q g w h
   show iL P ann x (zA (fun g w => iL P ann y (XR Q) g w) (XR Q)) g w
   refine BY (ihx _ _ _ h) (fun e g' w' _ hq => ?_)
   cases e with
   | normal => exact ihy _ _ _ hq
   | goto l => exact hq.elim
   | _ => exact hq
 | cond c x y ihx ihy =>
   intro Q g w h
   simp only [iL] at h ⊢
   unfold lQ at h ⊢
   cases hc : ev g c with
   | bool b =>
     rw [hc] at h
     cases b with
     | true => exact ihx _ _ _ h
     | false => exact ihy _ _ _ h
   | _ => rw [hc] at h; exact h.elim
 | block id c ih =>
   intro Q g w h
   show iL P ann c (Xn id (XR Q)) g w
   refine BY (ih _ _ _ h) (fun e g' w' _ hq => ?_)
   cases e with
   | exit i =>
     simp only [XR, Xn] at hq ⊢
     cases hb : Nat.beq i id with
     | true => rw [hb] at hq; exact hq
     | false => rw [hb] at hq; exact hq
   | goto l => exact hq.elim
   | _ => exact hq
 | loop c ih =>
   intro Q g w h
   obtain ⟨I, h0, hI⟩ := h
   refine ⟨I, h0, fun n g w hi => ?_⟩
   refine BY (ih _ _ _ (hI n g w hi)) (fun e g' w' _ hq => ?_)
   cases e with
   | normal => exact hq
   | goto l => exact hq.elim
   | _ => exact hq
 | exit id => intro Q g w h; exact h
 | label l => intro Q g w h; exact h
 | scope c ih => intro Q g w h; exact ih Q g w h
 | ret => intro Q g w h; exact h
 | rangeFunc gf ps ZP bd =>
   intro Q g w h
   have h : RF P ann.f gf ps ZP bd Q g w := h
   show RF P ann.f gf ps ZP bd (XR Q) g w
   unfold RF at h ⊢
   cases hn : noMark (g DS) with
   | false => rw [hn] at h; exact h.elim
   | true =>
     rw [hn] at h
     simp only at h ⊢
     generalize (xZ (ev g gf) [Dk (w.heap.size + 1)]).run P (U3 ann.f (Mj P ann.f) ps ZP bd g w) = r at *
     match r, h with
     | .ok (.enter f2 args) w1, h =>
       obtain ⟨v, w3, hret, r, h1, h2, h3⟩ := h
       refine ⟨v, w3, hret, r, h1, h2, ?_⟩
       cases hp : r.pending with
       | none => rw [hp] at h3; exact h3
       | some c => rw [hp] at h3; cases c <;> exact h3
 | _ => intro Q g w h; exact h.elim
theorem Oi {N : Nat} {g : Env} {a : Act} (h : Jb N g a) : a.tmps = tmpsOf N g := by
 refine Array.ext (by simp [tmpsOf, h.size]) fun i h1 h2 => ?_
 have hi : i < N := by rw [<- h.size]; exact h1
 have := h.at_ i (acP (acD hi h.le))
 rw [Z2, aaA h1] at this
 simp [tmpsOf] at this ⊢
 exact this
theorem VU {v : adW} (h : noMark v = true) : Rq v = [] := by cases v <;> first | rfl | cases h
theorem MQ {N : Nat} (hm : P.follows .mixedOrders = true) {ro : Option Nat} (hN : Mj P ann.f = N) : ∀ (c : Code), codeOk P N ann c = true -> ro = none ∨ qV c = true →
 ∀ (Q : Exit -> Env -> adV -> Prop) (QA : Exit -> Act -> adV -> Prop) (g : Env) (a : Act) (w : adV), Jb N g a →
   (∀ e g a w, Jb N g a -> Q e g w -> QA e a w) -> iL P ann c Q g w -> Of P ann.f ro c QA a w := by
 intro c
 induction c with
 | skip => intro _ _ Q QA g a w hr hq h; exact Vw (hq _ _ _ _ hr h)
 | region id ops draw =>
   intro hok _ Q QA g a w hr hq h
   simp only [codeOk, Z4, abC, abU] at hok
   have hd := My hok.1.1
   have hca := NW hok.1.2
   cases draw with
   | false =>
     refine Sr ?_
     have := UG hd hca (P := P) (Q := QA .normal) (K := Q .normal) (fun g a w => hq .normal g a w) ops.toList 0 g a w (fun j => by simp) hr h
     rw [List.range_eq_range']
     simpa using this
   | true =>
     rcases hok.2 with h1 | h1
     .cases h1
     .exact Nv hm (Tb hd hca (fun g a w => hq .normal g a w) hr _ [] h1 (by simp) h)
 | seq x y ihx ihy =>
   intro hok hfl Q QA g a w hr hq h
   simp only [codeOk, Z4] at hok
   have hfx : ro = none ∨ qV x = true := hfl.imp id fun h => by simp only [qV, Z4] at h; exact h.1
   have hfy : ro = none ∨ qV y = true := hfl.imp id fun h => by simp only [qV, Z4] at h; exact h.2
   refine WA (ihx hok.1 hfx _ _ g a w hr (fun e g a w hr h => ?_) h)
   cases e with
   | normal => exact ihy hok.2 hfy _ _ g a w hr hq h
   | _ => exact hq _ _ _ _ hr h
 | cond c x y ihx ihy =>
   intro hok hfl Q QA g a w hr hq h
   simp only [codeOk, Z4] at hok
   have hfx : ro = none ∨ qV x = true := hfl.imp id fun h => by simp only [qV, Z4] at h; exact h.1
   have hfy : ro = none ∨ qV y = true := hfl.imp id fun h => by simp only [qV, Z4] at h; exact h.2
   simp only [iL] at h
   unfold lQ at h
   have he := hr.ev c hok.1
   cases hc : ev g c with
   | bool b =>
     rw [hc] at h he
     refine VV he ?_
     cases b with
     | true => exact ihx hok.2.1 hfx _ _ g a w hr hq h
     | false => exact ihy hok.2.2 hfy _ _ g a w hr hq h
   | _ => rw [hc] at h; exact h.elim
 | block id c ih =>
   intro hok hfl Q QA g a w hr hq h
   refine UA (ih hok hfl _ _ g a w hr (fun e g a w hr h => ?_) h)
   cases e with
   | exit i =>
     unfold Exit.inBlock
     simp only [Xn] at h
     by_cases hi : i = id
     .subst hi
      simp only [if_true]
      simp only [Nat.beq_refl] at h
      exact hq _ _ _ _ hr h
     .simp only [hi, if_false]
      have : Nat.beq i id = false := by
       cases hb : Nat.beq i id
       .rfl
       .exact absurd (aaI hb) hi
      simp only [this] at h
      exact hq _ _ _ _ hr h
   | _ => exact hq _ _ _ _ hr h
 | loop c ih =>
   intro hok hfl Q QA g a w hr hq h
   obtain ⟨I, h0, hround⟩ := h
   have hex : ∀ a w, (∃ n g, Jb N g a /\ I n g w) -> ∃ n, (∃ g, Jb N g a /\ I n g w) /\ ∀ m, (∃ g, Jb N g a /\ I m g w) -> n <= m := by
    rintro a w ⟨n, hn⟩
    induction n using Nat.strongRecOn with
    | _ n ih2 =>
      by_cases hx : ∃ m, m < n /\ ∃ g, Jb N g a /\ I m g w
      .obtain ⟨m, hm, h⟩ := hx; exact ih2 m hm h
      .exact ⟨n, hn, fun m hm => Nat.le_of_not_lt fun hlt => hx ⟨m, hlt, hm⟩⟩
   have hdec : ∀ a w, Decidable (∃ n g, Jb N g a /\ I n g w) := fun a w => Classical.propDecidable _
   let μ : Act -> adV -> Nat := fun a w => if hh : ∃ n g, Jb N g a /\ I n g w then Classical.choose (hex a w hh) else 0
   have hμ : ∀ a w n g, Jb N g a -> I n g w -> μ a w <= n /\ ∃ g, Jb N g a /\ I (μ a w) g w := by
    intro a w n g hr hI
    have hh : ∃ n g, Jb N g a /\ I n g w := ⟨n, g, hr, hI⟩
    have e : μ a w = Classical.choose (hex a w hh) := dif_pos hh
    have s := Classical.choose_spec (hex a w hh)
    rw [e]
    exact ⟨s.2 n ⟨g, hr, hI⟩, s.1⟩
   obtain ⟨n0, h0⟩ := h0
   refine VW (fun a w => ∃ n g, Jb N g a /\ I n g w) μ ⟨n0, g, hr, h0⟩ ?_
   rintro a w ⟨n, g, hr, hI⟩
   obtain ⟨_, g', hr', hI'⟩ := hμ a w n g hr hI
   refine ih hok hfl _ _ g' a w hr' (fun e g1 a1 w1 hr1 h => ?_) (hround _ _ _ hI')
   cases e with
   | normal =>
     obtain ⟨m, hm, hIm⟩ := h
     have := hμ a1 w1 m g1 hr1 hIm
     exact ⟨⟨m, g1, hr1, hIm⟩, by omega⟩
   | _ => exact hq _ _ _ _ hr1 h
 | label l => intro _ _ Q QA g a w hr hq h; exact UM (hq _ _ _ _ hr h)
 | scope c ih =>
   intro hok hfl Q QA g a w hr hq h
   refine UR (ih hok hfl (XR Q) _ g a w hr (fun e g a w hr h => ?_) (SB c _ g w h))
   cases e with
   | goto l => exact h.elim
   | _ => exact hq _ _ _ _ hr h
 | exit id => intro _ _ Q QA g a w hr hq h; exact Rx (hq _ _ _ _ hr h)
 | ret => intro _ _ Q QA g a w hr hq h; exact Tv (hq _ _ _ _ hr h)
 | rangeFunc gf ps ZP bd =>
   intro hok hfl Q QA g a w hr hq h
   have hro : ro = none := hfl.resolve_right (by simp [qV])
   subst hro
   have hok : PQ gf = true := hok
   have h : RF P ann.f gf ps ZP bd Q g w := h
   unfold RF at h
   cases hn : noMark (g DS) with
   | false => rw [hn] at h; exact h.elim
   | true =>
     rw [hn] at h
     simp only [hN] at h
     have ed : a.defers = [] := by rw [hr.defers, VU hn]
     have er := run_enterLoop_outer (P := P) (w := w) ann.f a.tmps ps ZP bd
     rw [Oi hr] at er
     have er : (Instr.enterLoop ann.f a.tmps ps ZP bd none).run P w = .ok (w.heap.size + 1, [{ target := .collected w.heap.size, args := #[] }]) (U3 ann.f N ps ZP bd g w) := by rw [Oi hr]; exact er
     generalize U3 ann.f N ps ZP bd g w = w1 at *
     have ee := hr.ev gf hok
     unfold xZ at h
     have hres : resolve a.eval (rangeCall gf (w.heap.size + 1)) 0 = Deferred.ofValue (ev g gf) #[Dk (w.heap.size + 1)] := by
      have : resolve a.eval (rangeCall gf (w.heap.size + 1)) 0 = Deferred.ofValue (a.eval gf) #[Dk (w.heap.size + 1)] := by
       simp only [resolve, List.map_toArray, Z6, List.map_nil]; rfl
      rw [this, ee]
     rw [show ([Dk (w.heap.size + 1)] : List adW).toArray = #[Dk (w.heap.size + 1)] from rfl, <- hres, Sem.run_bind] at h
     cases hv : (resolve a.eval (rangeCall gf (w.heap.size + 1)) 0).run P w1 with
     | halt x wx => rw [hv] at h; exact h.elim
     | ok d wx =>
       have hwx : wx = w1 := by
        rw [hres] at hv
        unfold Deferred.ofValue at hv
        split at hv <;> first | (simp only [Sem.run_pure] at hv; cases hv; rfl) | (simp [stuck] at hv)
       subst hwx
       rw [hv] at h
       simp only [Result.andThen] at h
       cases hi : (invoke d.target d.args).run P wx with
       | halt x w2 => rw [hi] at h; exact h.elim
       | ok nx w2 =>
         rw [hi] at h
         cases nx <;> try (exact h.elim)
         obtain ⟨v, w3, hret, r, h1, h2, h3⟩ := h
         have hrel : ∀ w, Jb N (put g (some DS) (.pointer (some ⟨w, 0, none⟩))) { a with defers := [{ target := .collected w, args := #[] }] ++ a.defers } := fun w => by
          refine ⟨hr.le, ?_, hr.size, fun i hi => ?_⟩
          .rw [GO, if_pos rfl, ed] <;> rfl
          .rw [GO, if_neg hi]; exact hr.at_ i hi
         have key : ∀ (j : Option Code) (w5 : adV), XX Q (put g (some DS) (.pointer (some ⟨w.heap.size, 0, none⟩))) j w5 →
             XJ P ann.f QA { a with defers := [{ target := .collected w.heap.size, args := #[] }] ++ a.defers } w5 j := by
          intro j w5 h
          cases j with
          | none => exact hq _ _ _ _ (hrel _) h
          | some c =>
            cases c <;> first
             | exact h.elim
             | exact Tv (hq _ _ _ _ (hrel _) h)
             | exact Rx (hq _ _ _ _ (hrel _) h)
         exact T9 er hv hi hret (run_endLoop h1 h2) (key _ _ h3)
 | _ => intro hok; simp [codeOk] at hok
def pU (P : Program) : List ResultVar -> Env -> adV -> (List adW -> Prop) -> Prop
 | [], _, _, K => K []
 | .tmp t :: r, g, w, K => pU P r g w fun vs => K (g t :: vs)
 | .cell a t :: r, g, w, K => ∃ v, (do loadVar t (<- asAddr (g a)) : Sem adW).run P w = .ok v w /\ pU P r g w fun vs => K (v :: vs)
def Pd : List adW -> adW
 | [v] => v
 | vs => .tuple vs.toArray
def Y4 (P : Program) (rs : List ResultVar) (R : adW -> adV -> Prop) : Exit -> Env -> adV -> Prop
 | .normal, g, w => pU P rs g w fun vs => R (Pd vs) w
 | .ret, g, w => pU P rs g w fun vs => R (Pd vs) w
 | _, _, _ => False
theorem Rw {N : Nat} {g : Env} {a : Act} {w : adV} (hr : Jb N g a) : ∀ (rs : List ResultVar), rs.all P7 = true -> ∀ (K : List adW -> Prop), pU P rs g w K →
 ∃ vs, K vs /\ (rs.mapM fun | .tmp t => pure (a.tmps.getD t undef) | .cell b t => do loadVar t (<- asAddr (a.tmps.getD b undef)) : Sem (List adW)).run P w = .ok vs w := by
 have ne : ∀ t : Nat, Nat.blt t DS = true -> a.tmps.getD t undef = g t := fun t h => hr.at_ t (acP ((acJ (x := t) (y := DS)) ▸ h))
 intro rs
 induction rs with
 | nil => intro _ K h; exact ⟨[], h, by simp⟩
 | cons r rs ih =>
   intro hok K h
   simp only [List.all_cons, Z4] at hok
   cases r with
   | tmp t =>
     obtain ⟨vs, h1, h2⟩ := ih hok.2 _ h
     refine ⟨_, h1, ?_⟩
     rw [List.mapM_cons]
     rw [pure_bind, Sem.run_bind]
     simp only [h2, Result.andThen, Sem.run_pure, ne t hok.1]
   | cell b t =>
     obtain ⟨v, hv, h⟩ := h
     obtain ⟨vs, h1, h2⟩ := ih hok.2 _ h
     refine ⟨_, h1, ?_⟩
     rw [List.mapM_cons]
     rw [<- ne b hok.1] at hv
     rw [Sem.run_bind]
     simp only [hv, Result.andThen]
     rw [Sem.run_bind]
     simp only [h2, Result.andThen]
     rfl
theorem Ya (vs : Array adW) : (if h : vs.size = 1 then vs[0] else Value.tuple vs) = Pd vs.toList := by
 obtain ⟨l⟩ := vs
 match l with
 | [] => rfl
 | [v] => rfl
 | a :: b :: r => simp [Pd]
theorem Rg {N : Nat} {g : Env} {a : Act} {w : adV} (fn : Func) {rs : List ResultVar} (hok : rs.all P7 = true) (hrs : fn.results = rs.toArray) (hr : Jb N g a) {R : adW -> adV -> Prop}
 (h : pU P rs g w fun vs => R (Pd vs) w) : ∃ v, (results fn a.tmps).run P w = .ok v w /\ R v w := by
 obtain ⟨vs, h1, h2⟩ := Rw hr rs hok _ h
 refine ⟨Pd vs, ?_, h1⟩
 unfold results
 rw [hrs, Array.mapM_eq_mapM_toList, aaT]
 simp only [bind_assoc, map_eq_pure_bind]
 rw [Sem.run_bind]
 refine Eq.trans (congrArg (fun r => Result.andThen r _) h2) ?_
 simp only [Result.andThen]
 simp only [pure_bind, Sem.run_pure, Ya]
def M3 (args : List adW) : Env := fun i => args.getD i undef
def Yc (P : Program) (rs : List ResultVar) (R : adW -> adV -> Prop) : Exit -> Env -> adV -> Prop
 | .normal, g, w => CA (g DS) w fun w => pU P rs g w fun vs => R (Pd vs) w
 | .ret, g, w => CA (g DS) w fun w => pU P rs g w fun vs => R (Pd vs) w
 | _, _, _ => False
theorem RU {g : Env} {w : adV} : ∀ (rs : List ResultVar) (K : List adW -> Prop), pU P rs g w K -> ∃ vs, K vs /\ ∀ K' : List adW -> Prop, K' vs -> pU P rs g w K' := by
 intro rs
 induction rs with
 | nil => intro K h; exact ⟨_, h, fun _ h => h⟩
 | cons r rs ih =>
   intro K h
   cases r with
   | tmp t =>
     obtain ⟨vs, a, b⟩ := ih _ h
     exact ⟨_, a, fun K' h => b _ h⟩
   | cell b t =>
     obtain ⟨v, hv, h⟩ := h
     obtain ⟨vs, a, b⟩ := ih _ h
     exact ⟨_, a, fun K' h => ⟨v, hv, b _ h⟩⟩
theorem Qg {v : adW} {w : adV} {K : adV -> Prop} (h : CA v w K) : ∃ w', K w' /\ ∀ K' : adV -> Prop, K' w' -> CA v w K' := by
 cases v with
 | pointer p =>
   cases p with
   | none => exact ⟨_, h, fun _ h => h⟩
   | some a => exact ⟨_, h.2, fun _ h' => ⟨h.1, h'⟩⟩
 | _ => exact ⟨_, h, fun _ h => h⟩
theorem SV {v : adW} {w : adV} {K K' : adV -> Prop} (h : CA v w K) (hk : ∀ w, K w -> K' w) : CA v w K' :=
 let ⟨w', a, b⟩ := Qg h; b _ (hk w' a)
theorem Q6 {args : List adW} {N i : Nat} (hle : args.length <= N) (hi : N <= i) : M3 args i = undef := by
 unfold M3
 rw [Z5, aaZ (by omega)] <;> rfl
theorem Lb {f : FuncId} {fn : Func} {c : Code} {args : List adW} {w : adV} {rs : List ResultVar} {R : adW -> adV -> Prop} (hm : P.follows .mixedOrders = true) (hAf : ann.f = f)
 (hf : P.funcs[f]? = some fn) (hb : fn.body = some c) (hrs : fn.results = rs.toArray) {N : Nat} (hN : fn.ntmps = N) (hle : args.length <= N)
 (hok : codeOk P N ann c = true) (hro : rs.all P7 = true) (hND : Nat.ble N DS = true) (h : iL P ann c (Yc P rs R) (M3 args) w) : gU P f args.toArray w R := by
 obtain ⟨e, g', w', hq, _, hall⟩ := NR _ _ _ _ h
 have hND := abY hND
 have hNt : Mj P ann.f = N := by unfold Mj; rw [hAf, hf]; exact hN
 have hrv : CA (g' DS) w' fun w => pU P rs g' w fun vs => R (Pd vs) w := by cases e <;> first | exact hq | exact hq.elim
 obtain ⟨w2, hrv2, hsh⟩ := Qg hrv
 obtain ⟨vs, hv, hrest⟩ := RU _ _ hrv2
 refine ⟨Pd vs, w2, ?_, hv⟩
 have hrel : Jb N (M3 args) { tmps := args.toArray ++ Array.replicate (fn.ntmps - args.toArray.size) undef, defers := [] } := by
  refine ⟨hND, by rw [Q6 hle hND] <;> rfl, by simp [hN]; omega, fun i _ => ?_⟩
  simp only [M3, Z2, Z5]
  by_cases hi : i < args.length
  .simp [Array.getElem?_append, hi]
  .simp only [Array.getElem?_append, acB, hi, if_false, Array.getElem?_replicate]
   rw [aaZ (by omega)]
   split <;> rfl
 have key := Qq (P := P) (f := f) hf hb (R := fun v3 w3 => v3 = Pd vs /\ w3 = w2) (args := args.toArray) (w := w)
  (hAf ▸ MQ hm hNt c hok (.inl rfl) (Yc P rs fun v3 w3 => v3 = Pd vs /\ w3 = w2) _ _ _ _ hrel (fun e g a w hr h => ?_) (hall _ ?_))
 .refine Calls.mono key ?_
  rintro e w3 ⟨v, rfl, rfl, rfl⟩
  exact ⟨rfl, rfl⟩
 .have hx : ∀ {w}, (CA (g DS) w fun w => pU P rs g w fun vs' => Pd vs' = Pd vs /\ w = w2) -> ∃ m, a.defers = Rq m /\ CA m w fun w' => ∃ v, (results fn a.tmps).run P w' = .ok v w' /\ (v = Pd vs /\ w' = w2) := by
   intro w h
   exact ⟨_, hr.defers, SV h fun w h => Rg fn hro hrs hr (R := fun v3 w3 => v3 = Pd vs /\ w3 = w2) h⟩
  cases e with
  | normal => exact hx h
  | ret => exact hx h
  | _ => exact h.elim
 .have := hsh (fun w => pU P rs g' w fun vs' => Pd vs' = Pd vs /\ w = w2) (hrest _ ⟨rfl, rfl⟩)
  cases e <;> first | exact this | exact hq.elim
theorem WL {N : Nat} : ∀ (c : Code), codeOk P N ann c = true -> qV c = true -> ∀ s ∈ J3 c, s < N := by
 intro c
 induction c with
 | region id ops draw =>
   intro hok _ s hs
   simp only [codeOk, Z4] at hok
   obtain ⟨o, h1, h2⟩ := Es.1 hs
   obtain ⟨i, hi, rfl⟩ := adA h1
   exact My hok.1.1 i _ (by simp at hi ⊢) s h2
 | seq x y ihx ihy =>
   intro hok hfl s hs
   simp only [codeOk, qV, Z4] at hok hfl
   rcases abN.1 hs with hs | hs
   .exact ihx hok.1 hfl.1 s hs
   .exact ihy hok.2 hfl.2 s hs
 | cond c x y ihx ihy =>
   intro hok hfl s hs
   simp only [codeOk, qV, Z4] at hok hfl
   rcases abN.1 hs with hs | hs
   .exact ihx hok.2.1 hfl.1 s hs
   .exact ihy hok.2.2 hfl.2 s hs
 | block id c ih => intro hok hfl s hs; exact ih hok hfl s hs
 | loop c ih => intro hok hfl s hs; exact ih hok hfl s hs
 | scope c ih => intro hok hfl s hs; exact ih hok hfl s hs
 | rangeFunc => intro _ hfl; simp [qV] at hfl
 | _ => intro _ _ s hs; simp [J3] at hs
theorem Q7 {f : FuncId} {fn : Func} {c : Code} {args : List adW} {w : adV} {rs : List ResultVar} {R : adW -> adV -> Prop} (hm : P.follows .mixedOrders = true) (hAf : ann.f = f)
 (hf : P.funcs[f]? = some fn) (hb : fn.body = some c) (hrs : fn.results = rs.toArray) {N : Nat} (hN : fn.ntmps = N) (hle : args.length <= N)
 (hok : codeOk P N ann c = true) (hro : rs.all P7 = true) (hND : Nat.ble N DS = true) (hfl : qV c = true) (h : iL P ann c (Y4 P rs R) (M3 args) w) : gU P f args.toArray w R := by
 refine Lb hm hAf hf hb hrs hN hle hok hro hND (BY h fun e g' w' ha hq => ?_)
 have hND := abY hND
 have : g' DS = undef := by
  rw [ha DS (fun hd => absurd (WL c hok hfl DS hd) (Nat.not_lt.2 hND)), Q6 hle hND]
 cases e with
 | normal => show CA (g' DS) w' (fun w => pU P rs g' w fun vs => R (Pd vs) w); rw [this]; exact hq
 | ret => show CA (g' DS) w' (fun w => pU P rs g' w fun vs => R (Pd vs) w); rw [this]; exact hq
 | _ => exact hq.elim
def JM (tmps : Array adW) : Env := fun i => tmps.getD i undef
def QW (l : Nat) (R : adW -> adV -> Prop) : Exit -> Env -> adV -> Prop
 | .normal, _, w => ∃ r : Loop, w.heap[l]? = some (.loop r) /\ R (.bool true) (w.putObj l (.loop { r with state := .ready, pending := none }))
 | .ret, _, w => ∃ r : Loop, w.heap[l]? = some (.loop r) /\ R (.bool false) (w.putObj l (.loop { r with state := .done, pending := some .ret }))
 | .exit i, _, w => ∃ r : Loop, w.heap[l]? = some (.loop r) /\ R (.bool false) (w.putObj l (.loop { r with state := .done, pending := some (.exit i) }))
 | _, _, _ => False
def Zj (P : Program) (ann : FA) (l : Nat) (bd : Code) (R : adW -> adV -> Prop) : Exit -> Env -> adV -> Prop
 | .normal, g, w => ∃ r : Loop, w.heap[l]? = some (.loop r) /\ r.state = .ready /\ iL P ann bd (QW l R) g (w.putObj l (.loop { r with state := .busy }))
 | _, _, _ => False
theorem QZ {f : FuncId} {l : Nat} {tmps : Array adW} {ZP bd : Code} {w : adV} {R : adW -> adV -> Prop} (hm : P.follows .mixedOrders = true) (hAf : ann.f = f) {N : Nat} (hN : Mj P f = N) (hND : Nat.ble N DS = true)
 (hsz : tmps.size = N) (hok1 : codeOk P N ann ZP = true) (hf1 : qV ZP = true) (hok2 : codeOk P N ann bd = true) (hf2 : qV bd = true)
 (h : iL P ann ZP (Zj P ann l bd R) (JM tmps) w) : Qk P l f tmps ZP bd w R := by
 subst hAf
 have hND := abY hND
 obtain ⟨e, g1, w1, hq, ha, hall⟩ := NR _ _ _ _ h
 cases e with
 | normal =>
   obtain ⟨r, h1, h2, hd⟩ := hq
   obtain ⟨e2, g2, w2, hq2, ha2, hall2⟩ := NR _ _ _ _ hd
   have hx : ∃ v w4, R v w4 /\ ∀ R' : adW -> adV -> Prop, R' v w4 -> QW l R' e2 g2 w2 := by
    cases e2 with
    | normal => obtain ⟨r2, k1, k2⟩ := hq2; exact ⟨_, _, k2, fun R' h => ⟨r2, k1, h⟩⟩
    | ret => obtain ⟨r2, k1, k2⟩ := hq2; exact ⟨_, _, k2, fun R' h => ⟨r2, k1, h⟩⟩
    | exit i => obtain ⟨r2, k1, k2⟩ := hq2; exact ⟨_, _, k2, fun R' h => ⟨r2, k1, h⟩⟩
    | _ => exact hq2.elim
   obtain ⟨v, w4, hR, hrest⟩ := hx
   refine ⟨v, w4, ?_, hR⟩
   have hrel : Jb N (JM tmps) { tmps := tmps, defers := [] } := by
    refine ⟨hND, ?_, hsz, fun i _ => rfl⟩
    have : JM tmps DS = undef := by unfold JM; rw [Z2, aaL (by omega)] <;> rfl
    rw [this] <;> rfl
   have key : RoundIn Fence.wide 0 P l ann.f tmps ZP bd w fun e w' => ∃ v', e = .returned v' /\ (v' = v /\ w' = w4) := by
    refine Qx (MQ hm hN ZP hok1 (.inr hf1) (fun e g w => e = .normal /\ g = g1 /\ w = w1) _ _ _ _ hrel ?_ (hall _ ⟨rfl, rfl, rfl⟩))
    rintro e g a w hra ⟨rfl, rfl, rfl⟩
    refine ⟨_, run_beginRound h1 h2, MQ hm hN bd hok2 (.inr hf2) (QW l fun v' w' => v' = v /\ w' = w4) _ _ _ _ hra ?_ (hall2 _ (hrest _ ⟨rfl, rfl⟩))⟩
    intro e g a w _ h
    cases e with
    | normal => obtain ⟨r, k1, k2⟩ := h; exact ⟨_, _, run_endRound none k1, k2⟩
    | ret => obtain ⟨r, k1, k2⟩ := h; exact ⟨_, _, run_endRound (some .ret) k1, k2⟩
    | exit i => obtain ⟨r, k1, k2⟩ := h; exact ⟨_, _, run_endRound (some (.exit i)) k1, k2⟩
    | _ => exact h.elim
   refine RoundIn.mono key ?_
   rintro e w' ⟨v', rfl, rfl, rfl⟩
   exact ⟨rfl, rfl⟩
 | _ => exact hq.elim
theorem Pq {f : FuncId} {args : Array adW} {w : adV} {R : adW -> adV -> Prop} (h : gU P f args w R) :
 Calls P f args w fun e w' => ∃ v, e = .returned v /\ R v w' := by
 obtain ⟨v, w', hr, hR⟩ := h
 refine Calls.mono hr ?_
 rintro e w'' ⟨rfl, rfl⟩
 exact ⟨v, rfl, hR⟩
end
def sA : Code -> Code | .seq a _ => a | c => c
def cT : Code -> Code | .cond _ a _ => a | c => c
def cE : Code -> Code | .cond _ _ b => b | c => c
def bI : Code -> Code | .block _ c => c | .loop c => c | .scope c => c | c => c
def iZ (f : Func) : Code := match f.body with | some c => c | none => .skip
def gW : Nat -> Code -> Code
 | 0, c => c
 | 1, c => sA c
 | n + 1, .seq a b => .seq a (gW n b)
 | _, c => c
def fI : Nat -> Code -> Code
 | 0, c => c
 | n + 1, .seq _ b => fI n b
 | _, c => c
def SP : Nat -> Code -> Bool
 | 1, .seq _ _ => true
 | n + 1, .seq _ b => SP n b
 | _, _ => false
def dr (w : adV) : adV := { w with drawn := w.drawn + 1 }
def U0 (P : Program) (t : TypeId) (a : adW) (w : adV) (K : adW -> Prop) : Prop := ∃ v, (do loadVar t (<- asAddr a) : Sem adW).run P w = .ok v w /\ K v
def Zg : List (Nat × (Env -> adV -> Prop)) -> Nat -> Env -> adV -> Prop
 | [], _, _, _ => False
 | (j, k) :: r, i, g, w => match Nat.beq i j with | true => k g w | false => Zg r i g w
def Zt (kn kr : Env -> adV -> Prop) (l : List (Nat × (Env -> adV -> Prop))) : Exit -> Env -> adV -> Prop
 | .normal, g, w => kn g w
 | .ret, g, w => kr g w
 | .exit i, g, w => Zg l i g w
 | _, _, _ => False
def TR (Q : Exit -> Env -> adV -> Prop) : List (Nat × (Env -> adV -> Prop)) -> Prop
 | [] => True
 | (i, k) :: r => (∀ g w, k g w -> Q (.exit i) g w) /\ TR Q r
def lE (c a b : adW) : Sem Next := do pure (.value (if <- asBool c then a else b))
def lR (t : TypeId) : Sem Next := V (Instr.alloc t true (.tuple #[]))
def Eo (t : TypeId) (x : adW) : Sem Next := V (Instr.box t x)
def fW (t : TypeId) (a : adW) : Sem Next := V (Instr.loadAt t a)
def iD (t : TypeId) (a x : adW) : Sem Next := U (Instr.storeAt t a x)
def jB (x : adW) : Sem Next := execOp (fun _ => x) ⟨none, .nilCheck (.tmp 0), 0, default, #[], none⟩
def KP (op : UnOp) (x : adW) : Sem Next := V (Op.unary op x)
def kX (s d : TypeId) (x : adW) : Sem Next := V (convert s d x)
def X5 (t : TypeId) (x : adW) : Sem Next := V (Instr.makeInterface t x)
def MF (t : TypeId) (r : Option adW) : Sem Next := V (Instr.makeMap t r)
def wP (t : TypeId) (l c : adW) : Sem Next := V (Instr.makeSlice t l c)
def lO (t : TypeId) (x : adW) (lo hi mx : Option adW) : Sem Next := V (Instr.sliceAt t x lo hi mx)
def gM (t : TypeId) (x : adW) (f : Nat) : Sem Next := V (Instr.fieldAt t x f)
def iJ (t : TypeId) (x i : adW) : Sem Next := V (Instr.indexAt t x i)
def Ua (t : TypeId) (x i : adW) : Sem Next := V (Instr.index t x i)
def Ak (t : TypeId) (x i : adW) (ok : Bool) : Sem Next := V (Instr.lookup t x i ok)
def Kw (t : TypeId) (m k x : adW) : Sem Next := U (Instr.mapUpdate t m k x)
def Ok (t : TypeId) (x : adW) : Sem Next := V (Instr.range t x)
def SN (it : adW) : Sem Next := V (Instr.entry it)
def Tr (it : adW) (str : Bool) (ty : TypeId) : Sem Next := V (Instr.next it str ty)
def iW (t : adW) (i : Nat) : Sem Next := V (Instr.extract t i)
section
variable {P : Program} {ann : FA}
theorem Yu {Q : Exit -> Env -> adV -> Prop} : ∀ {l : List (Nat × (Env -> adV -> Prop))}, TR Q l -> ∀ {i : Nat} {g : Env} {w : adV}, Zg l i g w -> Q (.exit i) g w := by
 intro l
 induction l with
 | nil => intro _ i g w h; exact h.elim
 | cons p r ih =>
   obtain ⟨j, k⟩ := p
   rintro ⟨h1, h2⟩ i g w h
   simp only [Zg] at h
   cases hb : Nat.beq i j with
   | true =>
     simp only [hb] at h
     obtain rfl := aaI hb
     exact h1 _ _ h
   | false => simp only [hb] at h; exact ih h2 h
theorem WS {c : Code} {kn kr : Env -> adV -> Prop} {l : List (Nat × (Env -> adV -> Prop))} {Q : Exit -> Env -> adV -> Prop} {g : Env} {w : adV} {A : Prop}
 (e : A = iL P ann c (Zt kn kr l) g w) (h : A) (hn : ∀ g w, kn g w -> Q .normal g w) (hr : ∀ g w, kr g w -> Q .ret g w) (hl : TR Q l) : iL P ann c Q g w := by
 rw [e] at h
 refine BY h (fun e g' w' _ hq => ?_)
 cases e with
 | normal => exact hn _ _ hq
 | ret => exact hr _ _ hq
 | exit i => exact Yu hl hq
 | _ => exact hq.elim
theorem Uf {x y z : Code} {Q : Exit -> Env -> adV -> Prop} {g : Env} {w : adV} (h : iL P ann (.seq (.seq x y) z) Q g w) : iL P ann (.seq x (.seq y z)) Q g w := by
 show iL P ann x (zA (fun g w => iL P ann y (zA (fun g w => iL P ann z Q g w) Q) g w) Q) g w
 have h : iL P ann x (zA (fun g w => iL P ann y (zA (fun g w => iL P ann z Q g w) Q) g w) (zA (fun g w => iL P ann z Q g w) Q)) g w := h
 refine BY h (fun e g' w' _ hq => ?_)
 cases e <;> exact hq
theorem gY {K : Env -> adV -> Prop} {Q : Exit -> Env -> adV -> Prop} {g : Env} {w : adV} (h : K g w) : zA K Q .normal g w := h
theorem Uz {Q : Exit -> Env -> adV -> Prop} : ∀ (n : Nat) (c : Code) (g : Env) (w : adV), SP n c = true -> iL P ann (.seq (gW n c) (fI n c)) Q g w -> iL P ann c Q g w := by
 intro n
 induction n with
 | zero => intro c g w h; simp [SP] at h
 | succ n ih =>
   intro c g w h hd
   cases c with
   | seq a b =>
     cases n with
     | zero => exact hd
     | succ n =>
       have hb : SP (n + 1) b = true := by simpa [SP] using h
       have hd' : iL P ann (.seq (.seq a (gW (n + 1) b)) (fI (n + 1) b)) Q g w := hd
       have := Uf hd'
       show iL P ann a (zA (fun g w => iL P ann b Q g w) Q) g w
       have h2 : iL P ann a (zA (fun g w => iL P ann (.seq (gW (n + 1) b) (fI (n + 1) b)) Q g w) Q) g w := this
       refine BY h2 (fun e g' w' _ hq => ?_)
       cases e with
       | normal => exact ih b g' w' hb hq
       | _ => exact hq
   | _ => cases n <;> simp [SP] at h
def XK (id : Nat) : Code -> Bool | .block i _ => Nat.beq i id | _ => false
def Vx : Code -> Bool | .loop _ => true | _ => false
def U6 : Code -> Option Operand | .cond o _ _ => some o | _ => none
theorem WG {Q : Exit -> Env -> adV -> Prop} (id : Nat) (c : Code) (g : Env) (w : adV) (h : XK id c = true) (hd : iL P ann (bI c) (Xn id Q) g w) : iL P ann c Q g w := by
 cases c with
 | block i c =>
   obtain rfl := aaI (show Nat.beq i id = true from h)
   exact hd
 | _ => cases h
def XI : Code -> Bool | .scope _ => true | _ => false
theorem WX {Q : Exit -> Env -> adV -> Prop} (c : Code) (g : Env) (w : adV) (h : XI c = true) (hd : iL P ann (bI c) Q g w) : iL P ann c Q g w := by
 cases c with
 | scope c => exact hd
 | _ => cases h
theorem Xp {Q : Exit -> Env -> adV -> Prop} (o : Operand) (c : Code) (g : Env) (w : adV) (h : U6 c = some o)
 (hd : lQ (ev g o) (iL P ann (cT c) Q g w) (iL P ann (cE c) Q g w)) : iL P ann c Q g w := by
 cases c with
 | cond o' a b => obtain rfl := abG h; exact hd
 | _ => cases h
theorem Wo {v : adW} {A B A' B' : Prop} (ha : A -> A') (hb : B -> B') (h : lQ v A B) : lQ v A' B' := by
 unfold lQ at *
 cases v with
 | bool b => cases b <;> first | exact ha h | exact hb h
 | _ => exact h
theorem Wk {T : Type} (proj : Env -> T) (F : (T -> adV -> Prop) -> T -> adV -> Prop) {c : Code} {Q : Exit -> Env -> adV -> Prop} {g : Env} {w : adV}
 (hF : ∀ (X : T -> adV -> Prop) g' w', mI (J3 c) g g' -> F X (proj g') w' -> iL P ann c (zA (fun g'' w'' => X (proj g'') w'') Q) g' w')
 (h : jW F (proj g) w) : iL P ann (.loop c) Q g w := by
 obtain ⟨I, ⟨n, h0⟩, hI⟩ := h
 refine ⟨fun n g' w' => mI (J3 c) g g' /\ I n (proj g') w', ⟨n, mI.refl _ _, h0⟩, ?_⟩
 rintro n g' w' ⟨ha, hi⟩
 have := hF _ g' w' ha (hI n _ _ hi)
 refine BY this (fun e g2 w2 ha2 hq => ?_)
 cases e with
 | normal =>
   obtain ⟨m, hm, hh⟩ := hq
   exact ⟨m, hm, ha.trans ha2 (fun _ h => h) (fun _ h => h), hh⟩
 | _ => exact hq
theorem UT {T : Type} (proj : Env -> T) (F : (T -> adV -> Prop) -> T -> adV -> Prop) (c : Code) {Q : Exit -> Env -> adV -> Prop} {g : Env} {w : adV} (hl : Vx c = true)
 (h : jW F (proj g) w)
 (hF : ∀ (X : T -> adV -> Prop) g' w', mI (J3 (bI c)) g g' -> F X (proj g') w' -> iL P ann (bI c) (zA (fun g'' w'' => X (proj g'') w'') Q) g' w') : iL P ann c Q g w := by
 cases c with
 | loop c => exact Wk proj F hF h
 | _ => cases hl
theorem SL {l : List Nat} {s : Nat} (hs : pF s l = false) : s ∉ l := by
 induction l with
 | nil => simp
 | cons a r ih =>
   unfold pF at hs
   cases hb : Nat.beq a s with
   | true => simp only [hb] at hs; cases hs
   | false =>
     simp only [hb] at hs
     intro hm
     rcases aaR.1 hm with e | hm
     .subst e; simp at hb
     .exact ih hs hm
theorem V1 {l : List Nat} {g g' : Env} (h : mI l g g') {s : Nat} (hs : pF s l = false) : g' s = g s := h s (SL hs)
def Kc (id : Nat) : Code -> Array Oper
 | .region i ops _ => match Nat.beq i id with | true => ops | false => #[]
 | .seq a b => match (Kc id a).size with | 0 => Kc id b | _ + 1 => Kc id a
 | .cond _ a b => match (Kc id a).size with | 0 => Kc id b | _ + 1 => Kc id a
 | .block _ c => Kc id c
 | .loop c => Kc id c
 | .scope c => Kc id c
 | _ => #[]
theorem Wg {b : Bool} {A B : Prop} (ha : A) (hb : B) : Ord b A B := by cases b <;> assumption
theorem jW.rule {α : Type} {F : (α -> adV -> Prop) -> α -> adV -> Prop} (I : Nat -> α -> adV -> Prop) {g : α} {w : adV} (n : Nat) (h0 : I n g w)
 (hr : ∀ n g w, I n g w -> F (fun g' w' => ∃ m, m < n /\ I m g' w') g w) : jW F g w := ⟨I, ⟨n, h0⟩, hr⟩
theorem eQ (A B : Prop) : lQ (.bool true) A B = A := Eq.trans rfl rfl
theorem eH (A B : Prop) : lQ (.bool false) A B = B := Eq.trans rfl rfl
theorem eZ (s : (adW -> adV -> Prop) -> Prop) (w : adV) (K : adW -> adV -> Prop) : Gd true s w K = s K := Eq.trans rfl rfl
theorem eX (s : (adW -> adV -> Prop) -> Prop) (w : adV) (K : adW -> adV -> Prop) : Gd false s w K = K undef w := Eq.trans rfl rfl
theorem fB (p : Prop) : Gs true p = p := Eq.trans rfl rfl
theorem eT (p : Prop) : Gs false p = True := Eq.trans rfl rfl
theorem fE : kP (.bool true) true = true := Eq.trans rfl rfl
theorem fH : kP (.bool true) false = false := Eq.trans rfl rfl
theorem fF : kP (.bool false) true = false := Eq.trans rfl rfl
theorem fD : kP (.bool false) false = true := Eq.trans rfl rfl
def gZ : Operand := .tmp 0
theorem kW {c : Code} {kn kr : Env -> adV -> Prop} {l : List (Nat × (Env -> adV -> Prop))} {Q : Exit -> Env -> adV -> Prop} {g : Env} {w : adV} {A : Prop}
 (h : A) (hn : ∀ g w, kn g w -> Q .normal g w) (hr : ∀ g w, kr g w -> Q .ret g w) (hl : TR Q l) (e : A = iL P ann c (Zt kn kr l) g w := by kernel_rfl) : iL P ann c Q g w := WS e h hn hr hl
theorem rV {Q : Exit -> Env -> adV -> Prop} (n : Nat) {c : Code} {g : Env} {w : adV}
 (hd : iL P ann (gW n c) (zA (fun g w => iL P ann (fI n c) Q g w) Q) g w) (h : SP n c = true := by kernel_rfl) : iL P ann c Q g w := Uz n c g w h hd
theorem MJ {Q : Exit -> Env -> adV -> Prop} (id : Nat) {c : Code} {g : Env} {w : adV} (hd : iL P ann (bI c) (Xn id Q) g w) (h : XK id c = true := by kernel_rfl) : iL P ann c Q g w := WG id c g w h hd
theorem ZL {Q : Exit -> Env -> adV -> Prop} {c : Code} {g : Env} {w : adV} (hd : iL P ann (bI c) Q g w) (h : XI c = true := by kernel_rfl) : iL P ann c Q g w := WX c g w h hd
theorem ZI {Q : Exit -> Env -> adV -> Prop} (o : Operand) {c : Code} {g : Env} {w : adV} {A B : Prop} (ha : A -> iL P ann (cT c) Q g w) (hb : B -> iL P ann (cE c) Q g w) (hd : lQ (ev g o) A B) (h : U6 c = some o := by kernel_rfl) : iL P ann c Q g w :=
 Xp o c g w h (Wo ha hb hd)
theorem Pb {T : Type} (proj : Env -> T) (F : (T -> adV -> Prop) -> T -> adV -> Prop) {c : Code} {Q : Exit -> Env -> adV -> Prop} {g : Env} {w : adV}
 (h : jW F (proj g) w)
 (hF : ∀ (X : T -> adV -> Prop) g' w', mI (J3 (bI c)) g g' -> F X (proj g') w' -> iL P ann (bI c) (zA (fun g'' w'' => X (proj g'') w'') Q) g' w') (hl : Vx c = true := by kernel_rfl) : iL P ann c Q g w := UT proj F c hl h hF
theorem qQ {l : List Nat} {g g' : Env} (s : Nat) (h : mI l g g') (hs : pF s l = false := by kernel_rfl) : g' s = g s := V1 h hs
theorem xA {ann : FA} (fn : Func) (c : Code) (args : List adW) (rs : List ResultVar) (N : Nat) {f : FuncId} {w : adV} {R : adW -> adV -> Prop} (hm : P.follows .mixedOrders = true)
 (hf : P.funcs[f]? = some fn) (h : iL P ann c (Y4 P rs R) (M3 args) w) (hAf : ann.f = f := by kernel_rfl) (hb : fn.body = some c := by kernel_rfl) (hrs : fn.results = rs.toArray := by kernel_rfl) (hN : fn.ntmps = N := by kernel_rfl) (hle : Nat.ble args.length N = true := by kernel_rfl)
 (hok : codeOk P N ann c = true := by kernel_rfl) (hro : rs.all P7 = true := by kernel_rfl) (hND : Nat.ble N DS = true := by kernel_rfl) (hfl : qV c = true := by kernel_rfl) : gU P f args.toArray w R :=
 Q7 hm hAf hf hb hrs hN (abY hle) hok hro hND hfl h
def Pk : Code -> Option (Operand × Array Tmp × Code × Code)
 | .rangeFunc g ps ZP bd => some (g, ps, ZP, bd)
 | .seq a b => (match Pk a with | some r => some r | none => Pk b)
 | .cond _ a b => (match Pk a with | some r => some r | none => Pk b)
 | .block _ c => Pk c
 | .loop c => Pk c
 | .scope c => Pk c
 | _ => none
def Wq (c : Code) : Array Tmp := match Pk c with | some (_, ps, _) => ps | none => #[]
def UH (c : Code) : Code := match Pk c with | some (_, _, ZP, _) => ZP | none => .skip
def Tg (c : Code) : Code := match Pk c with | some (_, _, _, bd) => bd | none => .skip
def Zr (l : Nat) (w : adV) (K : adV -> Prop) : Prop := ∃ r : Loop, w.heap[l]? = some (.loop r) /\ r.state = .ready /\ K (w.putObj l (.loop { r with state := .busy }))
def ZD : Option Code -> LoopState
 | none => .ready
 | some _ => .done
def R6 (l : Nat) (j : Option Code) (R : adW -> adV -> Prop) (w : adV) : Prop :=
 ∃ r : Loop, w.heap[l]? = some (.loop r) /\ R (.bool j.isNone) (w.putObj l (.loop { r with state := ZD j, pending := j }))
theorem ZO {ann : FA} (fn : Func) (c : Code) (args : List adW) (rs : List ResultVar) (N : Nat) {f : FuncId} {w : adV} {R : adW -> adV -> Prop} (hm : P.follows .mixedOrders = true)
 (hf : P.funcs[f]? = some fn) (h : iL P ann c (Yc P rs R) (M3 args) w) (hAf : ann.f = f := by kernel_rfl) (hb : fn.body = some c := by kernel_rfl) (hrs : fn.results = rs.toArray := by kernel_rfl) (hN : fn.ntmps = N := by kernel_rfl) (hle : Nat.ble args.length N = true := by kernel_rfl)
 (hok : codeOk P N ann c = true := by kernel_rfl) (hro : rs.all P7 = true := by kernel_rfl) (hND : Nat.ble N DS = true := by kernel_rfl) : gU P f args.toArray w R :=
 Lb hm hAf hf hb hrs hN (abY hle) hok hro hND h
theorem ZN {ann : FA} (N : Nat) {f : FuncId} {l : Nat} {tmps : Array adW} {ZP bd : Code} {w : adV} {R : adW -> adV -> Prop} (hm : P.follows .mixedOrders = true) (hsz : tmps.size = N)
 (h : iL P ann ZP (Zj P ann l bd R) (JM tmps) w) (hN : Mj P f = N) (hok1 : codeOk P N ann ZP = true) (hok2 : codeOk P N ann bd = true) (hAf : ann.f = f := by kernel_rfl) (hND : Nat.ble N DS = true := by kernel_rfl)
 (hf1 : qV ZP = true := by kernel_rfl) (hf2 : qV bd = true := by kernel_rfl) : Qk P l f tmps ZP bd w R :=
 QZ hm hAf hN hND hsz hok1 hf1 hok2 hf2 h
end
end Go.En
namespace Go.Proofs.YteelnmpbnaohpaaDoor
open Go Go.En
noncomputable abbrev pg : Program := Tryd.prog
theorem TrydM.mixed : pg.follows .mixedOrders = true := Tryd.checked.mixed
abbrev K0 := adV -> Prop
abbrev K1 := adW -> K0
abbrev K2 := adW -> K1
abbrev K3 := adW -> K2
abbrev K4 := adW -> K3
abbrev K5 := adW -> K4
abbrev K6 := adW -> K5
abbrev K7 := adW -> K6
abbrev K8 := adW -> K7
abbrev K9 := adW -> K8
abbrev SK := adW -> K9
abbrev ZA := adW -> SK
abbrev HR (rs : List ResultVar) (R : K1) (Q : Exit -> Env -> adV -> Prop) : Prop := ∀ g w, (pU pg rs g w fun vs => R (Pd vs) w) -> Q .ret g w
abbrev ZE (rs : List ResultVar) (R : K1) (Q : Exit -> Env -> adV -> Prop) : Prop := ∀ g w, (CA (g DS) w fun w => pU pg rs g w fun vs => R (Pd vs) w) -> Q .ret g w
abbrev no : Env -> adV -> Prop := fun _ _ => False
theorem lX {Q : Env -> adV -> Prop} : ∀ g w, no g w -> Q g w := fun _ _ h => h.elim
abbrev yC : FuncId := 3
abbrev Bu : FuncId := 7
abbrev BG : FuncId := 8
abbrev Bl : FuncId := 9
abbrev rK : FuncId := 10
abbrev jF : FuncId := 11
abbrev kL : FuncId := 12
abbrev lG : FuncId := 13
abbrev lA : FuncId := 14
abbrev mG : FuncId := 15
abbrev lM : FuncId := 16
abbrev rQ : FuncId := 17
abbrev wX : FuncId := 18
abbrev jN : FuncId := 19
abbrev mE : FuncId := 20
abbrev rY : FuncId := 23
abbrev pN : FuncId := 24
abbrev qA : FuncId := 25
abbrev mQ : FuncId := 26
abbrev lU : FuncId := 27
abbrev yW : FuncId := 28
abbrev nD : FuncId := 29
abbrev pP : FuncId := 30
abbrev nU : FuncId := 31
abbrev wV : FuncId := 32
abbrev oA : FuncId := 33
abbrev nZ : FuncId := 34
abbrev nC : FuncId := 35
abbrev mC : FuncId := 36
abbrev rL : FuncId := 37
abbrev nE : FuncId := 38
abbrev kM : FuncId := 39
abbrev A5 : FuncId := 40
abbrev tD : FuncId := 41
abbrev oN : FuncId := 42
abbrev oH : FuncId := 43
abbrev IJ : FuncId := 44
abbrev pI : FuncId := 45
abbrev Ai : FuncId := 46
abbrev xB : FuncId := 47
abbrev rH : FuncId := 48
abbrev kS : FuncId := 49
abbrev Bv : FuncId := 50
abbrev rJ : FuncId := 51
abbrev zX : FuncId := 52
abbrev JE : FuncId := 53
abbrev lW : FuncId := 54
abbrev AF : FuncId := 55
abbrev QP : FuncId := 56
abbrev wK : FuncId := 57
abbrev wO : FuncId := 58
abbrev rI : FuncId := 59
abbrev mB : FuncId := 60
abbrev qB : FuncId := 61
abbrev rM : FuncId := 62
abbrev lH : FuncId := 63
abbrev Le : FuncId := 64
abbrev nY : FuncId := 65
abbrev vQ : FuncId := 66
abbrev mD : FuncId := 67
abbrev pL : FuncId := 68
abbrev Mt : FuncId := 69
abbrev A6 : FuncId := 70
abbrev Dd : FuncId := 71
abbrev D4 : FuncId := 72
abbrev Am : FuncId := 73
abbrev jL : FuncId := 74
abbrev N0 (Q : Exit -> Env -> adV -> Prop) (k : K0) : Prop := ∀ g w, k w -> Q .normal g w
abbrev E0 (Q : Exit -> Env -> adV -> Prop) (k : K0) (x0 : Nat) : Prop := ∀ g w, k w -> Q (.exit x0) g w
abbrev N1 (Q : Exit -> Env -> adV -> Prop) (k : K1) (a_ : Nat) : Prop := ∀ g w, k (g a_) w -> Q .normal g w
abbrev E1 (Q : Exit -> Env -> adV -> Prop) (k : K1) (x0 : Nat) (a_ : Nat) : Prop := ∀ g w, k (g a_) w -> Q (.exit x0) g w
abbrev N2 (Q : Exit -> Env -> adV -> Prop) (k : K2) (a_ b_ : Nat) : Prop := ∀ g w, k (g a_) (g b_) w -> Q .normal g w
abbrev E2 (Q : Exit -> Env -> adV -> Prop) (k : K2) (x0 : Nat) (a_ b_ : Nat) : Prop := ∀ g w, k (g a_) (g b_) w -> Q (.exit x0) g w
abbrev N3 (Q : Exit -> Env -> adV -> Prop) (k : K3) (a_ b_ c_ : Nat) : Prop := ∀ g w, k (g a_) (g b_) (g c_) w -> Q .normal g w
abbrev E3 (Q : Exit -> Env -> adV -> Prop) (k : K3) (x0 : Nat) (a_ b_ c_ : Nat) : Prop := ∀ g w, k (g a_) (g b_) (g c_) w -> Q (.exit x0) g w
abbrev N4 (Q : Exit -> Env -> adV -> Prop) (k : K4) (a_ b_ c_ d_ : Nat) : Prop := ∀ g w, k (g a_) (g b_) (g c_) (g d_) w -> Q .normal g w
abbrev E4 (Q : Exit -> Env -> adV -> Prop) (k : K4) (x0 : Nat) (a_ b_ c_ d_ : Nat) : Prop := ∀ g w, k (g a_) (g b_) (g c_) (g d_) w -> Q (.exit x0) g w
abbrev N5 (Q : Exit -> Env -> adV -> Prop) (k : K5) (a_ b_ c_ d_ e_ : Nat) : Prop := ∀ g w, k (g a_) (g b_) (g c_) (g d_) (g e_) w -> Q .normal g w
abbrev N6 (Q : Exit -> Env -> adV -> Prop) (k : K6) (a_ b_ c_ d_ e_ f_ : Nat) : Prop := ∀ g w, k (g a_) (g b_) (g c_) (g d_) (g e_) (g f_) w -> Q .normal g w
abbrev E6 (Q : Exit -> Env -> adV -> Prop) (k : K6) (x0 : Nat) (a_ b_ c_ d_ e_ f_ : Nat) : Prop := ∀ g w, k (g a_) (g b_) (g c_) (g d_) (g e_) (g f_) w -> Q (.exit x0) g w
abbrev N7 (Q : Exit -> Env -> adV -> Prop) (k : K7) (a_ b_ c_ d_ e_ f_ g_ : Nat) : Prop := ∀ g w, k (g a_) (g b_) (g c_) (g d_) (g e_) (g f_) (g g_) w -> Q .normal g w
abbrev N8 (Q : Exit -> Env -> adV -> Prop) (k : K8) (a_ b_ c_ d_ e_ f_ g_ h_ : Nat) : Prop := ∀ g w, k (g a_) (g b_) (g c_) (g d_) (g e_) (g f_) (g g_) (g h_) w -> Q .normal g w
abbrev E8 (Q : Exit -> Env -> adV -> Prop) (k : K8) (x0 : Nat) (a_ b_ c_ d_ e_ f_ g_ h_ : Nat) : Prop := ∀ g w, k (g a_) (g b_) (g c_) (g d_) (g e_) (g f_) (g g_) (g h_) w -> Q (.exit x0) g w
abbrev N9 (Q : Exit -> Env -> adV -> Prop) (k : K9) (a_ b_ c_ d_ e_ f_ g_ h_ i_ : Nat) : Prop := ∀ g w, k (g a_) (g b_) (g c_) (g d_) (g e_) (g f_) (g g_) (g h_) (g i_) w -> Q .normal g w
abbrev N10 (Q : Exit -> Env -> adV -> Prop) (k : SK) (a_ b_ c_ d_ e_ f_ g_ h_ i_ j_ : Nat) : Prop := ∀ g w, k (g a_) (g b_) (g c_) (g d_) (g e_) (g f_) (g g_) (g h_) (g i_) (g j_) w -> Q .normal g w
abbrev N11 (Q : Exit -> Env -> adV -> Prop) (k : ZA) (a_ b_ c_ d_ e_ f_ g_ h_ i_ j_ k_ : Nat) : Prop := ∀ g w, k (g a_) (g b_) (g c_) (g d_) (g e_) (g f_) (g g_) (g h_) (g i_) (g j_) (g k_) w -> Q .normal g w
abbrev adX (n_ : Int) : adW := .int .i64 n_
end Go.Proofs.YteelnmpbnaohpaaDoor
namespace Go.Proofs.YteelnmpbnaohpaaDoor
open Go Go.En
set_option maxRecDepth 20000
attribute [local irreducible] Go.En.iL
variable (Q : Exit -> Env -> adV -> Prop) (g : Env) (w : adV)
def gV : FA := ⟨yC, fun i => .leaf ([], []) []⟩
def iG : List ResultVar := [.tmp 6]
noncomputable def gT : Code := iZ Tryd.f3
def qF (R : K1) (gQ kU iK iI : adW) (w : adV) : Prop :=
 gU pg kL #[iI] w fun s9 w =>
 gU pg lG #[iK, (.string ⟨#[102]⟩)] w fun u2 w =>
 eY pg (iW u2 0) w fun u3 w =>
 eY pg (iW u2 1) w fun u4 w =>
 eY pg (fW 28 kU) w fun u7 w =>
 gU pg rK #[iK, (.string ⟨#[102]⟩), u7] w fun u8 w =>
 eY pg (iW u8 0) w fun u9 w =>
 eY pg (iW u8 1) w fun v0 w =>
 eY pg (gO .eql 29 (.tmp 151) (.const (adX 0)) s9 (adX 0)) w fun v2 w =>
 Gd (kP v2 true) (fun K => K u4 w) w fun v4 w =>
 Gd (kP v2 true) (fun K => eY pg (gO .eql 29 (.tmp 154) (.const (adX 0)) v4 (adX 0)) w K) w fun v5 w =>
 eY pg (lE v2 v5 (.bool false)) w fun v6 w =>
 Gd (kP v6 true) (fun K => K u3 w) w fun v8 w =>
 Gd (kP v6 true) (fun K => eY pg (kX 22 9 v8) w K) w fun v9 w =>
 Gd (kP v6 true) (fun K => K gQ w) w fun x0 w =>
 Gd (kP v6 true) (fun K => eY pg (kX 22 9 x0) w K) w fun x1 w =>
 Gd (kP v6 true) (fun K => eY pg (gO .eql 9 (.tmp 159) (.tmp 161) v9 x1) w K) w fun x2 w =>
 eY pg (lE v6 x2 (.bool false)) w fun x3 w =>
 Gd (kP x3 true) (fun K => K iI w) w fun x5 w =>
 Gd (kP x3 true) (fun K => gU pg lA #[x5] w K) w fun x6 w =>
 eY pg (lE x3 x6 (.bool false)) w fun x7 w =>
 Gd (kP x7 true) (fun K => K v0 w) w fun x9 w =>
 Gd (kP x7 true) (fun K => eY pg (gO .eql 29 (.tmp 169) (.const (adX 0)) x9 (adX 0)) w K) w fun y0 w =>
 eY pg (lE x7 y0 (.bool false)) w fun y1 w =>
 Gd (kP y1 true) (fun K => K u9 w) w fun y3 w =>
 Gd (kP y1 true) (fun K => gU pg lA #[y3] w K) w fun y4 w =>
 eY pg (lE y1 y4 (.bool false)) w fun y5 w =>
 Gd (kP y5 true) (fun K => K u9 w) w fun y7 w =>
 Gd (kP y5 true) (fun K => gU pg mG #[y7] w K) w fun y8 w =>
 Gd (kP y5 true) (fun K => eY pg (gO .eql 24 (.tmp 178) (.const (.int .u64 2)) y8 (.int .u64 2)) w K) w fun y9 w =>
 eY pg (lE y5 y9 (.bool false)) w fun z0 w =>
 Gd (kP z0 true) (fun K => K u9 w) w fun z2 w =>
 Gd (kP z0 true) (fun K => gU pg kL #[z2] w K) w fun z3 w =>
 Gd (kP z0 true) (fun K => eY pg (gO .eql 29 (.tmp 183) (.const (adX 0)) z3 (adX 0)) w K) w fun z4 w =>
 eY pg (lE z0 z4 (.bool false)) w fun z5 w =>
 R z5 w
theorem Hg (R : K1) (hr : HR iG R Q) (h : qF R (g 0) (g 9) (g 11) (g 13) w) : iL pg gV (fI 1 (fI 1 (fI 10 gT))) Q g w :=
 kW (kn := no) (l := []) h lX hr trivial
def oB (kn : K7) (gQ kY kU iK iI iV nV : adW) (w : adV) : Prop :=
 eY pg (gO .add 3 gZ gZ nV (adX 1)) w fun p7 w =>
 kn gQ kY kU iK iI iV p7 w
theorem G7 (kn : K7) (hn : N7 Q kn 0 8 9 11 13 15 20) (h : oB kn (g 0) (g 8) (g 9) (g 11) (g 13) (g 15) (g 20) w) : iL pg gV (fI 1 (fI 1 (bI (bI (fI 1 (gW 1 (fI 1 (fI 10 gT)))))))) Q g w :=
 kW (kr := no) (l := []) h hn lX trivial
def nT (kn : K7) (R : K1) (gQ kY kU iK iI iV nV d1 : adW) (w : adV) : Prop :=
 eY pg (gO .mul 3 gZ gZ kY nV) w fun s3 w =>
 eY pg (lO 22 gQ (some s3) (some d1) none) w fun s5 w =>
 gU pg jF #[iI, nV, s5] w fun s6 w =>
 eY pg (gO .neq 29 (.tmp 136) (.const (adX 0)) s6 (adX 0)) w fun s7 w =>
 lQ s7
  (R (.bool false) w)
  (kn gQ kY kU iK iI iV nV w)
theorem He (kn : K7) (R : K1) (hn : N7 Q kn 0 8 9 11 13 15 20) (hr : HR iG R Q) (h : nT kn R (g 0) (g 8) (g 9) (g 11) (g 13) (g 15) (g 20) (g 21) w) : iL pg gV (fI 2 (bI (gW 1 (fI 1 (bI (bI (fI 1 (gW 1 (fI 1 (fI 10 gT)))))))))) Q g w :=
 kW (l := []) h hn hr trivial
def wD (kn : K8) (gQ kY kU iK iI iV nV : adW) (w : adV) : Prop :=
 eY pg (gO .add 3 gZ gZ nV (adX 1)) w fun q0 w =>
 eY pg (gO .mul 3 gZ gZ kY q0) w fun q1 w =>
 eY pg (nG .len #[22] 3 [gQ]) w fun q4 w =>
 eY pg (gO .gtr 3 gZ gZ q1 q4) w fun q5 w =>
 lQ q5
  (eY pg (nG .len #[22] 3 [gQ]) w fun q7 w =>
  kn gQ kY kU iK iI iV nV q7 w)
  (kn gQ kY kU iK iI iV nV q1 w)
theorem HA (kn : K8) (hn : N8 Q kn 0 8 9 11 13 15 20 21) (h : wD kn (g 0) (g 8) (g 9) (g 11) (g 13) (g 15) (g 20) w) : iL pg gV (gW 2 (bI (gW 1 (fI 1 (bI (bI (fI 1 (gW 1 (fI 1 (fI 10 gT)))))))))) Q g w :=
 kW (kr := no) (l := []) h hn lX trivial
def CJ (kn : K7) (R : K1) (gQ kY kU iK iI iV nV : adW) (w : adV) : Prop :=
 wD (fun gQ kY kU iK iI iV nV d1 w => nT kn R gQ kY kU iK iI iV nV d1 w) gQ kY kU iK iI iV nV w
def wC (kn : K7) (R : K1) (gQ kY kU iK iI iV nV : adW) (w : adV) : Prop :=
 CJ kn R gQ kY kU iK iI iV nV w
def wN (kn : K7) (R : K1) (gQ kY kU iK iI iV nV : adW) (w : adV) : Prop :=
 wC (fun gQ kY kU iK iI iV nV w => oB kn gQ kY kU iK iI iV nV w) R gQ kY kU iK iI iV nV w
theorem Hs (kn : K7) (R : K1) (hn : N7 Q kn 0 8 9 11 13 15 20) (hr : HR iG R Q) (h : wC kn R (g 0) (g 8) (g 9) (g 11) (g 13) (g 15) (g 20) w) : iL pg gV (gW 1 (fI 1 (bI (bI (fI 1 (gW 1 (fI 1 (fI 10 gT)))))))) Q g w :=
 MJ 5 (rV 2 (HA _ g w (nT kn R) (fun g w h => gY (He _ g w kn R hn hr h)) h))
def wI (kn : K7) (k4 : K4) (gQ kY kU iK iI iV nV : adW) (w : adV) : Prop :=
 eY pg (gO .lss 3 gZ gZ nV iV) w fun p5 w =>
 lQ p5
  (kn gQ kY kU iK iI iV nV w)
  (k4 gQ kU iK iI w)
theorem GY (kn : K7) (k4 : K4) (hn : N7 Q kn 0 8 9 11 13 15 20) (h4 : E4 Q k4 4 0 9 11 13) (h : wI kn k4 (g 0) (g 8) (g 9) (g 11) (g 13) (g 15) (g 20) w) : iL pg gV (gW 1 (bI (bI (fI 1 (gW 1 (fI 1 (fI 10 gT))))))) Q g w :=
 kW (kr := no) (l := [(4, fun g w => k4 (g 0) (g 9) (g 11) (g 13) w)]) h hn lX ⟨h4, trivial⟩
def qH (kn : K7) (k4 : K4) (R : K1) (gQ kY kU iK iI iV nV : adW) (w : adV) : Prop :=
 wI (fun gQ kY kU iK iI iV nV w => wN kn R gQ kY kU iK iI iV nV w) k4 gQ kY kU iK iI iV nV w
def tO (k4 : K4) (R : K1) (gQ kY kU iK iI iV nV : adW) (w : adV) : Prop :=
 jW (fun (X : adW -> K0) (t : adW) (w : adV) => qH (fun _ _ _ _ _ _ nV w => X nV w) k4 R gQ kY kU iK iI iV t w) nV w
theorem GU (kn : K7) (k4 : K4) (R : K1) (hn : N7 Q kn 0 8 9 11 13 15 20) (h4 : E4 Q k4 4 0 9 11 13) (hr : HR iG R Q) (h : qH kn k4 R (g 0) (g 8) (g 9) (g 11) (g 13) (g 15) (g 20) w) : iL pg gV (bI (bI (fI 1 (gW 1 (fI 1 (fI 10 gT)))))) Q g w :=
 rV 1 (GY _ g w (wN kn R) k4 (fun g w h => gY (rV 1 (Hs _ g w (oB kn) R (fun g w h => gY (G7 _ g w kn hn h)) hr h))) h4 h)
theorem Gr (k4 : K4) (R : K1) (h4 : E4 Q k4 4 0 9 11 13) (hr : HR iG R Q) (h : tO k4 R (g 0) (g 8) (g 9) (g 11) (g 13) (g 15) (g 20) w) : iL pg gV (bI (fI 1 (gW 1 (fI 1 (fI 10 gT))))) Q g w := by
 refine Pb (fun g : Env => g 20) (fun X t w => qH (fun _ _ _ _ _ _ nV w => X nV w) k4 R (g 0) (g 8) (g 9) (g 11) (g 13) (g 15) t w) h (fun X g1 w1 ha hL => ?_)
 rw [<- qQ 0 ha, <- qQ 8 ha, <- qQ 9 ha, <- qQ 11 ha, <- qQ 13 ha, <- qQ 15 ha] at hL
 exact (GU _ g1 w1 (fun _ _ _ _ _ _ nV w => X nV w) k4 R (fun _ _ h => h) h4 hr hL)
def tX (kn : K4) (R : K1) (gQ kY kU iK iI iV nV : adW) (w : adV) : Prop :=
 tO kn R gQ kY kU iK iI iV nV w
def vH (kn : K7) (gQ kY kU iK iI iV : adW) (w : adV) : Prop :=
 kn gQ kY kU iK iI iV (adX 0) w
theorem Gj (kn : K7) (hn : N7 Q kn 0 8 9 11 13 15 20) (h : vH kn (g 0) (g 8) (g 9) (g 11) (g 13) (g 15) w) : iL pg gV (gW 1 (gW 1 (fI 1 (fI 10 gT)))) Q g w :=
 kW (kr := no) (l := []) h hn lX trivial
def uX (kn : K4) (R : K1) (gQ kY kU iK iI iV : adW) (w : adV) : Prop :=
 vH (fun gQ kY kU iK iI iV nV w => tX kn R gQ kY kU iK iI iV nV w) gQ kY kU iK iI iV w
def vI (R : K1) (gQ kY kU iK iI iV : adW) (w : adV) : Prop :=
 uX (fun gQ kU iK iI w => qF R gQ kU iK iI w) R gQ kY kU iK iI iV w
theorem Gp (kn : K4) (R : K1) (hn : N4 Q kn 0 9 11 13) (hr : HR iG R Q) (h : uX kn R (g 0) (g 8) (g 9) (g 11) (g 13) (g 15) w) : iL pg gV (gW 1 (fI 1 (fI 10 gT))) Q g w :=
 rV 1 (Gj _ g w (tX kn R) (fun g w h => gY (MJ 4 (Gr _ g w kn R hn hr h))) h)
def nB (kn : K8) (gQ b2 kY kU iK iI iV jQ : adW) (w : adV) : Prop :=
 eY pg (gO .add 3 gZ gZ jQ (adX 1)) w fun j9 w =>
 kn gQ b2 kY kU iK iI iV j9 w
theorem F2 (kn : K8) (hn : N8 Q kn 0 2 8 9 11 13 15 16) (h : nB kn (g 0) (g 2) (g 8) (g 9) (g 11) (g 13) (g 15) (g 16) w) : iL pg gV (fI 1 (fI 1 (bI (bI (fI 1 (gW 1 (fI 10 gT))))))) Q g w :=
 kW (kr := no) (l := []) h hn lX trivial
def mW (kn : SK) (gQ b2 kY kU iK iI iV jQ mN oR : adW) (w : adV) : Prop :=
 eY pg (gO .add 3 gZ gZ oR (adX 1)) w fun m6 w =>
 kn gQ b2 kY kU iK iI iV jQ mN m6 w
theorem F8 (kn : SK) (hn : N10 Q kn 0 2 8 9 11 13 15 16 17 18) (h : mW kn (g 0) (g 2) (g 8) (g 9) (g 11) (g 13) (g 15) (g 16) (g 17) (g 18) w) : iL pg gV (fI 1 (fI 1 (bI (bI (fI 1 (fI 2 (bI (gW 1 (fI 1 (bI (bI (fI 1 (gW 1 (fI 10 gT)))))))))))))) Q g w :=
 kW (kr := no) (l := []) h hn lX trivial
def mY (kn : SK) (R : K1) (gQ b2 kY kU iK iI iV jQ mN oR c9 : adW) (w : adV) : Prop :=
 eY pg (gO .mul 3 gZ gZ kY mN) w fun o2 w =>
 eY pg (lO 22 gQ (some o2) (some c9) none) w fun o4 w =>
 gU pg jF #[iI, mN, o4] w fun o5 w =>
 eY pg (gO .neq 29 (.tmp 105) (.const (adX 0)) o5 (adX 0)) w fun o6 w =>
 lQ o6
  (R (.bool false) w)
  (eY pg (kX 5 3 b2) w fun o9 w =>
  eY pg (gO .add 3 gZ gZ jQ o9) w fun p0 w =>
  eY pg (gO .rem 3 gZ gZ p0 iV) w fun p2 w =>
  kn gQ b2 kY kU iK iI iV jQ p2 oR w)
theorem GI (kn : SK) (R : K1) (hn : N10 Q kn 0 2 8 9 11 13 15 16 17 18) (hr : HR iG R Q) (h : mY kn R (g 0) (g 2) (g 8) (g 9) (g 11) (g 13) (g 15) (g 16) (g 17) (g 18) (g 19) w) : iL pg gV (fI 2 (bI (gW 1 (fI 1 (bI (bI (fI 1 (fI 2 (bI (gW 1 (fI 1 (bI (bI (fI 1 (gW 1 (fI 10 gT)))))))))))))))) Q g w :=
 kW (l := []) h hn hr trivial
def vN (kn : ZA) (gQ b2 kY kU iK iI iV jQ mN oR : adW) (w : adV) : Prop :=
 eY pg (gO .add 3 gZ gZ mN (adX 1)) w fun m9 w =>
 eY pg (gO .mul 3 gZ gZ kY m9) w fun n0 w =>
 eY pg (nG .len #[22] 3 [gQ]) w fun n3 w =>
 eY pg (gO .gtr 3 gZ gZ n0 n3) w fun n4 w =>
 lQ n4
  (eY pg (nG .len #[22] 3 [gQ]) w fun n6 w =>
  kn gQ b2 kY kU iK iI iV jQ mN oR n6 w)
  (kn gQ b2 kY kU iK iI iV jQ mN oR n0 w)
theorem FU (kn : ZA) (hn : N11 Q kn 0 2 8 9 11 13 15 16 17 18 19) (h : vN kn (g 0) (g 2) (g 8) (g 9) (g 11) (g 13) (g 15) (g 16) (g 17) (g 18) w) : iL pg gV (gW 2 (bI (gW 1 (fI 1 (bI (bI (fI 1 (fI 2 (bI (gW 1 (fI 1 (bI (bI (fI 1 (gW 1 (fI 10 gT)))))))))))))))) Q g w :=
 kW (kr := no) (l := []) h hn lX trivial
def BV (kn : SK) (R : K1) (gQ b2 kY kU iK iI iV jQ mN oR : adW) (w : adV) : Prop :=
 vN (fun gQ b2 kY kU iK iI iV jQ mN oR c9 w => mY kn R gQ b2 kY kU iK iI iV jQ mN oR c9 w) gQ b2 kY kU iK iI iV jQ mN oR w
def uU (kn : SK) (R : K1) (gQ b2 kY kU iK iI iV jQ mN oR : adW) (w : adV) : Prop :=
 BV kn R gQ b2 kY kU iK iI iV jQ mN oR w
def tQ (kn : SK) (R : K1) (gQ b2 kY kU iK iI iV jQ mN oR : adW) (w : adV) : Prop :=
 uU (fun gQ b2 kY kU iK iI iV jQ mN oR w => mW kn gQ b2 kY kU iK iI iV jQ mN oR w) R gQ b2 kY kU iK iI iV jQ mN oR w
theorem F3 (kn : SK) (R : K1) (hn : N10 Q kn 0 2 8 9 11 13 15 16 17 18) (hr : HR iG R Q) (h : uU kn R (g 0) (g 2) (g 8) (g 9) (g 11) (g 13) (g 15) (g 16) (g 17) (g 18) w) : iL pg gV (gW 1 (fI 1 (bI (bI (fI 1 (fI 2 (bI (gW 1 (fI 1 (bI (bI (fI 1 (gW 1 (fI 10 gT)))))))))))))) Q g w :=
 MJ 3 (rV 2 (FU _ g w (mY kn R) (fun g w h => gY (GI _ g w kn R hn hr h)) h))
def tY (kn : SK) (k2 : K8) (gQ b2 kY kU iK iI iV jQ mN oR : adW) (w : adV) : Prop :=
 eY pg (gO .lss 3 gZ gZ oR (adX 2)) w fun m4 w =>
 lQ m4
  (kn gQ b2 kY kU iK iI iV jQ mN oR w)
  (k2 gQ b2 kY kU iK iI iV jQ w)
theorem GQ (kn : SK) (k2 : K8) (hn : N10 Q kn 0 2 8 9 11 13 15 16 17 18) (h2 : E8 Q k2 2 0 2 8 9 11 13 15 16) (h : tY kn k2 (g 0) (g 2) (g 8) (g 9) (g 11) (g 13) (g 15) (g 16) (g 17) (g 18) w) : iL pg gV (gW 1 (bI (bI (fI 1 (fI 2 (bI (gW 1 (fI 1 (bI (bI (fI 1 (gW 1 (fI 10 gT))))))))))))) Q g w :=
 kW (kr := no) (l := [(2, fun g w => k2 (g 0) (g 2) (g 8) (g 9) (g 11) (g 13) (g 15) (g 16) w)]) h hn lX ⟨h2, trivial⟩
def pO (kn : SK) (k2 : K8) (R : K1) (gQ b2 kY kU iK iI iV jQ mN oR : adW) (w : adV) : Prop :=
 tY (fun gQ b2 kY kU iK iI iV jQ mN oR w => tQ kn R gQ b2 kY kU iK iI iV jQ mN oR w) k2 gQ b2 kY kU iK iI iV jQ mN oR w
def vB (k2 : K8) (R : K1) (gQ b2 kY kU iK iI iV jQ mN oR : adW) (w : adV) : Prop :=
 jW (fun (X : (adW × adW) -> K0) (t : adW × adW) (w : adV) => pO (fun _ _ _ _ _ _ _ _ mN oR w => X (mN, oR) w) k2 R gQ b2 kY kU iK iI iV jQ t.1 t.2 w) (mN, oR) w
theorem GN (kn : SK) (k2 : K8) (R : K1) (hn : N10 Q kn 0 2 8 9 11 13 15 16 17 18) (h2 : E8 Q k2 2 0 2 8 9 11 13 15 16) (hr : HR iG R Q) (h : pO kn k2 R (g 0) (g 2) (g 8) (g 9) (g 11) (g 13) (g 15) (g 16) (g 17) (g 18) w) : iL pg gV (bI (bI (fI 1 (fI 2 (bI (gW 1 (fI 1 (bI (bI (fI 1 (gW 1 (fI 10 gT)))))))))))) Q g w :=
 rV 1 (GQ _ g w (tQ kn R) k2 (fun g w h => gY (rV 1 (F3 _ g w (mW kn) R (fun g w h => gY (F8 _ g w kn hn h)) hr h))) h2 h)
theorem FG (k2 : K8) (R : K1) (h2 : E8 Q k2 2 0 2 8 9 11 13 15 16) (hr : HR iG R Q) (h : vB k2 R (g 0) (g 2) (g 8) (g 9) (g 11) (g 13) (g 15) (g 16) (g 17) (g 18) w) : iL pg gV (bI (fI 1 (fI 2 (bI (gW 1 (fI 1 (bI (bI (fI 1 (gW 1 (fI 10 gT))))))))))) Q g w := by
 refine Pb (fun g : Env => (g 17, g 18)) (fun X t w => pO (fun _ _ _ _ _ _ _ _ mN oR w => X (mN, oR) w) k2 R (g 0) (g 2) (g 8) (g 9) (g 11) (g 13) (g 15) (g 16) t.1 t.2 w) h (fun X g1 w1 ha hL => ?_)
 rw [<- qQ 0 ha, <- qQ 2 ha, <- qQ 8 ha, <- qQ 9 ha, <- qQ 11 ha, <- qQ 13 ha, <- qQ 15 ha, <- qQ 16 ha] at hL
 exact (GN _ g1 w1 (fun _ _ _ _ _ _ _ _ mN oR w => X (mN, oR) w) k2 R (fun _ _ h => h) h2 hr hL)
def vL (kn : K8) (R : K1) (gQ b2 kY kU iK iI iV jQ mN oR : adW) (w : adV) : Prop :=
 vB kn R gQ b2 kY kU iK iI iV jQ mN oR w
def vK (kn : SK) (gQ b2 kY kU iK iI iV jQ mN : adW) (w : adV) : Prop :=
 kn gQ b2 kY kU iK iI iV jQ mN (adX 0) w
theorem FF (kn : SK) (hn : N10 Q kn 0 2 8 9 11 13 15 16 17 18) (h : vK kn (g 0) (g 2) (g 8) (g 9) (g 11) (g 13) (g 15) (g 16) (g 17) w) : iL pg gV (gW 1 (fI 2 (bI (gW 1 (fI 1 (bI (bI (fI 1 (gW 1 (fI 10 gT)))))))))) Q g w :=
 kW (kr := no) (l := []) h hn lX trivial
def pJ (kn : K8) (R : K1) (gQ b2 kY kU iK iI iV jQ mN : adW) (w : adV) : Prop :=
 vK (fun gQ b2 kY kU iK iI iV jQ mN oR w => vL kn R gQ b2 kY kU iK iI iV jQ mN oR w) gQ b2 kY kU iK iI iV jQ mN w
def tN (kn : K9) (gQ b2 kY kU iK iI iV jQ : adW) (w : adV) : Prop :=
 eY pg (kX 5 3 b2) w fun l2 w =>
 eY pg (gO .add 3 gZ gZ jQ l2) w fun l3 w =>
 eY pg (gO .rem 3 gZ gZ l3 iV) w fun l5 w =>
 eY pg (gO .rem 3 gZ gZ jQ (adX 2)) w fun l7 w =>
 eY pg (gO .eql 3 (.tmp 77) (.const (adX 0)) l7 (adX 0)) w fun l8 w =>
 lQ l8
  (eY pg (gO .sub 3 gZ gZ iV (adX 1)) w fun m0 w =>
  eY pg (gO .sub 3 gZ gZ m0 l5) w fun m2 w =>
  kn gQ b2 kY kU iK iI iV jQ m2 w)
  (kn gQ b2 kY kU iK iI iV jQ l5 w)
theorem F5 (kn : K9) (hn : N9 Q kn 0 2 8 9 11 13 15 16 17) (h : tN kn (g 0) (g 2) (g 8) (g 9) (g 11) (g 13) (g 15) (g 16) w) : iL pg gV (gW 2 (bI (gW 1 (fI 1 (bI (bI (fI 1 (gW 1 (fI 10 gT))))))))) Q g w :=
 kW (kr := no) (l := []) h hn lX trivial
def B8 (kn : K8) (R : K1) (gQ b2 kY kU iK iI iV jQ : adW) (w : adV) : Prop :=
 tN (fun gQ b2 kY kU iK iI iV jQ mN w => pJ kn R gQ b2 kY kU iK iI iV jQ mN w) gQ b2 kY kU iK iI iV jQ w
def uY (kn : K8) (R : K1) (gQ b2 kY kU iK iI iV jQ : adW) (w : adV) : Prop :=
 B8 kn R gQ b2 kY kU iK iI iV jQ w
def uH (kn : K8) (R : K1) (gQ b2 kY kU iK iI iV jQ : adW) (w : adV) : Prop :=
 uY (fun gQ b2 kY kU iK iI iV jQ w => nB kn gQ b2 kY kU iK iI iV jQ w) R gQ b2 kY kU iK iI iV jQ w
theorem Gb (kn : K8) (R : K1) (hn : N8 Q kn 0 2 8 9 11 13 15 16) (hr : HR iG R Q) (h : uY kn R (g 0) (g 2) (g 8) (g 9) (g 11) (g 13) (g 15) (g 16) w) : iL pg gV (gW 1 (fI 1 (bI (bI (fI 1 (gW 1 (fI 10 gT))))))) Q g w :=
 MJ 1 (rV 2 (F5 _ g w (pJ kn R) (fun g w h => gY (rV 1 (FF _ g w (vL kn R) (fun g w h => gY (MJ 2 (FG _ g w kn R hn hr h))) h))) h))
def tR (kn : K8) (k0 : K6) (gQ b2 kY kU iK iI iV jQ : adW) (w : adV) : Prop :=
 eY pg (gO .lss 3 gZ gZ jQ iV) w fun j7 w =>
 lQ j7
  (kn gQ b2 kY kU iK iI iV jQ w)
  (k0 gQ kY kU iK iI iV w)
theorem FO (kn : K8) (k0 : K6) (hn : N8 Q kn 0 2 8 9 11 13 15 16) (h0 : E6 Q k0 0 0 8 9 11 13 15) (h : tR kn k0 (g 0) (g 2) (g 8) (g 9) (g 11) (g 13) (g 15) (g 16) w) : iL pg gV (gW 1 (bI (bI (fI 1 (gW 1 (fI 10 gT)))))) Q g w :=
 kW (kr := no) (l := [(0, fun g w => k0 (g 0) (g 8) (g 9) (g 11) (g 13) (g 15) w)]) h hn lX ⟨h0, trivial⟩
def pM (kn : K8) (k0 : K6) (R : K1) (gQ b2 kY kU iK iI iV jQ : adW) (w : adV) : Prop :=
 tR (fun gQ b2 kY kU iK iI iV jQ w => uH kn R gQ b2 kY kU iK iI iV jQ w) k0 gQ b2 kY kU iK iI iV jQ w
def tU (k0 : K6) (R : K1) (gQ b2 kY kU iK iI iV jQ : adW) (w : adV) : Prop :=
 jW (fun (X : adW -> K0) (t : adW) (w : adV) => pM (fun _ _ _ _ _ _ _ jQ w => X jQ w) k0 R gQ b2 kY kU iK iI iV t w) jQ w
theorem Gk (kn : K8) (k0 : K6) (R : K1) (hn : N8 Q kn 0 2 8 9 11 13 15 16) (h0 : E6 Q k0 0 0 8 9 11 13 15) (hr : HR iG R Q) (h : pM kn k0 R (g 0) (g 2) (g 8) (g 9) (g 11) (g 13) (g 15) (g 16) w) : iL pg gV (bI (bI (fI 1 (gW 1 (fI 10 gT))))) Q g w :=
 rV 1 (FO _ g w (uH kn R) k0 (fun g w h => gY (rV 1 (Gb _ g w (nB kn) R (fun g w h => gY (F2 _ g w kn hn h)) hr h))) h0 h)
theorem F9 (k0 : K6) (R : K1) (h0 : E6 Q k0 0 0 8 9 11 13 15) (hr : HR iG R Q) (h : tU k0 R (g 0) (g 2) (g 8) (g 9) (g 11) (g 13) (g 15) (g 16) w) : iL pg gV (bI (fI 1 (gW 1 (fI 10 gT)))) Q g w := by
 refine Pb (fun g : Env => g 16) (fun X t w => pM (fun _ _ _ _ _ _ _ jQ w => X jQ w) k0 R (g 0) (g 2) (g 8) (g 9) (g 11) (g 13) (g 15) t w) h (fun X g1 w1 ha hL => ?_)
 rw [<- qQ 0 ha, <- qQ 2 ha, <- qQ 8 ha, <- qQ 9 ha, <- qQ 11 ha, <- qQ 13 ha, <- qQ 15 ha] at hL
 exact (Gk _ g1 w1 (fun _ _ _ _ _ _ _ jQ w => X jQ w) k0 R (fun _ _ h => h) h0 hr hL)
def uG (kn : K6) (R : K1) (gQ b2 kY kU iK iI iV jQ : adW) (w : adV) : Prop :=
 tU kn R gQ b2 kY kU iK iI iV jQ w
def uO (kn : K8) (gQ b2 kY kU iK iI iV : adW) (w : adV) : Prop :=
 kn gQ b2 kY kU iK iI iV (adX 0) w
theorem FI (kn : K8) (hn : N8 Q kn 0 2 8 9 11 13 15 16) (h : uO kn (g 0) (g 2) (g 8) (g 9) (g 11) (g 13) (g 15) w) : iL pg gV (gW 1 (gW 1 (fI 10 gT))) Q g w :=
 kW (kr := no) (l := []) h hn lX trivial
def vE (kn : K6) (R : K1) (gQ b2 kY kU iK iI iV : adW) (w : adV) : Prop :=
 uO (fun gQ b2 kY kU iK iI iV jQ w => uG kn R gQ b2 kY kU iK iI iV jQ w) gQ b2 kY kU iK iI iV w
def tZ (R : K1) (gQ b2 kY kU iK iI iV : adW) (w : adV) : Prop :=
 vE (fun gQ kY kU iK iI iV w => vI R gQ kY kU iK iI iV w) R gQ b2 kY kU iK iI iV w
theorem F6 (kn : K6) (R : K1) (hn : N6 Q kn 0 8 9 11 13 15) (hr : HR iG R Q) (h : vE kn R (g 0) (g 2) (g 8) (g 9) (g 11) (g 13) (g 15) w) : iL pg gV (gW 1 (fI 10 gT)) Q g w :=
 rV 1 (FI _ g w (uG kn R) (fun g w h => gY (MJ 0 (F9 _ g w kn R hn hr h))) h)
def uK (kn : K7) (R : K1) (gQ kH b2 : adW) (w : adV) : Prop :=
 gU pg Bu #[] w fun d7 w =>
 eY pg (KP .not d7) w fun d9 w =>
 lQ d9
  (R (.bool false) w)
  (eY pg (nG .len #[22] 3 [gQ]) w fun e1 w =>
  eY pg (gO .gtr 3 gZ gZ e1 (adX 300)) w fun e2 w =>
  lQ e2
   (R (.bool true) w)
   (eY pg (kX 5 3 kH) w fun e4 w =>
   eY pg (gO .add 3 gZ gZ e4 (adX 1)) w fun e5 w =>
   gU pg BG #[gQ, e5] w fun e9 w =>
   eY pg (iW e9 0) w fun f0 w =>
   eY pg (iW e9 1) w fun f1 w =>
   eY pg (lR 28) w fun kU w =>
   eY pg (iD 28 kU f0) w fun _u w =>
   gU pg Bl #[(adX 100000)] w fun f3 w =>
   eY pg (iW f3 0) w fun f4 w =>
   eY pg (iW f3 1) w fun f5 w =>
   eY pg (fW 28 kU) w fun f8 w =>
   gU pg rK #[f4, (.string ⟨#[102]⟩), f8] w fun f9 w =>
   eY pg (iW f9 0) w fun i0 w =>
   eY pg (iW f9 1) w fun i1 w =>
   eY pg (gO .neq 29 (.tmp 52) (.const (adX 0)) f1 (adX 0)) w fun i3 w =>
   Gd (kP i3 false) (fun K => K f5 w) w fun i5 w =>
   Gd (kP i3 false) (fun K => eY pg (gO .neq 29 (.tmp 55) (.const (adX 0)) i5 (adX 0)) w K) w fun i6 w =>
   eY pg (lE i3 (.bool true) i6) w fun i7 w =>
   Gd (kP i7 false) (fun K => K i1 w) w fun i9 w =>
   Gd (kP i7 false) (fun K => eY pg (gO .neq 29 (.tmp 59) (.const (adX 0)) i9 (adX 0)) w K) w fun j0 w =>
   eY pg (lE i7 (.bool true) j0) w fun j1 w =>
   lQ j1
    (R (.bool false) w)
    (eY pg (gM 28 kU 2) w fun j2 w =>
    eY pg (fW 26 j2) w fun j3 w =>
    eY pg (nG .len #[26] 3 [j3]) w fun j4 w =>
    kn gQ b2 e5 kU f4 i0 j4 w)))
theorem Gt (kn : K7) (R : K1) (hn : N7 Q kn 0 2 8 9 11 13 15) (hr : HR iG R Q) (h : uK kn R (g 0) (g 1) (g 2) w) : iL pg gV (gW 10 gT) Q g w :=
 kW (l := []) h hn hr trivial
def uA (R : K1) (gQ kH b2 : adW) (w : adV) : Prop :=
 uK (fun gQ b2 kY kU iK iI iV w => tZ R gQ b2 kY kU iK iI iV w) R gQ kH b2 w
theorem Gg (R : K1) (hr : HR iG R Q) (h : uA R (g 0) (g 1) (g 2) w) : iL pg gV gT Q g w :=
 rV 10 (Gt _ g w (tZ R) R (fun g w h => gY (rV 1 (F6 _ g w (vI R) R (fun g w h => gY (rV 1 (Gp _ g w (qF R) R (fun g w h => gY (Hg _ g w R hr h)) hr h))) hr h))) hr h)
def F4 (a0 a1 a2 : adW) (w : adV) (R : K1) : Prop :=
 uA R a0 a1 a2 w
theorem HU {a0 a1 a2 : adW} {w : adV} {R : K1} (h : F4 a0 a1 a2 w R) : gU pg yC #[a0, a1, a2] w R := by
 refine xA (ann := gV) Tryd.f3 gT [a0, a1, a2] iG 186 TrydM.mixed Tryd.func3 ?_
 exact (Gg _ _ _ R (fun _ _ h => h) h)
def HC : FA := ⟨Bu, fun i => .leaf ([], []) []⟩
def IZ : List ResultVar := [.tmp 0]
noncomputable def GH : Code := iZ Tryd.f7
def Ea (R : K1)  (w : adV) : Prop :=
 gU pg Bl #[(adX 1000)] w fun c4 w =>
 eY pg (iW c4 0) w fun c5 w =>
 eY pg (iW c4 1) w fun c6 w =>
 eY pg (iF 22 5 [(0, (.int .u8 97)), (1, (.int .u8 98)), (2, (.int .u8 99)), (3, (.int .u8 100)), (4, (.int .u8 101))]) w fun c8 w =>
 eY pg (kX 22 22 c8) w fun c9 w =>
 gU pg BG #[c9, (adX 2)] w fun d0 w =>
 eY pg (iW d0 0) w fun d1 w =>
 eY pg (iW d0 1) w fun d2 w =>
 eY pg (lR 28) w fun ZB w =>
 eY pg (iD 28 ZB d1) w fun _u w =>
 eY pg (fW 28 ZB) w fun d5 w =>
 gU pg rK #[c5, (.string ⟨#[102]⟩), d5] w fun d6 w =>
 eY pg (iW d6 0) w fun d7 w =>
 eY pg (iW d6 1) w fun d8 w =>
 eY pg (gO .neq 29 (.tmp 29) (.const (adX 0)) c6 (adX 0)) w fun e0 w =>
 Gd (kP e0 false) (fun K => K d2 w) w fun e2 w =>
 Gd (kP e0 false) (fun K => eY pg (gO .neq 29 (.tmp 32) (.const (adX 0)) e2 (adX 0)) w K) w fun e3 w =>
 eY pg (lE e0 (.bool true) e3) w fun e4 w =>
 Gd (kP e4 false) (fun K => K d8 w) w fun e6 w =>
 Gd (kP e4 false) (fun K => eY pg (gO .neq 29 (.tmp 36) (.const (adX 0)) e6 (adX 0)) w K) w fun e7 w =>
 eY pg (lE e4 (.bool true) e7) w fun e8 w =>
 Gd (kP e8 false) (fun K => K d7 w) w fun f0 w =>
 Gd (kP e8 false) (fun K => eY pg (gO .eql 35 (.tmp 40) (.const (.pointer none)) f0 (.pointer none)) w K) w fun f1 w =>
 eY pg (lE e8 (.bool true) f1) w fun f2 w =>
 lQ f2
  (R (.bool false) w)
  (eY pg (iF 22 2 [(0, (.int .u8 99)), (1, (.int .u8 100))]) w fun f4 w =>
  eY pg (kX 22 22 f4) w fun f5 w =>
  gU pg jF #[d7, (adX 1), f5] w fun f6 w =>
  eY pg (iF 22 2 [(0, (.int .u8 120)), (1, (.int .u8 121))]) w fun f8 w =>
  eY pg (kX 22 22 f8) w fun f9 w =>
  gU pg jF #[d7, (adX 0), f9] w fun i0 w =>
  gU pg kL #[d7] w fun i2 w =>
  eY pg (iF 22 2 [(0, (.int .u8 97)), (1, (.int .u8 98))]) w fun i4 w =>
  eY pg (kX 22 22 i4) w fun i5 w =>
  gU pg jF #[d7, (adX 0), i5] w fun i6 w =>
  eY pg (iF 22 1 [(0, (.int .u8 101))]) w fun i8 w =>
  eY pg (kX 22 22 i8) w fun i9 w =>
  gU pg jF #[d7, (adX 2), i9] w fun j0 w =>
  gU pg kL #[d7] w fun j2 w =>
  gU pg lG #[c5, (.string ⟨#[102]⟩)] w fun j5 w =>
  eY pg (iW j5 0) w fun j6 w =>
  eY pg (iW j5 1) w fun j7 w =>
  gU pg mG #[d7] w fun j9 w =>
  eY pg (gO .eql 24 (.tmp 69) (.const (.int .u64 1)) j9 (.int .u64 1)) w fun l0 w =>
  Gd (kP l0 true) (fun K => K f6 w) w fun l2 w =>
  Gd (kP l0 true) (fun K => eY pg (gO .eql 29 (.tmp 72) (.const (adX 0)) l2 (adX 0)) w K) w fun l3 w =>
  eY pg (lE l0 l3 (.bool false)) w fun l4 w =>
  Gd (kP l4 true) (fun K => K i0 w) w fun l6 w =>
  Gd (kP l4 true) (fun K => eY pg (gO .eql 29 (.tmp 76) (.const (adX 13)) l6 (adX 13)) w K) w fun l7 w =>
  eY pg (lE l4 l7 (.bool false)) w fun l8 w =>
  Gd (kP l8 true) (fun K => K i2 w) w fun m0 w =>
  Gd (kP l8 true) (fun K => eY pg (gO .eql 29 (.tmp 80) (.const (adX 30)) m0 (adX 30)) w K) w fun m1 w =>
  eY pg (lE l8 m1 (.bool false)) w fun m2 w =>
  Gd (kP m2 true) (fun K => K j2 w) w fun m4 w =>
  Gd (kP m2 true) (fun K => eY pg (gO .eql 29 (.tmp 84) (.const (adX 0)) m4 (adX 0)) w K) w fun m5 w =>
  eY pg (lE m2 m5 (.bool false)) w fun m6 w =>
  Gd (kP m6 true) (fun K => K j6 w) w fun m8 w =>
  Gd (kP m6 true) (fun K => eY pg (kX 22 9 m8) w K) w fun m9 w =>
  Gd (kP m6 true) (fun K => eY pg (gO .eql 9 (.tmp 89) (.const (.string ⟨#[97, 98, 99, 100, 101]⟩)) m9 (.string ⟨#[97, 98, 99, 100, 101]⟩)) w K) w fun n0 w =>
  eY pg (lE m6 n0 (.bool false)) w fun n1 w =>
  Gd (kP n1 true) (fun K => K j7 w) w fun n3 w =>
  Gd (kP n1 true) (fun K => eY pg (gO .eql 29 (.tmp 93) (.const (adX 0)) n3 (adX 0)) w K) w fun n4 w =>
  eY pg (lE n1 n4 (.bool false)) w fun n5 w =>
  Gd (kP n5 true) (fun K => K d7 w) w fun n7 w =>
  Gd (kP n5 true) (fun K => gU pg lA #[n7] w K) w fun n8 w =>
  eY pg (lE n5 n8 (.bool false)) w fun n9 w =>
  Gd (kP n9 true) (fun K => K d7 w) w fun o1 w =>
  Gd (kP n9 true) (fun K => gU pg rQ #[o1] w K) w fun o2 w =>
  Gd (kP n9 true) (fun K => eY pg (nG .len #[45] 3 [o2]) w K) w fun o3 w =>
  Gd (kP n9 true) (fun K => eY pg (gO .eql 3 (.tmp 103) (.const (adX 3)) o3 (adX 3)) w K) w fun o4 w =>
  eY pg (lE n9 o4 (.bool false)) w fun o5 w =>
  R o5 w)
theorem LK (R : K1) (hr : HR IZ R Q) (h : Ea R w) : iL pg HC GH Q g w :=
 kW (kn := no) (l := []) h lX hr trivial
def M0 (w : adV) (R : K1) : Prop :=
 Ea R w
theorem Mv {w : adV} {R : K1} (h : M0 w R) : gU pg Bu #[] w R := by
 refine xA (ann := HC) Tryd.f7 GH [] IZ 106 TrydM.mixed Tryd.func7 ?_
 exact (LK _ _ _ R (fun _ _ h => h) h)
def oK : FA := ⟨BG, fun i => match Nat.beq i 11 with | true => .leaf ([9, 10, 11, 13], [(0, 9), (0, 10), (1, 9), (1, 10)]) [(false, []), (false, []), (false, []), (false, []), (false, []), (false, []), (false, []), (false, []), (false, []), (true, [7, 8]), (true, [8, 9]), (true, []), (false, []), (true, [])] | false => .leaf ([], []) []⟩
def rR : List ResultVar := [.cell 4 28, .tmp 5]
noncomputable def mV : Code := iZ Tryd.f8
def CQ (R : K1) (b4 JK : adW) (w : adV) : Prop :=
 eY pg (fW 28 JK) w fun j2 w =>
 eY pg (iD 28 b4 j2) w fun _u w =>
 U0 pg 28 b4 w fun r0 => R (.tuple #[r0, (adX 0)]) w
theorem NG (R : K1) (hr : HR rR R Q) (h : CQ R (g 4) (g 8) w) : iL pg oK (fI 1 (fI 4 mV)) Q g w :=
 kW (kn := no) (l := []) h lX hr trivial
def CO (kn : K6) (k0 : K2) (R : K1) (AH kH b4 JK e1 e2 : adW) (w : adV) : Prop :=
 eY pg (gO .lss 3 gZ gZ e2 e1) w fun e3 w =>
 lQ e3
  (eY pg (gM 28 JK 0) w fun e6 w =>
  eY pg (fW 24 e6) w fun e7 w =>
  gU pg pN #[e7, kH, e2] w fun f0 w =>
  eY pg (iW f0 0) w fun f1 w =>
  eY pg (iW f0 1) w fun f2 w =>
  eY pg (iW f0 2) w fun f3 w =>
  eY pg (gO .neq 29 (.tmp 44) (.const (adX 0)) f3 (adX 0)) w fun f5 w =>
  lQ f5
   (eY pg (lK 28 []) w fun f6 w =>
   eY pg (iD 28 b4 f6) w fun _u w =>
   U0 pg 28 b4 w fun r0 => R (.tuple #[r0, f3]) w)
   (eY pg (gM 28 JK 2) (dr w) fun f8 w_ => w_ = (dr w) /\
   eY pg (fW 26 f8) (dr w) fun f9 w_ => w_ = (dr w) /\
   (dr w) = (dr w) /\
   (dr w) = (dr w) /\
   (dr w) = (dr w) /\
   (dr w) = (dr w) /\
   eY pg (kX 3 24 f2) (dr w) fun i4 w_ => w_ = (dr w) /\
   eY pg (gO .add 24 gZ gZ f1 i4) (dr w) fun i5 w_ => w_ = (dr w) /\
   eY pg (lO 22 AH (some f1) (some i5) none) (dr w) fun i6 w_ => w_ = (dr w) /\
   gU pg wX #[i6] (dr w) fun i7 V6 =>
   (gN pg (fW 26 f8) f9 V6 /\ gN pg (gM 28 JK 2) f8 V6 /\ True) /\
   eY pg (iF 26 1 [(0, i7)]) V6 fun i8 SU =>
   (gN pg (fW 26 f8) f9 SU /\ gN pg (gM 28 JK 2) f8 SU /\ True) /\
   eY pg (nG .append #[26, 26] 26 [f9, i8]) SU fun i9 Oe =>
   eY pg (gM 28 JK 2) Oe fun j0 w_ => w_ = Oe /\
   eY pg (iD 26 j0 i9) Oe fun _u13 DR =>
   eY pg (gO .add 3 gZ gZ e2 (adX 1)) DR fun j1 w =>
   kn AH kH b4 JK e1 j1 w))
  (k0 b4 JK w)
theorem NH (kn : K6) (k0 : K2) (R : K1) (hn : N6 Q kn 0 1 4 8 31 32) (h0 : E2 Q k0 0 4 8) (hr : HR rR R Q) (h : CO kn k0 R (g 0) (g 1) (g 4) (g 8) (g 31) (g 32) w) : iL pg oK (bI (bI (fI 1 (gW 1 (fI 4 mV))))) Q g w :=
 kW (l := [(0, fun g w => k0 (g 4) (g 8) w)]) h hn hr ⟨h0, trivial⟩
def G4 (k0 : K2) (R : K1) (AH kH b4 JK e1 e2 : adW) (w : adV) : Prop :=
 jW (fun (X : adW -> K0) (t : adW) (w : adV) => CO (fun _ _ _ _ _ e2 w => X e2 w) k0 R AH kH b4 JK e1 t w) e2 w
theorem Nu (k0 : K2) (R : K1) (h0 : E2 Q k0 0 4 8) (hr : HR rR R Q) (h : G4 k0 R (g 0) (g 1) (g 4) (g 8) (g 31) (g 32) w) : iL pg oK (bI (fI 1 (gW 1 (fI 4 mV)))) Q g w := by
 refine Pb (fun g : Env => g 32) (fun X t w => CO (fun _ _ _ _ _ e2 w => X e2 w) k0 R (g 0) (g 1) (g 4) (g 8) (g 31) t w) h (fun X g1 w1 ha hL => ?_)
 rw [<- qQ 0 ha, <- qQ 1 ha, <- qQ 4 ha, <- qQ 8 ha, <- qQ 31 ha] at hL
 exact (NH _ g1 w1 (fun _ _ _ _ _ e2 w => X e2 w) k0 R (fun _ _ h => h) h0 hr hL)
def G8 (kn : K2) (R : K1) (AH kH b4 JK e1 e2 : adW) (w : adV) : Prop :=
 G4 kn R AH kH b4 JK e1 e2 w
def Ho (kn : K6) (AH kH b4 Sq JK : adW) (w : adV) : Prop :=
 kn AH kH b4 JK Sq (adX 0) w
theorem NF (kn : K6) (hn : N6 Q kn 0 1 4 8 31 32) (h : Ho kn (g 0) (g 1) (g 4) (g 6) (g 8) w) : iL pg oK (gW 1 (gW 1 (fI 4 mV))) Q g w :=
 kW (kr := no) (l := []) h hn lX trivial
def Hm (kn : K2) (R : K1) (AH kH b4 Sq JK : adW) (w : adV) : Prop :=
 Ho (fun AH kH b4 JK e1 e2 w => G8 kn R AH kH b4 JK e1 e2 w) AH kH b4 Sq JK w
def Hf (R : K1) (AH kH b4 Sq JK : adW) (w : adV) : Prop :=
 Hm (fun b4 JK w => CQ R b4 JK w) R AH kH b4 Sq JK w
theorem Nx (kn : K2) (R : K1) (hn : N2 Q kn 4 8) (hr : HR rR R Q) (h : Hm kn R (g 0) (g 1) (g 4) (g 6) (g 8) w) : iL pg oK (gW 1 (fI 4 mV)) Q g w :=
 rV 1 (NF _ g w (G8 kn R) (fun g w h => gY (MJ 0 (Nu _ g w kn R hn hr h))) h)
def G9 (kn : K5) (R : K1) (AH kH : adW) (w : adV) : Prop :=
 eY pg (lR 28) w fun b4 w =>
 eY pg (nG .len #[22] 3 [AH]) w fun c5 w =>
 eY pg (kX 3 24 c5) w fun c6 w =>
 gU pg rY #[c6, kH] w fun c8 w =>
 eY pg (iW c8 0) w fun c9 w =>
 eY pg (iW c8 1) w fun d0 w =>
 eY pg (gO .neq 29 (.tmp 21) (.const (adX 0)) d0 (adX 0)) w fun d2 w =>
 lQ d2
  (eY pg (lK 28 []) w fun d3 w =>
  eY pg (iD 28 b4 d3) w fun _u w =>
  U0 pg 28 b4 w fun r0 => R (.tuple #[r0, d0]) w)
  (eY pg (nG .len #[22] 3 [AH]) w fun d6 w =>
  eY pg (kX 3 24 d6) w fun d7 w =>
  eY pg (kX 3 25 kH) w fun d9 w =>
  eY pg (lK 28 [(0, d7), (1, d9)]) w fun e0 w =>
  eY pg (lR 28) w fun JK w =>
  eY pg (iD 28 JK e0) w fun _u w =>
  kn AH kH b4 c9 JK w)
theorem Nw (kn : K5) (R : K1) (hn : N5 Q kn 0 1 4 6 8) (hr : HR rR R Q) (h : G9 kn R (g 0) (g 1) w) : iL pg oK (gW 4 mV) Q g w :=
 kW (l := []) h hn hr trivial
def Hb (R : K1) (AH kH : adW) (w : adV) : Prop :=
 G9 (fun AH kH b4 Sq JK w => Hf R AH kH b4 Sq JK w) R AH kH w
theorem NJ (R : K1) (hr : HR rR R Q) (h : Hb R (g 0) (g 1) w) : iL pg oK mV Q g w :=
 rV 4 (Nw _ g w (Hf R) R (fun g w h => gY (rV 1 (Nx _ g w (CQ R) R (fun g w h => gY (NG _ g w R hr h)) hr h))) hr h)
def Qf (a0 a1 : adW) (w : adV) (R : K1) : Prop :=
 Hb R a0 a1 w
theorem Oq {a0 a1 : adW} {w : adV} {R : K1} (h : Qf a0 a1 w R) : gU pg BG #[a0, a1] w R := by
 refine xA (ann := oK) Tryd.f8 mV [a0, a1] rR 63 TrydM.mixed Tryd.func8 ?_
 exact (NJ _ _ _ R (fun _ _ h => h) h)
def Lw : FA := ⟨Bl, fun i => .leaf ([], []) []⟩
def Nj : List ResultVar := [.tmp 2, .tmp 3]
noncomputable def Kg : Code := iZ Tryd.f9
def Ju (R : K1) (Su : adW) (w : adV) : Prop :=
 eY pg (gO .lss 3 gZ gZ Su (adX 0)) w fun b5 w =>
 Gd (kP b5 false) (fun K => K Su w) w fun b7 w =>
 Gd (kP b5 false) (fun K => eY pg (gO .gtr 3 gZ gZ b7 (adX 16777216)) w K) w fun b8 w =>
 eY pg (lE b5 (.bool true) b8) w fun b9 w =>
 lQ b9
  (R (.tuple #[(.pointer none), (adX 1)]) w)
  (eY pg (MF 61 none) w fun c1 w =>
  eY pg (MF 61 none) w fun c2 w =>
  eY pg (lK 64 [(0, Su), (1, c1), (2, c2), (4, (adX (-1)))]) w fun c3 w =>
  eY pg (Eo 64 c3) w fun c4 w =>
  R (.tuple #[c4, (adX 0)]) w)
theorem O4 (R : K1) (hr : HR Nj R Q) (h : Ju R (g 0) w) : iL pg Lw Kg Q g w :=
 kW (kn := no) (l := []) h lX hr trivial
def RV (a0 : adW) (w : adV) (R : K1) : Prop :=
 Ju R a0 w
theorem Pr {a0 : adW} {w : adV} {R : K1} (h : RV a0 w R) : gU pg Bl #[a0] w R := by
 refine xA (ann := Lw) Tryd.f9 Kg [a0] Nj 15 TrydM.mixed Tryd.func9 ?_
 exact (O4 _ _ _ R (fun _ _ h => h) h)
def kQ : FA := ⟨rK, fun i => match Nat.beq i 28 with | true => .leaf ([12], []) [(false, []), (false, []), (false, []), (false, []), (false, []), (false, []), (false, []), (false, []), (false, []), (false, []), (false, []), (false, []), (true, [])] | false => .leaf ([], []) []⟩
def rZ : List ResultVar := [.tmp 6, .tmp 7]
noncomputable def kE : Code := iZ Tryd.f10
def wR (R : K1) (nI mX : adW) (w : adV) : Prop :=
 gU pg jN #[nI] w fun v4 w =>
 eY pg (gO .neq 29 (.tmp 155) (.const (adX 0)) v4 (adX 0)) w fun v6 w =>
 lQ v6
  (R (.tuple #[(.pointer none), v4]) w)
  (R (.tuple #[mX, (adX 0)]) w)
theorem MV (R : K1) (hr : HR rZ R Q) (h : wR R (g 0) (g 10) w) : iL pg kQ (fI 1 (fI 12 kE)) Q g w :=
 kW (kn := no) (l := []) h lX hr trivial
def Bx (kn : K7) (nI FE mX Hk q4 q5 q6 : adW) (w : adV) : Prop :=
 eY pg (gO .add 3 gZ gZ q6 (adX 1)) w fun v2 w =>
 kn nI FE mX Hk q4 q5 v2 w
theorem MN (kn : K7) (hn : N7 Q kn 0 8 10 16 124 125 126) (h : Bx kn (g 0) (g 8) (g 10) (g 16) (g 124) (g 125) (g 126) w) : iL pg kQ (fI 3 (bI (bI (fI 5 (cT (fI 1 (gW 1 (fI 12 kE)))))))) Q g w :=
 kW (kr := no) (l := []) h hn lX trivial
def Fg (kn : K7) (k1 : K2) (nI FE mX Hk q4 q5 q6 : adW) (w : adV) : Prop :=
 eY pg (gO .lss 3 gZ gZ q6 q5) w fun q7 w =>
 lQ q7
  (eY pg (iJ 72 q4 q6) w fun q8 w =>
  eY pg (fW 77 q8) w fun q9 w =>
  eY pg (lR 77) w fun VI w =>
  eY pg (iD 77 VI q9) w fun _u w =>
  eY pg (gM 77 VI 0) w fun s0 w =>
  eY pg (fW 5 s0) w fun s1 w =>
  eY pg (gO .eql 5 (.tmp 131) (.const (.int .u8 2)) s1 (.int .u8 2)) w fun s2 w =>
  Gd (kP s2 true) (fun K => eY pg (gM 77 VI 1) w K) w fun s4 w =>
  Gd (kP s2 true) (fun K => eY pg (fW 24 s4) w K) w fun s5 w =>
  Gd (kP s2 true) (fun K => K FE w) w fun s6 w =>
  Gd (kP s2 true) (fun K => eY pg (kX 3 24 s6) w K) w fun s7 w =>
  Gd (kP s2 true) (fun K => eY pg (gO .lss 24 gZ gZ s5 s7) w K) w fun s8 w =>
  eY pg (lE s2 s8 (.bool false)) w fun s9 w =>
  lQ s9
   ((dr w) = (dr w) /\
   eY pg (jB mX) (dr w) fun u1 w_ => w_ = (dr w) /\
   eY pg (gM 67 u1 4) (dr w) fun u2 w_ => w_ = (dr w) /\
   eY pg (fW 45 u2) (dr w) fun u3 w_ => w_ = (dr w) /\
   eY pg (gM 77 VI 1) (dr w) fun u4 w_ => w_ = (dr w) /\
   eY pg (fW 24 u4) (dr w) fun u5 w_ => w_ = (dr w) /\
   (dr w) = (dr w) /\
   eY pg (gM 77 VI 1) (dr w) fun u7 w_ => w_ = (dr w) /\
   eY pg (fW 24 u7) (dr w) fun u8 w_ => w_ = (dr w) /\
   eY pg (iJ 45 Hk u8) (dr w) fun u9 w_ => w_ = (dr w) /\
   eY pg (fW 4 u9) (dr w) fun v0 w_ => w_ = (dr w) /\
   eY pg (iJ 45 u3 u5) (dr w) fun v1 w_ => w_ = (dr w) /\
   eY pg (iD 4 v1 v0) (dr w) fun _u12 Yr =>
   kn nI FE mX Hk q4 q5 q6 Yr)
   (kn nI FE mX Hk q4 q5 q6 w))
  (k1 nI mX w)
theorem Ms (kn : K7) (k1 : K2) (hn : N7 Q kn 0 8 10 16 124 125 126) (h1 : E2 Q k1 1 0 10) (h : Fg kn k1 (g 0) (g 8) (g 10) (g 16) (g 124) (g 125) (g 126) w) : iL pg kQ (gW 3 (bI (bI (fI 5 (cT (fI 1 (gW 1 (fI 12 kE)))))))) Q g w :=
 kW (kr := no) (l := [(1, fun g w => k1 (g 0) (g 10) w)]) h hn lX ⟨h1, trivial⟩
def By (kn : K7) (k1 : K2) (nI FE mX Hk q4 q5 q6 : adW) (w : adV) : Prop :=
 Fg (fun nI FE mX Hk q4 q5 q6 w => Bx kn nI FE mX Hk q4 q5 q6 w) k1 nI FE mX Hk q4 q5 q6 w
def Fb (k1 : K2) (nI FE mX Hk q4 q5 q6 : adW) (w : adV) : Prop :=
 jW (fun (X : adW -> K0) (t : adW) (w : adV) => By (fun _ _ _ _ _ _ q6 w => X q6 w) k1 nI FE mX Hk q4 q5 t w) q6 w
theorem MP (kn : K7) (k1 : K2) (hn : N7 Q kn 0 8 10 16 124 125 126) (h1 : E2 Q k1 1 0 10) (h : By kn k1 (g 0) (g 8) (g 10) (g 16) (g 124) (g 125) (g 126) w) : iL pg kQ (bI (bI (fI 5 (cT (fI 1 (gW 1 (fI 12 kE))))))) Q g w :=
 rV 3 (Ms _ g w (Bx kn) k1 (fun g w h => gY (MN _ g w kn hn h)) h1 h)
theorem Mx (k1 : K2) (h1 : E2 Q k1 1 0 10) (h : Fb k1 (g 0) (g 8) (g 10) (g 16) (g 124) (g 125) (g 126) w) : iL pg kQ (bI (fI 5 (cT (fI 1 (gW 1 (fI 12 kE)))))) Q g w := by
 refine Pb (fun g : Env => g 126) (fun X t w => By (fun _ _ _ _ _ _ q6 w => X q6 w) k1 (g 0) (g 8) (g 10) (g 16) (g 124) (g 125) t w) h (fun X g1 w1 ha hL => ?_)
 rw [<- qQ 0 ha, <- qQ 8 ha, <- qQ 10 ha, <- qQ 16 ha, <- qQ 124 ha, <- qQ 125 ha] at hL
 exact (MP _ g1 w1 (fun _ _ _ _ _ _ q6 w => X q6 w) k1 (fun _ _ h => h) h1 hL)
def Fp (kn : K2) (nI FE mX Hk q4 q5 q6 : adW) (w : adV) : Prop :=
 Fb kn nI FE mX Hk q4 q5 q6 w
def Fu (kn : K7) (R : K1) (nI FE mX Gf : adW) (w : adV) : Prop :=
 gU pg pP #[mX] w fun p0 w =>
 eY pg (iW p0 0) w fun p1 w =>
 eY pg (iW p0 1) w fun p2 w =>
 eY pg (gO .neq 29 (.tmp 113) (.const (adX 0)) p2 (adX 0)) w fun p4 w =>
 lQ p4
  (R (.tuple #[(.pointer none), p2]) w)
  (eY pg (wP 45 FE FE) w fun p8 w =>
  eY pg (jB mX) w fun p9 w =>
  eY pg (gM 67 p9 4) w fun q0 w =>
  eY pg (iD 45 q0 p8) w fun _u w =>
  gU pg lU #[mX, p1] w fun q3 w =>
  eY pg (nG .len #[72] 3 [Gf]) w fun q5 w =>
  kn nI FE mX q3 Gf q5 (adX 0) w)
theorem MC (kn : K7) (R : K1) (hn : N7 Q kn 0 8 10 16 124 125 126) (hr : HR rZ R Q) (h : Fu kn R (g 0) (g 8) (g 10) (g 13) w) : iL pg kQ (gW 5 (cT (fI 1 (gW 1 (fI 12 kE))))) Q g w :=
 kW (l := []) h hn hr trivial
def Ko (kn : K2) (R : K1) (nI FE mX Gf : adW) (w : adV) : Prop :=
 Fu (fun nI FE mX Hk q4 q5 q6 w => Fp kn nI FE mX Hk q4 q5 q6 w) R nI FE mX Gf w
def Fo (kn : K2) (nI mX : adW) (w : adV) : Prop :=
 kn nI mX w
theorem Mz (kn : K2) (hn : N2 Q kn 0 10) (h : Fo kn (g 0) (g 10) w) : iL pg kQ (cE (fI 1 (gW 1 (fI 12 kE)))) Q g w :=
 kW (kr := no) (l := []) h hn lX trivial
def DT (kn : K2) (R : K1) (nI FE mX Gf o7 : adW) (w : adV) : Prop :=
 lQ o7 (Ko kn R nI FE mX Gf w) (Fo kn nI mX w)
def D5 (kn : K5) (nI FE mX Gf : adW) (w : adV) : Prop :=
 eY pg (jB mX) w fun o4 w =>
 eY pg (gM 67 o4 6) w fun o5 w =>
 eY pg (fW 4 o5) w fun o6 w =>
 eY pg (KP .not o6) w fun o7 w =>
 kn nI FE mX Gf o7 w
theorem LV (kn : K5) (hn : N5 Q kn 0 8 10 13 107) (h : D5 kn (g 0) (g 8) (g 10) (g 13) w) : iL pg kQ (gW 1 (gW 1 (fI 12 kE))) Q g w :=
 kW (kr := no) (l := []) h hn lX trivial
def Dl (kn : K2) (R : K1) (nI FE mX Gf : adW) (w : adV) : Prop :=
 D5 (fun nI FE mX Gf o7 w => DT kn R nI FE mX Gf o7 w) nI FE mX Gf w
def vA (R : K1) (nI FE mX Gf : adW) (w : adV) : Prop :=
 Dl (fun nI mX w => wR R nI mX w) R nI FE mX Gf w
theorem L9 (kn : K2) (R : K1) (hn : N2 Q kn 0 10) (hr : HR rZ R Q) (h : Dl kn R (g 0) (g 8) (g 10) (g 13) w) : iL pg kQ (gW 1 (fI 12 kE)) Q g w :=
 rV 1 (LV _ g w (DT kn R) (fun g w h => gY (ZI (.tmp 107) (fun h => (rV 5 (MC _ g w (Fp kn) R (fun g w h => gY (MJ 1 (Mx _ g w kn hn h))) hr h))) (fun h => (Mz _ g w kn hn h)) h)) h)
def DH (kn : K4) (R : K1) (nI uV Zm : adW) (w : adV) : Prop :=
 eY pg (Eo 28 Zm) w fun Ye w =>
 eY pg (gO .eql 32 (.tmp 20) (.const (.pointer none)) nI (.pointer none)) w fun d1 w =>
 Gd (kP d1 false) (fun K => K uV w) w fun d3 w =>
 Gd (kP d1 false) (fun K => eY pg (nG .len #[9] 3 [d3]) w K) w fun d4 w =>
 Gd (kP d1 false) (fun K => eY pg (gO .lss 3 gZ gZ d4 (adX 1)) w K) w fun d5 w =>
 eY pg (lE d1 (.bool true) d5) w fun d6 w =>
 Gd (kP d6 false) (fun K => K uV w) w fun d8 w =>
 Gd (kP d6 false) (fun K => eY pg (nG .len #[9] 3 [d8]) w K) w fun d9 w =>
 Gd (kP d6 false) (fun K => eY pg (gO .gtr 3 gZ gZ d9 (adX 27)) w K) w fun e0 w =>
 eY pg (lE d6 (.bool true) e0) w fun e1 w =>
 lQ e1
  (R (.tuple #[(.pointer none), (adX 1)]) w)
  (eY pg (gM 28 Ye 0) w fun e3 w =>
  eY pg (fW 24 e3) w fun e4 w =>
  eY pg (gM 28 Ye 1) w fun e5 w =>
  eY pg (fW 25 e5) w fun e6 w =>
  eY pg (kX 25 3 e6) w fun e7 w =>
  gU pg rY #[e4, e7] w fun e8 w =>
  eY pg (iW e8 0) w fun e9 w =>
  eY pg (iW e8 1) w fun f0 w =>
  eY pg (gO .neq 29 (.tmp 42) (.const (adX 0)) f0 (adX 0)) w fun f3 w =>
  lQ f3
   (R (.tuple #[(.pointer none), f0]) w)
   (eY pg (gM 28 Ye 2) w fun f7 w =>
   eY pg (fW 26 f7) w fun f8 w =>
   eY pg (nG .len #[26] 3 [f8]) w fun f9 w =>
   eY pg (gO .neq 3 (.tmp 46) (.tmp 49) e9 f9) w fun i0 w =>
   lQ i0
    (R (.tuple #[(.pointer none), (adX 11)]) w)
    (eY pg (gM 28 Ye 2) w fun i1 w =>
    eY pg (fW 26 i1) w fun i2 w =>
    gU pg qA #[i2] w fun i3 w =>
    eY pg (gM 28 Ye 2) w fun i4 w =>
    eY pg (iD 26 i4 i3) w fun _u w =>
    eY pg (fW 28 Ye) w fun i7 w =>
    eY pg (lK 67 [(0, nI), (1, uV), (2, i7)]) w fun i8 w =>
    eY pg (Eo 67 i8) w fun i9 w =>
    gU pg mQ #[i9, uV] w fun j3 w =>
    eY pg (iW j3 0) w fun j4 w =>
    eY pg (iW j3 1) w fun j5 w =>
    eY pg (iW j3 2) w fun j6 w =>
    eY pg (gO .neq 29 (.tmp 67) (.const (adX 0)) j6 (adX 0)) w fun j8 w =>
    lQ j8
     (R (.tuple #[(.pointer none), j6]) w)
     (gU pg lU #[i9, j4] w fun l3 w =>
     eY pg (jB i9) w fun l4 w =>
     eY pg (gM 67 l4 4) w fun l5 w =>
     eY pg (iD 45 l5 l3) w fun _u w =>
     Gd (kP j5 true) (fun K => K j4 w) w fun l9 w =>
     Gd (kP j5 true) (fun K => eY pg (nG .len #[22] 3 [l9]) w K) w fun m0 w =>
     Gd (kP j5 true) (fun K => eY pg (kX 3 24 m0) w K) w fun m1 w =>
     Gd (kP j5 true) (fun K => eY pg (gM 28 Ye 0) w K) w fun m2 w =>
     Gd (kP j5 true) (fun K => eY pg (fW 24 m2) w K) w fun m3 w =>
     Gd (kP j5 true) (fun K => eY pg (gO .eql 24 (.tmp 81) (.tmp 83) m1 m3) w K) w fun m4 w =>
     eY pg (lE j5 m4 (.bool false)) w fun m5 w =>
     Gd (kP m5 true) (fun K => K i9 w) w fun m7 w =>
     Gd (kP m5 true) (fun K => eY pg (jB m7) w K) w fun m8 w =>
     Gd (kP m5 true) (fun K => eY pg (gM 67 m8 4) w K) w fun m9 w =>
     Gd (kP m5 true) (fun K => eY pg (fW 45 m9) w K) w fun n0 w =>
     Gd (kP m5 true) (fun K => gU pg yW #[n0] w K) w fun n1 w =>
     eY pg (lE m5 n1 (.bool false)) w fun n2 w =>
     eY pg (jB i9) w fun n3 w =>
     eY pg (gM 67 n3 6) w fun n4 w =>
     eY pg (iD 4 n4 n2) w fun _u w =>
     gU pg nD #[i9] w fun n7 w =>
     eY pg (iW n7 0) w fun n8 w =>
     eY pg (iW n7 1) w fun n9 w =>
     eY pg (gO .neq 29 (.tmp 100) (.const (adX 0)) n9 (adX 0)) w fun o1 w =>
     lQ o1
      (R (.tuple #[(.pointer none), n9]) w)
      (kn nI e9 i9 n8 w)))))
theorem LR (kn : K4) (R : K1) (hn : N4 Q kn 0 8 10 13) (hr : HR rZ R Q) (h : DH kn R (g 0) (g 1) (g 2) w) : iL pg kQ (gW 12 kE) Q g w :=
 kW (l := []) h hn hr trivial
def D3 (R : K1) (nI uV Zm : adW) (w : adV) : Prop :=
 DH (fun nI FE mX Gf w => vA R nI FE mX Gf w) R nI uV Zm w
theorem LU (R : K1) (hr : HR rZ R Q) (h : D3 R (g 0) (g 1) (g 2) w) : iL pg kQ kE Q g w :=
 rV 12 (LR _ g w (vA R) R (fun g w h => gY (rV 1 (L9 _ g w (wR R) R (fun g w h => gY (MV _ g w R hr h)) hr h))) hr h)
def O1 (a0 a1 a2 : adW) (w : adV) (R : K1) : Prop :=
 D3 R a0 a1 a2 w
theorem Nt {a0 a1 a2 : adW} {w : adV} {R : K1} (h : O1 a0 a1 a2 w R) : gU pg rK #[a0, a1, a2] w R := by
 refine xA (ann := kQ) Tryd.f10 kE [a0, a1, a2] rZ 159 TrydM.mixed Tryd.func10 ?_
 exact (LU _ _ _ R (fun _ _ h => h) h)
def pZ : FA := ⟨jF, fun i => match Nat.beq i 3 with | true => .leaf ([], []) [(false, []), (false, []), (false, []), (false, []), (false, []), (false, []), (false, []), (false, []), (false, []), (false, []), (false, []), (false, [])] | false => match Nat.beq i 5 with | true => .leaf ([], []) [(false, []), (false, []), (false, []), (false, []), (false, []), (false, []), (false, []), (false, []), (false, []), (false, []), (false, []), (false, []), (false, []), (false, [])] | false => match Nat.beq i 9 with | true => .split 12 17 (.perm [0, 1, 2, 3, 4, 5, 6, 7, 8, 9, 10, 11, 12, 13, 14, 15, 16, 17, 18, 19, 20] [(12, 17)] ([12, 17, 18], [(14, 17), (15, 17), (15, 18), (16, 17), (16, 18)]) [(false, []), (false, []), (false, []), (false, []), (false, []), (false, []), (false, []), (false, []), (false, []), (false, []), (false, []), (false, []), (true, []), (false, []), (false, []), (false, []), (false, []), (true, [0, 1, 2]), (true, [1, 2]), (false, []), (false, [])]) (.perm [0, 1, 2, 3, 4, 5, 6, 7, 8, 9, 10, 11, 17, 12, 13, 14, 15, 16, 18, 19, 20] [(17, 12)] ([12, 13, 18], [(0, 12), (1, 12), (2, 12), (3, 12), (4, 12), (5, 12), (6, 12), (7, 12), (8, 12), (9, 12), (10, 12), (11, 12), (16, 18), (17, 18)]) [(false, []), (false, []), (false, []), (false, []), (false, []), (false, []), (false, []), (false, []), (false, []), (false, []), (false, []), (false, []), (true, [0, 1, 2, 3, 4, 5, 6, 7, 8, 9, 10, 11]), (true, []), (false, []), (false, []), (false, []), (false, []), (true, [0, 1]), (false, []), (false, [])]) | false => match Nat.beq i 10 with | true => .leaf ([13, 14, 17], [(0, 13), (0, 14)]) [(false, []), (false, []), (false, []), (false, []), (false, []), (false, []), (false, []), (false, []), (false, []), (false, []), (false, []), (false, []), (false, []), (true, [12]), (true, [13]), (false, []), (false, []), (true, [])] | false => match Nat.beq i 11 with | true => .leaf ([11], []) [(false, []), (false, []), (false, []), (false, []), (false, []), (false, []), (false, []), (false, []), (false, []), (false, []), (false, []), (true, [])] | false => .leaf ([], []) []⟩
def rS : List ResultVar := [.tmp 6]
noncomputable def nA : Code := iZ Tryd.f11
def mP (R : K1) (L7 Ik RG OS : adW) (w : adV) : Prop :=
 eY pg (fW 35 L7) (dr w) fun j5 w_ => w_ = (dr w) /\
 eY pg (Jg (.func 33) [] [L7, OS, RG]) (dr w) fun j6 w_ => w_ = (dr w) /\
 eY pg (fW 35 L7) (dr w) fun j7 w_ => w_ = (dr w) /\
 eY pg (jB j7) (dr w) fun j8 w_ => w_ = (dr w) /\
 eY pg (gM 67 j8 0) (dr w) fun j9 w_ => w_ = (dr w) /\
 eY pg (fW 32 j9) (dr w) fun l0 w_ => w_ = (dr w) /\
 eY pg (Jg (.func 19) [l0] []) (dr w) fun l1 w_ => w_ = (dr w) /\
 eY pg (Jg (.func 34) [] [L7, Ik]) (dr w) fun l2 w_ => w_ = (dr w) /\
 eY pg (fW 35 L7) (dr w) fun l3 w_ => w_ = (dr w) /\
 eY pg (jB l3) (dr w) fun l4 w_ => w_ = (dr w) /\
 eY pg (gM 67 l4 0) (dr w) fun l5 w_ => w_ = (dr w) /\
 eY pg (fW 32 l5) (dr w) fun l6 w_ => w_ = (dr w) /\
 eY pg (Jg (.func 19) [l6] []) (dr w) fun l7 w_ => w_ = (dr w) /\
 eY pg (iF 98 4 [(0, j6), (1, l1), (2, l2), (3, l7)]) (dr w) fun l8 VQ =>
 (gN pg (fW 35 L7) j5 VQ /\ True) /\
 gU pg wV #[l8] VQ fun l9 ME =>
 (gN pg (fW 35 L7) j5 ME /\ True) /\
 eY pg (jB j5) ME fun m0 w_ => w_ = ME /\
 eY pg (gM 67 m0 7) ME fun m1 w_ => w_ = ME /\
 eY pg (iD 29 m1 l9) ME fun _u17 oS =>
 eY pg (fW 35 L7) (dr oS) fun m2 w_ => w_ = (dr oS) /\
 eY pg (jB m2) (dr oS) fun m3 w_ => w_ = (dr oS) /\
 eY pg (gM 67 m3 4) (dr oS) fun m4 w_ => w_ = (dr oS) /\
 eY pg (fW 45 m4) (dr oS) fun m5 w_ => w_ = (dr oS) /\
 eY pg (fW 3 Ik) (dr oS) fun m6 w_ => w_ = (dr oS) /\
 eY pg (fW 35 L7) (dr oS) fun m7 w_ => w_ = (dr oS) /\
 eY pg (jB m7) (dr oS) fun m8 w_ => w_ = (dr oS) /\
 eY pg (gM 67 m8 7) (dr oS) fun m9 w_ => w_ = (dr oS) /\
 eY pg (fW 29 m9) (dr oS) fun n0 w_ => w_ = (dr oS) /\
 eY pg (gO .eql 29 (.tmp 90) (.const (adX 0)) n0 (adX 0)) (dr oS) fun n1 w_ => w_ = (dr oS) /\
 eY pg (iJ 45 m5 m6) (dr oS) fun n2 w_ => w_ = (dr oS) /\
 eY pg (iD 4 n2 n1) (dr oS) fun _u11 Oe =>
 eY pg (fW 35 L7) Oe fun n3 w =>
 eY pg (jB n3) w fun n4 w =>
 eY pg (gM 67 n4 7) w fun n5 w =>
 eY pg (fW 29 n5) w fun n6 w =>
 R n6 w
theorem H9 (R : K1) (hr : HR rS R Q) (h : mP R (g 3) (g 4) (g 5) (g 7) w) : iL pg pZ (fI 3 nA) Q g w :=
 kW (kn := no) (l := []) h lX hr trivial
def yS (kn : K4) (R : K1) (lF Yw V7 : adW) (w : adV) : Prop :=
 eY pg (Eo 35 lF) w fun L7 w =>
 eY pg (Eo 3 Yw) w fun Ik w =>
 eY pg (Eo 22 V7) w fun RG w =>
 eY pg (fW 35 L7) w fun c1 w =>
 gU pg mE #[c1] w fun c2 w =>
 eY pg (gO .neq 29 (.tmp 12) (.const (adX 0)) c2 (adX 0)) w fun c3 w =>
 lQ c3
  (eY pg (fW 35 L7) w fun c4 w =>
  gU pg mE #[c4] w fun c5 w =>
  R c5 w)
  (eY pg (fW 3 Ik) (dr w) fun c7 w_ => w_ = (dr w) /\
  eY pg (gO .lss 3 gZ gZ c7 (adX 0)) (dr w) fun c8 w_ => w_ = (dr w) /\
  (dr w) = (dr w) /\
  Gd (kP c8 false) (fun K => eY pg (fW 3 Ik) (dr w) K) (dr w) fun d0 w_ => w_ = (dr w) /\
  Gd (kP c8 false) (fun K => eY pg (fW 35 L7) (dr w) K) (dr w) fun d1 w_ => w_ = (dr w) /\
  Gd (kP c8 false) (fun K => eY pg (jB d1) (dr w) K) (dr w) fun d2 w_ => w_ = (dr w) /\
  Gd (kP c8 false) (fun K => eY pg (gM 67 d2 4) (dr w) K) (dr w) fun d3 w_ => w_ = (dr w) /\
  Gd (kP c8 false) (fun K => eY pg (fW 45 d3) (dr w) K) (dr w) fun d4 w_ => w_ = (dr w) /\
  Gd (kP c8 false) (fun K => eY pg (nG .len #[45] 3 [d4]) (dr w) K) (dr w) fun d5 w_ => w_ = (dr w) /\
  Gd (kP c8 false) (fun K => eY pg (gO .geq 3 gZ gZ d0 d5) (dr w) K) (dr w) fun d6 w_ => w_ = (dr w) /\
  eY pg (lE c8 (.bool true) d6) (dr w) fun d7 w_ => w_ = (dr w) /\
  (dr w) = (dr w) /\
  lQ d7
   (R (adX 17) (dr w))
   (eY pg (fW 35 L7) (dr (dr w)) fun d9 w_ => w_ = (dr (dr w)) /\
   eY pg (jB d9) (dr (dr w)) fun e0 w_ => w_ = (dr (dr w)) /\
   eY pg (gM 67 e0 6) (dr (dr w)) fun e1 w_ => w_ = (dr (dr w)) /\
   eY pg (fW 4 e1) (dr (dr w)) fun e2 w_ => w_ = (dr (dr w)) /\
   (dr (dr w)) = (dr (dr w)) /\
   Gd (kP e2 false) (fun K => eY pg (fW 35 L7) (dr (dr w)) K) (dr (dr w)) fun e4 w_ => w_ = (dr (dr w)) /\
   Gd (kP e2 false) (fun K => eY pg (jB e4) (dr (dr w)) K) (dr (dr w)) fun e5 w_ => w_ = (dr (dr w)) /\
   Gd (kP e2 false) (fun K => eY pg (gM 67 e5 4) (dr (dr w)) K) (dr (dr w)) fun e6 w_ => w_ = (dr (dr w)) /\
   Gd (kP e2 false) (fun K => eY pg (fW 45 e6) (dr (dr w)) K) (dr (dr w)) fun e7 w_ => w_ = (dr (dr w)) /\
   Gd (kP e2 false) (fun K => eY pg (fW 3 Ik) (dr (dr w)) K) (dr (dr w)) fun e8 w_ => w_ = (dr (dr w)) /\
   Gd (kP e2 false) (fun K => eY pg (iJ 45 e7 e8) (dr (dr w)) K) (dr (dr w)) fun e9 w_ => w_ = (dr (dr w)) /\
   Gd (kP e2 false) (fun K => eY pg (fW 4 e9) (dr (dr w)) K) (dr (dr w)) fun f0 w_ => w_ = (dr (dr w)) /\
   eY pg (lE e2 (.bool true) f0) (dr (dr w)) fun f1 w_ => w_ = (dr (dr w)) /\
   (dr (dr w)) = (dr (dr w)) /\
   lQ f1
    (R (adX 0) (dr (dr w)))
    (eY pg (fW 35 L7) (dr (dr w)) fun f3 w =>
    eY pg (fW 3 Ik) w fun f4 w =>
    eY pg (fW 22 RG) w fun f5 w =>
    gU pg nU #[f3, f4, f5] w fun f6 w =>
    eY pg (KP .not f6) w fun f7 w =>
    lQ f7
     (R (adX 13) w)
     (Ord (WZ jF 9 (Kc 9 nA) 12 17 w)
      (eY pg (fW 35 L7) (dr w) fun f9 w_ => w_ = (dr w) /\
      eY pg (jB f9) (dr w) fun i0 w_ => w_ = (dr w) /\
      eY pg (gM 67 i0 2) (dr w) fun i1 w_ => w_ = (dr w) /\
      eY pg (gM 28 i1 0) (dr w) fun i2 w_ => w_ = (dr w) /\
      eY pg (fW 24 i2) (dr w) fun i3 w_ => w_ = (dr w) /\
      eY pg (fW 35 L7) (dr w) fun i4 w_ => w_ = (dr w) /\
      eY pg (jB i4) (dr w) fun i5 w_ => w_ = (dr w) /\
      eY pg (gM 67 i5 2) (dr w) fun i6 w_ => w_ = (dr w) /\
      eY pg (gM 28 i6 1) (dr w) fun i7 w_ => w_ = (dr w) /\
      eY pg (fW 25 i7) (dr w) fun i8 w_ => w_ = (dr w) /\
      eY pg (kX 25 3 i8) (dr w) fun i9 w_ => w_ = (dr w) /\
      eY pg (fW 3 Ik) (dr w) fun j0 w_ => w_ = (dr w) /\
      gU pg pN #[i3, i9, j0] (dr w) fun j1 uE =>
      uE = uE /\
      eY pg (iW j1 0) uE fun j2 w_ => w_ = uE /\
      eY pg (iW j1 1) uE fun j3 w_ => w_ = uE /\
      eY pg (iW j1 2) uE fun j4 w_ => w_ = uE /\
      eY pg (lR 24) uE fun OS Ty =>
      (gN pg (iW j1 2) j4 Ty /\ gN pg (iW j1 1) j3 Ty /\ gN pg (iW j1 0) j2 Ty /\ True) /\
      eY pg (iD 24 OS j2) Ty fun _u18 Du =>
      (gN pg (iW j1 2) j4 Du /\ gN pg (iW j1 1) j3 Du /\ True) /\
      Du = Du /\
      Du = Du /\
      kn L7 Ik RG OS Du)
      (eY pg (fW 35 L7) (dr w) fun f9 w_ => w_ = (dr w) /\
      eY pg (jB f9) (dr w) fun i0 w_ => w_ = (dr w) /\
      eY pg (gM 67 i0 2) (dr w) fun i1 w_ => w_ = (dr w) /\
      eY pg (gM 28 i1 0) (dr w) fun i2 w_ => w_ = (dr w) /\
      eY pg (fW 24 i2) (dr w) fun i3 w_ => w_ = (dr w) /\
      eY pg (fW 35 L7) (dr w) fun i4 w_ => w_ = (dr w) /\
      eY pg (jB i4) (dr w) fun i5 w_ => w_ = (dr w) /\
      eY pg (gM 67 i5 2) (dr w) fun i6 w_ => w_ = (dr w) /\
      eY pg (gM 28 i6 1) (dr w) fun i7 w_ => w_ = (dr w) /\
      eY pg (fW 25 i7) (dr w) fun i8 w_ => w_ = (dr w) /\
      eY pg (kX 25 3 i8) (dr w) fun i9 w_ => w_ = (dr w) /\
      eY pg (fW 3 Ik) (dr w) fun j0 w_ => w_ = (dr w) /\
      eY pg (lR 24) (dr w) fun OS uE =>
      (gN pg (fW 3 Ik) j0 uE /\ gN pg (kX 25 3 i8) i9 uE /\ gN pg (fW 25 i7) i8 uE /\ gN pg (gM 28 i6 1) i7 uE /\ gN pg (gM 67 i5 2) i6 uE /\ gN pg (jB i4) i5 uE /\ gN pg (fW 35 L7) i4 uE /\ gN pg (fW 24 i2) i3 uE /\ gN pg (gM 28 i1 0) i2 uE /\ gN pg (gM 67 i0 2) i1 uE /\ gN pg (jB f9) i0 uE /\ gN pg (fW 35 L7) f9 uE /\ True) /\
      gU pg pN #[i3, i9, j0] uE fun j1 Ll =>
      Ll = Ll /\
      eY pg (iW j1 0) Ll fun j2 w_ => w_ = Ll /\
      eY pg (iW j1 1) Ll fun j3 w_ => w_ = Ll /\
      eY pg (iW j1 2) Ll fun j4 w_ => w_ = Ll /\
      eY pg (iD 24 OS j2) Ll fun _u18 Du =>
      (gN pg (iW j1 2) j4 Du /\ gN pg (iW j1 1) j3 Du /\ True) /\
      Du = Du /\
      Du = Du /\
      kn L7 Ik RG OS Du)))))
theorem Iu (kn : K4) (R : K1) (hn : N4 Q kn 3 4 5 7) (hr : HR rS R Q) (h : yS kn R (g 0) (g 1) (g 2) w) : iL pg pZ (gW 3 nA) Q g w :=
 kW (l := []) h hn hr trivial
def yI (R : K1) (lF Yw V7 : adW) (w : adV) : Prop :=
 yS (fun L7 Ik RG OS w => mP R L7 Ik RG OS w) R lF Yw V7 w
theorem H6 (R : K1) (hr : HR rS R Q) (h : yI R (g 0) (g 1) (g 2) w) : iL pg pZ nA Q g w :=
 rV 3 (Iu _ g w (mP R) R (fun g w h => gY (H9 _ g w R hr h)) hr h)
def HN (a0 a1 a2 : adW) (w : adV) (R : K1) : Prop :=
 yI R a0 a1 a2 w
theorem IS {a0 a1 a2 : adW} {w : adV} {R : K1} (h : HN a0 a1 a2 w R) : gU pg jF #[a0, a1, a2] w R := by
 refine xA (ann := pZ) Tryd.f11 nA [a0, a1, a2] rS 97 TrydM.mixed Tryd.func11 ?_
 exact (H6 _ _ _ R (fun _ _ h => h) h)
def zJ : FA := ⟨kL, fun i => match Nat.beq i 7 with | true => .leaf ([9], []) [(false, []), (false, []), (false, []), (false, []), (false, []), (false, []), (false, []), (false, []), (false, []), (true, []), (false, []), (false, []), (false, []), (false, []), (false, [])] | false => match Nat.beq i 11 with | true => .leaf ([3, 6], [(0, 3)]) [(false, []), (false, []), (false, []), (true, [2]), (false, []), (false, []), (true, [])] | false => match Nat.beq i 14 with | true => .leaf ([7, 8, 11], [(0, 7), (0, 8)]) [(false, []), (false, []), (false, []), (false, []), (false, []), (false, []), (false, []), (true, [6]), (true, [7]), (false, []), (false, []), (true, [])] | false => match Nat.beq i 15 with | true => .leaf ([8], []) [(false, []), (false, []), (false, []), (false, []), (false, []), (false, []), (false, []), (false, []), (true, [])] | false => .leaf ([], []) []⟩
def AM : List ResultVar := [.tmp 2]
noncomputable def zF : Code := iZ Tryd.f12
def sO (R : K1) (lF : adW) (w : adV) : Prop :=
 eY pg (Eo 35 lF) w fun QD w =>
 eY pg (fW 35 QD) w fun b6 w =>
 gU pg mE #[b6] w fun b7 w =>
 eY pg (gO .neq 29 (.tmp 7) (.const (adX 0)) b7 (adX 0)) w fun b8 w =>
 lQ b8
  (eY pg (fW 35 QD) w fun b9 w =>
  gU pg mE #[b9] w fun c0 w =>
  R c0 w)
  (eY pg (fW 35 QD) w fun c2 w =>
  eY pg (jB c2) w fun c3 w =>
  eY pg (gM 67 c3 6) w fun c4 w =>
  eY pg (fW 4 c4) w fun c5 w =>
  lQ c5
   (R (adX 0) w)
   (eY pg (fW 35 QD) w fun c7 w =>
   eY pg (jB c7) w fun c8 w =>
   eY pg (gM 67 c8 4) w fun c9 w =>
   eY pg (fW 45 c9) w fun d0 w =>
   gU pg yW #[d0] w fun d1 w =>
   eY pg (KP .not d1) w fun d2 w =>
   lQ d2
    (R (adX 30) w)
    (eY pg (fW 35 QD) (dr w) fun d4 w_ => w_ = (dr w) /\
    eY pg (jB d4) (dr w) fun d5 w_ => w_ = (dr w) /\
    eY pg (gM 67 d5 0) (dr w) fun d6 w_ => w_ = (dr w) /\
    eY pg (fW 32 d6) (dr w) fun d7 w_ => w_ = (dr w) /\
    eY pg (fW 35 QD) (dr w) fun d8 w_ => w_ = (dr w) /\
    eY pg (jB d8) (dr w) fun d9 w_ => w_ = (dr w) /\
    eY pg (gM 67 d9 1) (dr w) fun e0 w_ => w_ = (dr w) /\
    eY pg (fW 9 e0) (dr w) fun e1 w_ => w_ = (dr w) /\
    eY pg (gO .add 9 gZ gZ e1 (.string ⟨#[46, 112, 97, 114, 116]⟩)) (dr w) fun e2 w_ => w_ = (dr w) /\
    gU pg lG #[d7, e2] (dr w) fun e3 Ji =>
    Ji = Ji /\
    eY pg (iW e3 0) Ji fun e4 w_ => w_ = Ji /\
    eY pg (iW e3 1) Ji fun e5 w_ => w_ = Ji /\
    Ji = Ji /\
    Ji = Ji /\
    eY pg (gO .neq 29 (.tmp 36) (.const (adX 0)) e5 (adX 0)) Ji fun e7 w =>
    lQ e7
     (eY pg (fW 35 QD) w fun e8 w =>
     eY pg (jB e8) w fun f0 w =>
     eY pg (gM 67 f0 7) w fun f1 w =>
     eY pg (iD 29 f1 e5) w fun _u w =>
     R e5 w)
     (eY pg (fW 35 QD) (dr w) fun f3 w_ => w_ = (dr w) /\
     eY pg (fW 35 QD) (dr w) fun f4 w_ => w_ = (dr w) /\
     (dr w) = (dr w) /\
     gU pg lU #[f4, e4] (dr w) fun f6 Qc =>
     (gN pg (fW 35 QD) f3 Qc /\ True) /\
     eY pg (jB f3) Qc fun f7 w_ => w_ = Qc /\
     eY pg (gM 67 f7 4) Qc fun f8 w_ => w_ = Qc /\
     eY pg (iD 45 f8 f6) Qc fun _u6 YB =>
     eY pg (fW 35 QD) YB fun f9 w =>
     eY pg (jB f9) w fun i0 w =>
     eY pg (gM 67 i0 4) w fun i1 w =>
     eY pg (fW 45 i1) w fun i2 w =>
     gU pg yW #[i2] w fun i3 w =>
     eY pg (KP .not i3) w fun i4 w =>
     lQ i4
      (R (adX 13) w)
      (eY pg (fW 35 QD) (dr w) fun i5 w_ => w_ = (dr w) /\
      eY pg (Jg (.func 36) [] [QD]) (dr w) fun i6 w_ => w_ = (dr w) /\
      eY pg (fW 35 QD) (dr w) fun i7 w_ => w_ = (dr w) /\
      eY pg (jB i7) (dr w) fun i8 w_ => w_ = (dr w) /\
      eY pg (gM 67 i8 0) (dr w) fun i9 w_ => w_ = (dr w) /\
      eY pg (fW 32 i9) (dr w) fun j0 w_ => w_ = (dr w) /\
      eY pg (Jg (.func 19) [j0] []) (dr w) fun j1 w_ => w_ = (dr w) /\
      eY pg (iF 98 2 [(0, i6), (1, j1)]) (dr w) fun j2 XF =>
      (gN pg (fW 35 QD) i5 XF /\ True) /\
      gU pg wV #[j2] XF fun j3 P2 =>
      (gN pg (fW 35 QD) i5 P2 /\ True) /\
      eY pg (jB i5) P2 fun j4 w_ => w_ = P2 /\
      eY pg (gM 67 j4 7) P2 fun j5 w_ => w_ = P2 /\
      eY pg (iD 29 j5 j3) P2 fun _u11 uB =>
      eY pg (fW 35 QD) (dr uB) fun j6 w_ => w_ = (dr uB) /\
      eY pg (fW 35 QD) (dr uB) fun j7 w_ => w_ = (dr uB) /\
      eY pg (jB j7) (dr uB) fun j8 w_ => w_ = (dr uB) /\
      eY pg (gM 67 j8 7) (dr uB) fun j9 w_ => w_ = (dr uB) /\
      eY pg (fW 29 j9) (dr uB) fun l0 w_ => w_ = (dr uB) /\
      eY pg (gO .eql 29 (.tmp 70) (.const (adX 0)) l0 (adX 0)) (dr uB) fun l1 w_ => w_ = (dr uB) /\
      eY pg (jB j6) (dr uB) fun l2 w_ => w_ = (dr uB) /\
      eY pg (gM 67 l2 6) (dr uB) fun l3 w_ => w_ = (dr uB) /\
      eY pg (iD 4 l3 l1) (dr uB) fun _u8 Zd =>
      eY pg (fW 35 QD) Zd fun l4 w =>
      eY pg (jB l4) w fun l5 w =>
      eY pg (gM 67 l5 7) w fun l6 w =>
      eY pg (fW 29 l6) w fun l7 w =>
      R l7 w)))))
theorem Fy (R : K1) (hr : HR AM R Q) (h : sO R (g 0) w) : iL pg zJ zF Q g w :=
 kW (kn := no) (l := []) h lX hr trivial
def Ef (a0 : adW) (w : adV) (R : K1) : Prop :=
 sO R a0 w
theorem FQ {a0 : adW} {w : adV} {R : K1} (h : Ef a0 w R) : gU pg kL #[a0] w R := by
 refine xA (ann := zJ) Tryd.f12 zF [a0] AM 78 TrydM.mixed Tryd.func12 ?_
 exact (Fy _ _ _ R (fun _ _ h => h) h)
def DY : FA := ⟨lG, fun i => .leaf ([], []) []⟩
def EP : List ResultVar := [.tmp 4, .tmp 5]
noncomputable def CI : Code := iZ Tryd.f13
def As (R : K1) (nI uV : adW) (w : adV) : Prop :=
 gU pg nE #[nI] w fun c0 w =>
 eY pg (gO .neq 29 (.tmp 11) (.const (adX 0)) c0 (adX 0)) w fun c2 w =>
 lQ c2
  (R (.tuple #[(.slice none 0 0), c0]) w)
  (eY pg (jB nI) w fun c6 w =>
  eY pg (gM 64 c6 2) w fun c7 w =>
  eY pg (fW 61 c7) w fun c8 w =>
  eY pg (Ak 61 c8 uV true) w fun d0 w =>
  eY pg (iW d0 0) w fun d1 w =>
  eY pg (iW d0 1) w fun d2 w =>
  eY pg (KP .not d2) w fun d4 w =>
  lQ d4
   (R (.tuple #[(.slice none 0 0), (adX 21)]) w)
   (gU pg kM #[d1] w fun d6 w =>
   R (.tuple #[d6, (adX 0)]) w))
theorem Jz (R : K1) (hr : HR EP R Q) (h : As R (g 0) (g 1) w) : iL pg DY CI Q g w :=
 kW (kn := no) (l := []) h lX hr trivial
def IY (a0 a1 : adW) (w : adV) (R : K1) : Prop :=
 As R a0 a1 w
theorem J7 {a0 a1 : adW} {w : adV} {R : K1} (h : IY a0 a1 w R) : gU pg lG #[a0, a1] w R := by
 refine xA (ann := DY) Tryd.f13 CI [a0, a1] EP 27 TrydM.mixed Tryd.func13 ?_
 exact (Jz _ _ _ R (fun _ _ h => h) h)
def BX : FA := ⟨lA, fun i => .leaf ([], []) []⟩
def CB : List ResultVar := [.tmp 2]
noncomputable def A0 : Code := iZ Tryd.f14
def qD (R : K1) (lF : adW) (w : adV) : Prop :=
 eY pg (gO .neq 35 (.tmp 3) (.const (.pointer none)) lF (.pointer none)) w fun b4 w =>
 Gd (kP b4 true) (fun K => K lF w) w fun b6 w =>
 Gd (kP b4 true) (fun K => eY pg (jB b6) w K) w fun b7 w =>
 Gd (kP b4 true) (fun K => eY pg (gM 67 b7 6) w K) w fun b8 w =>
 Gd (kP b4 true) (fun K => eY pg (fW 4 b8) w K) w fun b9 w =>
 eY pg (lE b4 b9 (.bool false)) w fun c0 w =>
 R c0 w
theorem HB (R : K1) (hr : HR CB R Q) (h : qD R (g 0) w) : iL pg BX A0 Q g w :=
 kW (kn := no) (l := []) h lX hr trivial
def Bn (a0 : adW) (w : adV) (R : K1) : Prop :=
 qD R a0 w
theorem AK {a0 : adW} {w : adV} {R : K1} (h : Bn a0 w R) : gU pg lA #[a0] w R := by
 refine xA (ann := BX) Tryd.f14 A0 [a0] CB 11 TrydM.mixed Tryd.func14 ?_
 exact (HB _ _ _ R (fun _ _ h => h) h)
def AT : FA := ⟨mG, fun i => .leaf ([], []) []⟩
def BD : List ResultVar := [.tmp 2]
noncomputable def zY : Code := iZ Tryd.f15
def uQ (R : K1) (lF : adW) (w : adV) : Prop :=
 eY pg (gO .eql 35 (.tmp 3) (.const (.pointer none)) lF (.pointer none)) w fun b4 w =>
 lQ b4
  (R (.int .u64 0) w)
  (eY pg (jB lF) w fun b6 w =>
  eY pg (gM 67 b6 3) w fun b7 w =>
  eY pg (fW 24 b7) w fun b8 w =>
  R b8 w)
theorem Gc (R : K1) (hr : HR BD R Q) (h : uQ R (g 0) w) : iL pg AT zY Q g w :=
 kW (kn := no) (l := []) h lX hr trivial
def EL (a0 : adW) (w : adV) (R : K1) : Prop :=
 uQ R a0 w
theorem Hx {a0 : adW} {w : adV} {R : K1} (h : EL a0 w R) : gU pg mG #[a0] w R := by
 refine xA (ann := AT) Tryd.f15 zY [a0] BD 9 TrydM.mixed Tryd.func15 ?_
 exact (Gc _ _ _ R (fun _ _ h => h) h)
def CK : FA := ⟨lM, fun i => match Nat.beq i 9 with | true => .leaf ([4], [(4, 7), (4, 8), (4, 10), (4, 11), (4, 14), (4, 15), (4, 16)]) [(false, []), (false, []), (false, []), (false, []), (true, []), (false, []), (false, []), (false, [2]), (false, [3]), (false, []), (false, [5]), (false, [6]), (false, []), (false, []), (false, [9]), (false, [10]), (false, [11]), (false, []), (false, [])] | false => .leaf ([], []) []⟩
def CY : List ResultVar := [.tmp 8]
noncomputable def BB : Code := iZ Tryd.f16
def yK (R : K1) (nI uV VS SY : adW) (w : adV) : Prop :=
 gU pg nE #[nI] w fun c2 w =>
 eY pg (gO .neq 29 (.tmp 13) (.const (adX 0)) c2 (adX 0)) w fun c4 w =>
 lQ c4
  (R c2 w)
  (eY pg (jB nI) w fun c7 w =>
  eY pg (gM 64 c7 2) w fun c8 w =>
  eY pg (fW 61 c8) w fun c9 w =>
  eY pg (Ak 61 c9 uV false) w fun d1 w =>
  eY pg (nG .len #[22] 3 [d1]) w fun d2 w =>
  gU pg A5 #[uV] w fun d5 w =>
  eY pg (KP .not d5) w fun d6 w =>
  Gd (kP d6 false) (fun K => K VS w) w fun d8 w =>
  Gd (kP d6 false) (fun K => eY pg (gO .lss 3 gZ gZ d8 (adX 0)) w K) w fun d9 w =>
  eY pg (lE d6 (.bool true) d9) w fun e0 w =>
  lQ e0
   (R (adX 1) w)
   (eY pg (gO .gtr 3 gZ gZ VS d2) w fun e4 w =>
   lQ e4
    (R (adX 17) w)
    ((dr w) = (dr w) /\
    eY pg (jB nI) (dr w) fun e7 w_ => w_ = (dr w) /\
    eY pg (gM 64 e7 2) (dr w) fun e8 w_ => w_ = (dr w) /\
    eY pg (fW 61 e8) (dr w) fun e9 w_ => w_ = (dr w) /\
    gU pg tD #[e9] (dr w) fun f0 zG =>
    zG = zG /\
    zG = zG /\
    eY pg (nG .len #[22] 3 [SY]) zG fun f3 w_ => w_ = zG /\
    (gN pg (nG .len #[22] 3 [SY]) f3 (dr w) /\ True) /\
    eY pg (gO .add 3 gZ gZ VS f3) zG fun f4 w_ => w_ = zG /\
    (gN pg (gO .add 3 gZ gZ VS f3) f4 (dr w) /\ True) /\
    zG = zG /\
    eY pg (gO .sub 3 gZ gZ f4 d2) zG fun f6 w_ => w_ = zG /\
    (gN pg (gO .sub 3 gZ gZ f4 d2) f6 (dr w) /\ True) /\
    eY pg (nG .max #[3, 3] 3 [f6, (adX 0)]) zG fun f7 w_ => w_ = zG /\
    (gN pg (nG .max #[3, 3] 3 [f6, (adX 0)]) f7 (dr w) /\ True) /\
    eY pg (gO .add 3 gZ gZ f0 f7) zG fun f8 w_ => w_ = zG /\
    zG = zG /\
    eY pg (jB nI) zG fun i0 w_ => w_ = zG /\
    (gN pg (jB nI) i0 (dr w) /\ True) /\
    eY pg (gM 64 i0 0) zG fun i1 w_ => w_ = zG /\
    (gN pg (gM 64 i0 0) i1 (dr w) /\ True) /\
    eY pg (fW 3 i1) zG fun i2 w_ => w_ = zG /\
    (gN pg (fW 3 i1) i2 (dr w) /\ True) /\
    eY pg (gO .gtr 3 gZ gZ f8 i2) zG fun i3 w_ => w_ = zG /\
    zG = zG /\
    lQ i3
     (R (adX 22) zG)
     (gU pg kM #[SY] zG fun i8 w =>
     eY pg (lK 88 [(0, (adX 0)), (1, uV), (3, VS), (4, i8)]) w fun i9 w =>
     gU pg oN #[nI, i9] w fun j0 w =>
     R j0 w))))
theorem HY (R : K1) (hr : HR CY R Q) (h : yK R (g 0) (g 1) (g 2) (g 3) w) : iL pg CK BB Q g w :=
 kW (kn := no) (l := []) h lX hr trivial
def HS (a0 a1 a2 a3 : adW) (w : adV) (R : K1) : Prop :=
 yK R a0 a1 a2 a3 w
theorem I6 {a0 a1 a2 a3 : adW} {w : adV} {R : K1} (h : HS a0 a1 a2 a3 w R) : gU pg lM #[a0, a1, a2, a3] w R := by
 refine xA (ann := CK) Tryd.f16 BB [a0, a1, a2, a3] CY 61 TrydM.mixed Tryd.func16 ?_
 exact (HY _ _ _ R (fun _ _ h => h) h)
def B4 : FA := ⟨rQ, fun i => .leaf ([], []) []⟩
def CG : List ResultVar := [.tmp 2]
noncomputable def AW : Code := iZ Tryd.f17
def wJ (R : K1) (lF : adW) (w : adV) : Prop :=
 eY pg (gO .eql 35 (.tmp 3) (.const (.pointer none)) lF (.pointer none)) w fun b4 w =>
 lQ b4
  (R (.slice none 0 0) w)
  (eY pg (jB lF) w fun b6 w =>
  eY pg (gM 67 b6 4) w fun b7 w =>
  eY pg (fW 45 b7) w fun b8 w =>
  gU pg oH #[b8] w fun b9 w =>
  R b9 w)
theorem GV (R : K1) (hr : HR CG R Q) (h : wJ R (g 0) w) : iL pg B4 AW Q g w :=
 kW (kn := no) (l := []) h lX hr trivial
def FM (a0 : adW) (w : adV) (R : K1) : Prop :=
 wJ R a0 w
theorem Iz {a0 : adW} {w : adV} {R : K1} (h : FM a0 w R) : gU pg rQ #[a0] w R := by
 refine xA (ann := B4) Tryd.f17 AW [a0] CG 10 TrydM.mixed Tryd.func17 ?_
 exact (GV _ _ _ R (fun _ _ h => h) h)
def HM : FA := ⟨wX, fun i => .leaf ([], []) []⟩
def IU : List ResultVar := [.cell 2 49]
noncomputable def FX : Code := iZ Tryd.f18
def Dn (R : K1) (AH : adW) (w : adV) : Prop :=
 eY pg (lR 49) w fun b2 w =>
 eY pg (iF 22 1 [(0, (.int .u8 0))]) w fun b3 w =>
 eY pg (nG .append #[22, 22] 22 [b3, AH]) w fun b5 w =>
 gU pg IJ #[b5] w fun b6 w =>
 eY pg (iD 49 b2 b6) w fun _u w =>
 U0 pg 49 b2 w fun r0 => R r0 w
theorem LN (R : K1) (hr : HR IU R Q) (h : Dn R (g 0) w) : iL pg HM FX Q g w :=
 kW (kn := no) (l := []) h lX hr trivial
def Nb (a0 : adW) (w : adV) (R : K1) : Prop :=
 Dn R a0 w
theorem Mm {a0 : adW} {w : adV} {R : K1} (h : Nb a0 w R) : gU pg wX #[a0] w R := by
 refine xA (ann := HM) Tryd.f18 FX [a0] IU 7 TrydM.mixed Tryd.func18 ?_
 exact (LN _ _ _ R (fun _ _ h => h) h)
def Dj : FA := ⟨jN, fun i => .leaf ([], []) []⟩
def Ez : List ResultVar := [.tmp 2]
noncomputable def CH : Code := iZ Tryd.f19
def AD (R : K1) (nI : adW) (w : adV) : Prop :=
 gU pg nE #[nI] w fun b5 w =>
 eY pg (gO .neq 29 (.tmp 6) (.const (adX 0)) b5 (adX 0)) w fun b7 w =>
 lQ b7
  (R b5 w)
  (gU pg pI #[nI] w fun c0 w =>
  lQ c0
   (R (adX 20) w)
   (eY pg (jB nI) w fun c4 w =>
   eY pg (gM 64 c4 2) w fun c5 w =>
   eY pg (fW 61 c5) w fun c6 w =>
   gU pg Ai #[c6] w fun c7 w =>
   eY pg (jB nI) w fun c8 w =>
   eY pg (gM 64 c8 1) w fun c9 w =>
   eY pg (iD 61 c9 c7) w fun _u w =>
   eY pg (jB nI) w fun d0 w =>
   eY pg (gM 64 d0 3) w fun d1 w =>
   eY pg (iD 62 d1 (.slice none 0 0)) w fun _u w =>
   R (adX 0) w))
theorem Jv (R : K1) (hr : HR Ez R Q) (h : AD R (g 0) w) : iL pg Dj CH Q g w :=
 kW (kn := no) (l := []) h lX hr trivial
def Ja (a0 : adW) (w : adV) (R : K1) : Prop :=
 AD R a0 w
theorem JS {a0 : adW} {w : adV} {R : K1} (h : Ja a0 w R) : gU pg jN #[a0] w R := by
 refine xA (ann := Dj) Tryd.f19 CH [a0] Ez 22 TrydM.mixed Tryd.func19 ?_
 exact (Jv _ _ _ R (fun _ _ h => h) h)
def Cz : FA := ⟨mE, fun i => .leaf ([], []) []⟩
def DZ : List ResultVar := [.tmp 2]
noncomputable def BC : Code := iZ Tryd.f20
def xU (R : K1) (lF : adW) (w : adV) : Prop :=
 eY pg (gO .eql 35 (.tmp 3) (.const (.pointer none)) lF (.pointer none)) w fun b4 w =>
 lQ b4
  (R (adX 1) w)
  (eY pg (jB lF) w fun b6 w =>
  eY pg (gM 67 b6 7) w fun b7 w =>
  eY pg (fW 29 b7) w fun b8 w =>
  R b8 w)
theorem It (R : K1) (hr : HR DZ R Q) (h : xU R (g 0) w) : iL pg Cz BC Q g w :=
 kW (kn := no) (l := []) h lX hr trivial
def HP (a0 : adW) (w : adV) (R : K1) : Prop :=
 xU R a0 w
theorem Jx {a0 : adW} {w : adV} {R : K1} (h : HP a0 w R) : gU pg mE #[a0] w R := by
 refine xA (ann := Cz) Tryd.f20 BC [a0] DZ 9 TrydM.mixed Tryd.func20 ?_
 exact (It _ _ _ R (fun _ _ h => h) h)
def xF : FA := ⟨rY, fun i => .leaf ([], []) []⟩
def zR : List ResultVar := [.tmp 4, .tmp 5]
noncomputable def vU : Code := iZ Tryd.f23
def oU (R : K1) (Sq : adW) (w : adV) : Prop :=
 eY pg (gO .gtr 24 gZ gZ Sq (.int .u64 1024)) w fun d5 w =>
 lQ d5
  (R (.tuple #[(adX 0), (adX 12)]) w)
  (eY pg (kX 24 3 Sq) w fun d7 w =>
  R (.tuple #[d7, (adX 0)]) w)
theorem Lf (R : K1) (hr : HR zR R Q) (h : oU R (g 6) w) : iL pg xF (fI 4 vU) Q g w :=
 kW (kn := no) (l := []) h lX hr trivial
def Db (kn : K1) (R : K1) (KC kH : adW) (w : adV) : Prop :=
 eY pg (gO .lss 3 gZ gZ kH (adX 1)) w fun b8 w =>
 Gd (kP b8 false) (fun K => K kH w) w fun c0 w =>
 Gd (kP b8 false) (fun K => eY pg (gO .gtr 3 gZ gZ c0 (adX 65536)) w K) w fun c1 w =>
 eY pg (lE b8 (.bool true) c1) w fun c2 w =>
 lQ c2
  (R (.tuple #[(adX 0), (adX 1)]) w)
  (eY pg (kX 3 24 kH) w fun c5 w =>
  eY pg (gO .quo 24 gZ gZ KC c5) w fun c6 w =>
  eY pg (kX 3 24 kH) w fun c9 w =>
  eY pg (gO .rem 24 gZ gZ KC c9) w fun d0 w =>
  eY pg (gO .gtr 24 gZ gZ d0 (.int .u64 0)) w fun d1 w =>
  lQ d1
   (eY pg (gO .add 24 gZ gZ c6 (.int .u64 1)) w fun d3 w =>
   kn d3 w)
   (kn c6 w))
theorem Lc (kn : K1) (R : K1) (hn : N1 Q kn 6) (hr : HR zR R Q) (h : Db kn R (g 0) (g 1) w) : iL pg xF (gW 4 vU) Q g w :=
 kW (l := []) h hn hr trivial
def DO (R : K1) (KC kH : adW) (w : adV) : Prop :=
 Db (fun Sq w => oU R Sq w) R KC kH w
theorem L1 (R : K1) (hr : HR zR R Q) (h : DO R (g 0) (g 1) w) : iL pg xF vU Q g w :=
 rV 4 (Lc _ g w (oU R) R (fun g w h => gY (Lf _ g w R hr h)) hr h)
def Nr (a0 a1 : adW) (w : adV) (R : K1) : Prop :=
 DO R a0 a1 w
theorem Mr {a0 a1 : adW} {w : adV} {R : K1} (h : Nr a0 a1 w R) : gU pg rY #[a0, a1] w R := by
 refine xA (ann := xF) Tryd.f23 vU [a0, a1] zR 28 TrydM.mixed Tryd.func23 ?_
 exact (L1 _ _ _ R (fun _ _ h => h) h)
def Jp : FA := ⟨pN, fun i => .leaf ([], []) []⟩
def Kn : List ResultVar := [.tmp 6, .tmp 7, .tmp 8]
noncomputable def HQ : Code := iZ Tryd.f24
def Fj (R : K1) (KC kH Zs : adW) (w : adV) : Prop :=
 gU pg rY #[KC, kH] w fun c5 w =>
 eY pg (iW c5 0) w fun c6 w =>
 eY pg (iW c5 1) w fun c7 w =>
 eY pg (gO .neq 29 (.tmp 19) (.const (adX 0)) c7 (adX 0)) w fun d0 w =>
 lQ d0
  (R (.tuple #[(.int .u64 0), (adX 0), c7]) w)
  (eY pg (gO .lss 3 gZ gZ Zs (adX 0)) w fun d4 w =>
  Gd (kP d4 false) (fun K => K Zs w) w fun d6 w =>
  Gd (kP d4 false) (fun K => K c6 w) w fun d7 w =>
  Gd (kP d4 false) (fun K => eY pg (gO .geq 3 gZ gZ d6 d7) w K) w fun d8 w =>
  eY pg (lE d4 (.bool true) d8) w fun d9 w =>
  lQ d9
   (R (.tuple #[(.int .u64 0), (adX 0), (adX 17)]) w)
   (eY pg (kX 3 24 kH) w fun e1 w =>
   eY pg (kX 3 24 Zs) w fun e3 w =>
   eY pg (gO .mul 24 gZ gZ e1 e3) w fun e4 w =>
   eY pg (gO .sub 24 gZ gZ KC e4) w fun e8 w =>
   eY pg (kX 3 24 kH) w fun f0 w =>
   eY pg (nG .min #[24, 24] 24 [e8, f0]) w fun f1 w =>
   eY pg (kX 24 3 f1) w fun f2 w =>
   R (.tuple #[e4, f2, (adX 0)]) w))
theorem MI (R : K1) (hr : HR Kn R Q) (h : Fj R (g 0) (g 1) (g 2) w) : iL pg Jp HQ Q g w :=
 kW (kn := no) (l := []) h lX hr trivial
def OH (a0 a1 a2 : adW) (w : adV) (R : K1) : Prop :=
 Fj R a0 a1 a2 w
theorem NI {a0 a1 a2 : adW} {w : adV} {R : K1} (h : OH a0 a1 a2 w R) : gU pg pN #[a0, a1, a2] w R := by
 refine xA (ann := Jp) Tryd.f24 HQ [a0, a1, a2] Kn 43 TrydM.mixed Tryd.func24 ?_
 exact (MI _ _ _ R (fun _ _ h => h) h)
def AU : FA := ⟨qA, fun i => .leaf ([], []) []⟩
def BJ : List ResultVar := [.tmp 2]
noncomputable def zS : Code := iZ Tryd.f25
def uC (R : K1) (lF : adW) (w : adV) : Prop :=
 eY pg (gO .eql 26 (.tmp 3) (.const (.slice none 0 0)) lF (.slice none 0 0)) w fun b4 w =>
 lQ b4
  (R (.slice none 0 0) w)
  (eY pg (iF 26 0 []) w fun b5 w =>
  eY pg (nG .append #[26, 26] 26 [b5, lF]) w fun b7 w =>
  R b7 w)
theorem GL (R : K1) (hr : HR BJ R Q) (h : uC R (g 0) w) : iL pg AU zS Q g w :=
 kW (kn := no) (l := []) h lX hr trivial
def EO (a0 : adW) (w : adV) (R : K1) : Prop :=
 uC R a0 w
theorem GW {a0 : adW} {w : adV} {R : K1} (h : EO a0 w R) : gU pg qA #[a0] w R := by
 refine xA (ann := AU) Tryd.f25 zS [a0] BJ 8 TrydM.mixed Tryd.func25 ?_
 exact (GL _ _ _ R (fun _ _ h => h) h)
def BR : FA := ⟨mQ, fun i => .leaf ([], []) []⟩
def Cx : List ResultVar := [.tmp 4, .tmp 5, .tmp 6]
noncomputable def AR : Code := iZ Tryd.f26
def wM (R : K1) (lF uV : adW) (w : adV) : Prop :=
 eY pg (jB lF) w fun c1 w =>
 eY pg (gM 67 c1 0) w fun c2 w =>
 eY pg (fW 32 c2) w fun c3 w =>
 gU pg lG #[c3, uV] w fun c5 w =>
 eY pg (iW c5 0) w fun c6 w =>
 eY pg (iW c5 1) w fun c7 w =>
 eY pg (gO .eql 29 (.tmp 18) (.const (adX 21)) c7 (adX 21)) w fun c9 w =>
 lQ c9
  (R (.tuple #[(.slice none 0 0), (.bool false), (adX 0)]) w)
  (eY pg (gO .eql 29 (.tmp 21) (.const (adX 0)) c7 (adX 0)) w fun d2 w =>
  R (.tuple #[c6, d2, c7]) w)
theorem G2 (R : K1) (hr : HR Cx R Q) (h : wM R (g 0) (g 1) w) : iL pg BR AR Q g w :=
 kW (kn := no) (l := []) h lX hr trivial
def GP (a0 a1 : adW) (w : adV) (R : K1) : Prop :=
 wM R a0 a1 w
theorem Iq {a0 a1 : adW} {w : adV} {R : K1} (h : GP a0 a1 w R) : gU pg mQ #[a0, a1] w R := by
 refine xA (ann := BR) Tryd.f26 AR [a0, a1] Cx 24 TrydM.mixed Tryd.func26 ?_
 exact (G2 _ _ _ R (fun _ _ h => h) h)
end Go.Proofs.YteelnmpbnaohpaaDoor

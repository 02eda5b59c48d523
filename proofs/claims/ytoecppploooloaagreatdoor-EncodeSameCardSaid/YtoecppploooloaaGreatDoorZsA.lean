/- Parts of the proof of EncodeSame: merged and given short names by a program of ours. -/
import Derived.Orders
import Derived.Below
import Derived.KernelRfl
import Derived.Eval
import Derived.RangeFuncRecord
import Derived.Laws.Sem
import Derived.Scope
import Derived.Test.YtoecppploooloaaGreatDoorRows
set_option linter.unusedVariables false
set_option linter.unusedSimpArgs false
open Array renaming getElem?_setIfInBounds_self_of_lt → aBG, getElem?_setIfInBounds_ne → aBP, getD_eq_getD_getElem? → aBm, getElem?_eq_getElem → aBx, length_toList → aCC, getElem?_toList → aCX, getElem?_eq_none → aCa, all_eq_true' → aCd, mem_of_getElem? → aDl
open Bool renaming false_eq_true → aA8, not_true → aBe, and_eq_true → aBn, or_eq_false_iff → aC1, or_eq_true → aCk, not_eq_true' → aCp
open List renaming getElem?_cons_succ → aA7, mem_cons → aB2, mem_map → aB3, getElem_of_mem → aB6, map_cons → aBH, mem_cons_self → aBI, all_eq_true → aBN, length_eq_zero_iff → aBT, mem_range → aBY, getElem?_eq_getElem → aBh, getD_eq_getElem?_getD → aBi, mem_cons_of_mem → aBq, getElem?_eq_none → aBs, length_cons → aBu, mem_append_right → aCW, mem_append → aCc, map_congr_left → aCh, drop_eq_getElem_cons → aCj, mem_of_getElem? → aCn, mem_append_left → aCx, mem_filter → aDo, map_nil → aDp
open Nat renaming le_trans → aB4, eq_of_beq_eq_true → aBF, zero_add → aBc, le_refl → aBk, lt_or_ge → aBt, add_assoc → aCA, lt_of_lt_of_le → aCE, blt_eq → aCQ, le_of_ble_eq_true → aCu, lt_trichotomy → aDe, le_total → aDn
open Option renaming map_some → aBJ, getD_some → aCD
open Option.some renaming inj → aBO
namespace Go.En
open Go
abbrev aDs := World
abbrev aDt := Value
abbrev Env := Nat -> aDt
def put (g : Env) (d : Option Tmp) (v : aDt) : Env :=
 match d with
 | some d => fun i => match Nat.beq i d with | true => v | false => g i
 | none => g
def ev (g : Env) : Operand -> aDt
 | .tmp t => g t
 | .const v => v
 | .global b => .pointer (some ⟨b, 0, none⟩)
 | .func f => .func (.func f) #[] #[]
def Ret (P : Program) (f : FuncId) (args : Array aDt) (w : aDs) (v : aDt) (w' : aDs) : Prop :=
 Calls P f args w fun e w'' => e = .returned v /\ w'' = w'
def jE (P : Program) (f : FuncId) (args : Array aDt) (w : aDs) (R : aDt -> aDs -> Prop) : Prop :=
 ∃ v w', Ret P f args w v w' /\ R v w'
theorem jE.mono {P : Program} {f : FuncId} {args : Array aDt} {w : aDs} {R R' : aDt -> aDs -> Prop} (h : jE P f args w R)
 (hr : ∀ v w', R v w' -> R' v w') : jE P f args w R' :=
 let ⟨v, w', a, b⟩ := h; ⟨v, w', a, hr _ _ b⟩
def ayU (P : Program) (l : Nat) (f : FuncId) (tmps : Array aDt) (aA5 bd : Code) (w : aDs) (v : aDt) (w' : aDs) : Prop :=
 RoundIn Fence.wide 0 P l f tmps aA5 bd w fun e w'' => e = .returned v /\ w'' = w'
def adB (P : Program) (l : Nat) (f : FuncId) (tmps : Array aDt) (aA5 bd : Code) (w : aDs) (R : aDt -> aDs -> Prop) : Prop :=
 ∃ v w', ayU P l f tmps aA5 bd w v w' /\ R v w'
def agV (P : Program) (r : Result Next) (K : aDt -> aDs -> Prop) : Prop :=
 match r with
 | .ok (.value v) w => K v w
 | .ok .skip w => K undef w
 | .ok (.enter f args) w => jE P f args w K
 | .ok (.round l f tmps aA5 bd) w => adB P l f tmps aA5 bd w K
 | _ => False
theorem dJ (P : Program) (v : aDt) (w : aDs) (K : aDt -> aDs -> Prop) : agV P (.ok (.value v) w) K = K v w := Eq.trans rfl rfl
theorem stepR_skip (P : Program) (w : aDs) (K : aDt -> aDs -> Prop) : agV P (.ok .skip w) K = K undef w := Eq.trans rfl rfl
theorem IE (P : Program) (f : FuncId) (args : Array aDt) (w : aDs) (K : aDt -> aDs -> Prop) : agV P (.ok (.enter f args) w) K = jE P f args w K := Eq.trans rfl rfl
theorem agE (P : Program) (l : Nat) (f : FuncId) (tmps : Array aDt) (aA5 bd : Code) (w : aDs) (K : aDt -> aDs -> Prop) :
 agV P (.ok (.round l f tmps aA5 bd) w) K = adB P l f tmps aA5 bd w K := Eq.trans rfl rfl
def gI (P : Program) (s : Sem Next) (w : aDs) (K : aDt -> aDs -> Prop) : Prop := agV P (s.run P w) K
def jD (P : Program) (s : Sem Next) (v : aDt) (w : aDs) : Prop := s.run P w = .ok (.value v) w
def Gd (b : Bool) (s : (aDt -> aDs -> Prop) -> Prop) (w : aDs) (K : aDt -> aDs -> Prop) : Prop :=
 match b with
 | true => s K
 | false => K undef w
def asB (v : aDt) : Option Bool := match v with | .bool b => some b | _ => none
def kR (v : aDt) (want : Bool) : Bool := asB v == some want
def mK (v : aDt) (A B : Prop) : Prop :=
 match v with
 | .bool b => (match b with | true => A | false => B)
 | _ => False
def HY (ops : Array Oper) (j : Nat) : Option Tmp := (ops[j]?).bind (·.dst)
def Eb (g : Env) (t : Option Tmp) (want : Bool) : Bool := match t with | some t => kR (g t) want | none => false
def V (s : Sem aDt) : Sem Next := do pure (.value (<- s))
def U (s : Sem Unit) : Sem Next := do s; pure .skip
def LR (op : BinOp) : Bool := match op with | .eql | .neq => true | _ => false
def hZ (op : BinOp) (t : TypeId) (ox oy : Operand) (x y : aDt) : Sem Next :=
 match LR op with
 | true => V (do eqGuard op t ox oy x y; binOp op t x y)
 | false => V (binOp op t x y)
def oF (b : Builtin) (ats : Array TypeId) (ty : TypeId) (args : List aDt) : Sem Next := builtin b ats ty #[] args.toArray
def ES (f : aDt) (args : List aDt) : Sem Next := do let d <- Deferred.ofValue f args.toArray; invoke d.target d.args
def aaG (fn : Fn) (first captured : List aDt) : Sem Next := V (Instr.makeFunc fn first.toArray captured.toArray)
def kY (t : TypeId) (ps : List (Nat × aDt)) : Sem Next := V (Instr.build t ps.toArray)
def lT (t : TypeId) (n : Nat) (ps : List (Nat × aDt)) : Sem Next := V (Instr.buildSlice t n ps.toArray)
def Ot (g : Env) (o : Oper) : Sem Next :=
 match o.op with
 | .binOp op t x y _ => hZ op t x y (ev g x) (ev g y)
 | .makeFunc fn first captured => aaG fn (first.toList.map (ev g)) (captured.toList.map (ev g))
 | .build t ps => kY t (ps.toList.map fun p => (p.1, ev g p.2))
 | .buildSlice t n ps => lT t n (ps.toList.map fun p => (p.1, ev g p.2))
 | .call c => (match c.callee with
   | .builtin b => oF b c.argTypes o.type (c.args.toList.map (ev g))
   | .value f => ES (ev g f) (c.args.toList.map (ev g))
   | _ => execOp (ev g) o)
 | _ => execOp (ev g) o
def MD (P : Program) (g : Env) (o : Oper) (w : aDs) (K : aDt -> aDs -> Prop) : Prop :=
 match o.op with
 | .move x => K (ev g x) w
 | .assign x => K (ev g x) w
 | .call c => (match c.callee with
   | .value (.func f) => jE P f (c.args.toList.map (ev g)).toArray w K
   | _ => gI P (Ot g o) w K)
 | _ => gI P (Ot g o) w K
def Lo (P : Program) (ops : Array Oper) (g : Env) (o : Oper) (w : aDs) (K : aDt -> aDs -> Prop) : Prop :=
 match o.guard with
 | none => MD P g o w K
 | some (j, want) => Gd (Eb g (HY ops j) want) (MD P g o w) w K
def Z7 (P : Program) (ops : Array Oper) : List Oper -> Env -> aDs -> (Env -> aDs -> Prop) -> Prop
 | [], g, w, K => K g w
 | o :: rest, g, w, K => Lo P ops g o w fun v w' => Z7 P ops rest (put g o.dst v) w' K
structure Rec where
 heavy : Bool
 o : Oper
 g : Env
 w : aDs
 v : aDt
def gOf (ops : Array Oper) (o : Oper) (g : Env) : Bool := match o.guard with | none => true | some (j, want) => Eb g (HY ops j) want
def Gs (b : Bool) (p : Prop) : Prop := match b with | true => p | false => True
def Vw (P : Program) (ops : Array Oper) (q : Rec) (o : Oper) (g : Env) (w' : aDs) (v : aDt) : Prop :=
 match q.heavy with
 | true => Gs (gOf ops o g) (jD P (Ot g o) v q.w)
 | false => Gs (gOf ops q.o q.g) (jD P (Ot q.g q.o) q.v w')
def Z8 (i j : Nat) : List (Nat × Nat) -> Bool
 | [] => false
 | (a, b) :: r => match Nat.beq a i with
   | true => (match Nat.beq b j with | true => true | false => Z8 i j r)
   | false => Z8 i j r
def vH (i : Nat) : List Nat -> Bool
 | [] => false
 | a :: r => match Nat.beq a i with | true => true | false => vH i r
def agZ : List Rec -> Nat -> Option Rec
 | [], _ => none
 | q :: _, 0 => some q
 | _ :: r, n + 1 => agZ r n
def auF (P : Program) (ops : Array Oper) (o : Oper) (g : Env) (w' : aDs) (v : aDt) (hist : List Rec) : List Nat -> Prop
 | [] => True
 | k :: ks => (match agZ hist k with
   | some q => Vw P ops q o g w' v
   | none => False) /\ auF P ops o g w' v hist ks
abbrev Ann := List Nat × List (Nat × Nat)
abbrev aeY := List (Bool × List Nat)
def xL (P : Program) (ops : Array Oper) : List Oper -> aeY -> List Rec -> Env -> aDs -> (Env -> aDs -> Prop) -> Prop
 | [], _, _, g, w, K => K g w
 | _ :: _, [], _, _, _, _ => False
 | o :: rest, (hv, ks) :: pl, hist, g, w, K =>
   Lo P ops g o w fun v w' =>
    match hv, ks with
    | true, [] => xL P ops rest pl (⟨true, o, g, w, v⟩ :: hist) (put g o.dst v) w' K
    | true, k :: ks => auF P ops o g w' v hist (k :: ks) /\ xL P ops rest pl (⟨true, o, g, w, v⟩ :: hist) (put g o.dst v) w' K
    | false, [] => w' = w /\ xL P ops rest pl (⟨false, o, g, w, v⟩ :: hist) (put g o.dst v) w K
    | false, k :: ks => w' = w /\ auF P ops o g w v hist (k :: ks) /\ xL P ops rest pl (⟨false, o, g, w, v⟩ :: hist) (put g o.dst v) w K
def kO {α : Type} (F : (α -> aDs -> Prop) -> α -> aDs -> Prop) (g : α) (w : aDs) : Prop :=
 ∃ I : Nat -> α -> aDs -> Prop, (∃ n, I n g w) /\ ∀ n g w, I n g w -> F (fun g' w' => ∃ m, m < n /\ I m g' w') g w
def EZ (K : Env -> aDs -> Prop) (Q : Exit -> Env -> aDs -> Prop) : Exit -> Env -> aDs -> Prop :=
 fun e g w => (fun (_ : Program -> Sem Next -> aDs -> (aDt -> aDs -> Prop) -> Prop) => match e with | .normal => K g w | e => Q e g w) gI
def blk (id : Nat) (Q : Exit -> Env -> aDs -> Prop) : Exit -> Env -> aDs -> Prop :=
 fun e g w => (fun (_ : Program -> Sem Next -> aDs -> (aDt -> aDs -> Prop) -> Prop) => match e with | .exit i => (match Nat.beq i id with | true => Q .normal g w | false => Q (.exit i) g w) | e => Q e g w) gI
inductive HT where
 | leaf (an : Ann) (pl : aeY)
 | perm (π : List Nat) (es : List (Nat × Nat)) (an : Ann) (pl : aeY)
 | split (a b : Nat) (x y : HT)
structure FA where
 f : FuncId
 t : Nat -> HT
def Cg : List Nat -> Nat -> Nat
 | [], _ => 0
 | a :: r, i => match Nat.beq a i with | true => 0 | false => Cg r i + 1
def JU (π : List Nat) (i : Nat) : List (Nat × Nat) -> List Edge
 | [] => []
 | (a, b) :: r => match Nat.beq b i with | true => ⟨Cg π a, .data⟩ :: JU π i r | false => JU π i r
def Nw (π : List Nat) (es : List (Nat × Nat)) (i : Nat) (o : Oper) : Oper :=
 { dst := o.dst, op := o.op, type := o.type, pos := o.pos, after := (o.after.toList.map (fun e => (⟨Cg π e.on, e.ground⟩ : Edge)) ++ JU π i es).toArray,
   guard := match o.guard with | none => none | some (j, b) => some (Cg π j, b) }
def VR (π : List Nat) (es : List (Nat × Nat)) (l : List Oper) : List Nat -> List Oper
 | [] => []
 | i :: r => match l[i]? with | some o => Nw π es i o :: VR π es l r | none => VR π es l r
def uV (π : List Nat) (es : List (Nat × Nat)) (ops : Array Oper) : Array Oper := (VR π es ops.toList π).toArray
def avF (f : FuncId) (id : Nat) (ops : Array Oper) (a b : Nat) (w : aDs) : Bool :=
 Nat.ble ((Region.schedule true ops (w.tape w.drawn (.order f id))).idxOf a) ((Region.schedule true ops (w.tape w.drawn (.order f id))).idxOf b)
def Ord (b : Bool) (A B : Prop) : Prop := match b with | true => A | false => B
def agA (P : Program) (f : FuncId) (id : Nat) (ops : Array Oper) : HT -> Env -> aDs -> aDs -> (Env -> aDs -> Prop) -> Prop
 | .leaf _ pl, g, _, w, K => xL P ops ops.toList pl [] g w K
 | .perm π es _ pl, g, _, w, K => xL P (uV π es ops) (uV π es ops).toList pl [] g w K
 | .split a b x y, g, w0, w, K => Ord (avF f id ops a b w0) (agA P f id ops x g w0 w K) (agA P f id ops y g w0 w K)
def DS : Nat := 1000003
def agF : aDt -> List Deferred
 | .pointer (some a) => [{ target := .collected a.block, args := #[] }]
 | _ => []
def noMark : aDt -> Bool
 | .pointer _ => false
 | _ => true
def tmpsOf (N : Nat) (g : Env) : Array aDt := Array.ofFn (n := N) fun i => g i.val
def X8 (P : Program) (f : FuncId) : Nat := match P.funcs[f]? with | some fn => fn.ntmps | none => 0
def axP (Q : Exit -> Env -> aDs -> Prop) (g : Env) : Option Code -> aDs -> Prop
 | none, w => Q .normal g w
 | some .ret, w => Q .ret g w
 | some (.exit i), w => Q (.exit i) g w
 | _, _ => False
def arG (l : Nat) (Q : Exit -> Env -> aDs -> Prop) (g : Env) (w : aDs) : Prop :=
 ∃ r : Loop, w.heap[l]? = some (.loop r) /\ r.state ≠ .busy /\ axP Q g r.pending (w.putObj l (.loop { r with state := .exhausted }))
def rfW (f : FuncId) (N : Nat) (ps : Array Tmp) (aA5 bd : Code) (g : Env) (w : aDs) : aDs :=
 (w.alloc (.deferred (some []))).alloc (.loop { state := .ready, pending := none, fn := f, tmps := tmpsOf N g, params := ps, assign := aA5, body := bd, defers := w.heap.size })
def azJ (P : Program) (r : Result Next) (K : aDt -> aDs -> Prop) : Prop :=
 match r with
 | .ok (.enter f args) w => jE P f args w K
 | _ => False
def KX (l : Nat) : aDt := .func (.yield l) #[] #[]
def RF (P : Program) (f : FuncId) (gf : Operand) (ps : Array Tmp) (aA5 bd : Code) (Q : Exit -> Env -> aDs -> Prop) (g : Env) (w : aDs) : Prop :=
 match noMark (g DS) with
 | true => azJ P ((ES (ev g gf) [KX (w.heap.size + 1)]).run P (rfW f (X8 P f) ps aA5 bd g w)) fun _ w3 =>
  arG (w.heap.size + 1) Q (put g (some DS) (.pointer (some ⟨w.heap.size, 0, none⟩))) w3
 | false => False
def jO (P : Program) (ann : FA) : Code -> (Exit -> Env -> aDs -> Prop) -> Env -> aDs -> Prop
 | .skip, Q, g, w => Q .normal g w
 | .region id ops draw, Q, g, w => match draw with
   | false => Z7 P ops ops.toList g w (Q .normal)
   | true => agA P ann.f id ops (ann.t id) g w { w with drawn := w.drawn + 1 } (Q .normal)
 | .seq x y, Q, g, w => jO P ann x (EZ (fun g w => jO P ann y Q g w) Q) g w
 | .cond c x y, Q, g, w => mK (ev g c) (jO P ann x Q g w) (jO P ann y Q g w)
 | .block id c, Q, g, w => jO P ann c (blk id Q) g w
 | .loop c, Q, g, w => kO (fun X g w => jO P ann c (EZ X Q) g w) g w
 | .scope c, Q, g, w => jO P ann c Q g w
 | .label _, Q, g, w => Q .normal g w
 | .exit id, Q, g, w => Q (.exit id) g w
 | .ret, Q, g, w => Q .ret g w
 | .rangeFunc gf ps aA5 bd, Q, g, w => RF P ann.f gf ps aA5 bd Q g w
 | _, _, _, _ => False
def alX (N : Nat) (o : Oper) : Bool := match o.dst with | some d => Nat.blt d N | none => true
def bef (b : Array Nat) (i j : Nat) : Bool := (b.getD j 0).testBit i
def looks (ops : Array Oper) (o : Oper) : List Tmp :=
 (o.op.operands.toList.filterMap fun | .tmp t => some t | _ => none) ++ (match o.guard with | some (j, _) => (HY ops j).toList | none => [])
def apT (ops : Array Oper) (x y : Oper) : Bool :=
 (match x.dst with | some d => (looks ops y).contains d || y.dst == some d | none => false) ||
 (match y.dst with | some d => (looks ops x).contains d | none => false)
def YU (o : Oper) : Bool := match o.op with | .select .. => true | _ => false
def apM (o : Oper) : Bool := match o.op with | .call { callee := .value (.func _), .. } => true | _ => false
def abN (o : Oper) : Bool := match o.op with | .defer .. => true | _ => false
def abX : Operand -> Bool | .tmp t => Nat.blt t DS | _ => true
def Zw (P : Program) (o : Oper) : Bool :=
 match o.op with
 | .call c => (match c.callee with
   | .value (.func f) => (match P.funcs[f]? with | some fn => fn.body.isSome && !(fn.name == "runtime.NumGoroutine") | none => false)
   | .builtin b => (match b with | .print | .println => false | _ => true)
   | _ => true)
 | _ => true
def FL (P : Program) (o : Oper) : Bool := Zw P o && (o.op.operands.toList.all abX && (!YU o && !abN o))
def Qh (o : Oper) : Bool := match o.op with | .move _ | .assign _ => true | _ => false
def Sc (ops : Array Oper) (b : Array Nat) (an : Ann) (i j : Nat) (x y : Oper) : Bool :=
 bef b i j ||
 (!apT ops x y &&
   match vH i an.1, vH j an.1 with
   | true, true => false
   | false, false => true
   | true, false => Qh y || Z8 i j an.2
   | false, true => Qh x || Z8 i j an.2)
def agG (ops : Array Oper) (b : Array Nat) (an : Ann) : Bool :=
 (List.range ops.size).all fun j => (List.range j).all fun i =>
  match ops[i]?, ops[j]? with
  | some x, some y => Sc ops b an i j x y
  | _, _ => false
def abZ (ops : Array Oper) : Bool :=
 (List.range ops.size).all fun i => match ops[i]? with
  | some o => o.after.all fun e => !Region.binds .any e || Nat.blt e.on i
  | none => false
def acG (ops : Array Oper) (b : Array Nat) : Bool :=
 (List.range ops.size).all fun j => (List.range ops.size).all fun i =>
  !bef b i j || (match ops[j]? with
   | some o => o.after.any fun e => Region.binds .any e && (Nat.beq e.on i || bef b i e.on)
   | none => false)
def aaF (ops : Array Oper) (an : Ann) : Bool :=
 abZ ops && acG ops (Region.before ops) && agG ops (Region.before ops) an && (ops.all fun o => !YU o) &&
  (List.range ops.size).all fun i => match ops[i]? with | some o => !apM o || vH i an.1 | none => false
def ZR (n : Nat) (an : Ann) (pl : aeY) : Bool :=
 (List.range n).all fun i => match pl[i]? with
  | some (h, ks) => h == vH i an.1 && an.2.all fun p => !Nat.beq p.2 i || (Nat.blt p.1 i && ks.contains (i - 1 - p.1))
  | none => false
def aiH (π : List Nat) (ops : Array Oper) : Bool :=
 Nat.beq π.length ops.size && ((List.range ops.size).all fun k => match π[k]? with | some i => Nat.beq (Cg π i) k && Nat.blt i ops.size | none => false) &&
  ((List.range ops.size).all fun i => match π[Cg π i]? with | some j => Nat.beq j i | none => false) &&
  ((List.range ops.size).all fun i => match ops[i]? with
    | some o => (o.after.all fun e => Nat.blt e.on ops.size) && (match o.guard with | some (j, _) => Nat.blt j ops.size | none => true)
    | none => false)
def Vi (P : Program) (N : Nat) (ops : Array Oper) : List (Nat × Nat) -> HT -> Bool
 | _, .leaf an pl => aaF ops an && ZR ops.size an pl
 | path, .perm π es an pl => (es.all fun p => Z8 p.1 p.2 path && Nat.blt p.1 ops.size) && aiH π ops && (uV π es ops).all (alX N) && (uV π es ops).all (FL P) &&
  aaF (uV π es ops) an && ZR (uV π es ops).size an pl
 | path, .split a b x y => !Nat.beq a b && Vi P N ops ((a, b) :: path) x && Vi P N ops ((b, a) :: path) y
def codeOk (P : Program) (N : Nat) (ann : FA) : Code -> Bool
 | .skip | .exit _ | .ret | .label _ => true
 | .scope c => codeOk P N ann c
 | .region id ops draw => ops.all (alX N) && ops.all (FL P) && (!draw || Vi P N ops [] (ann.t id))
 | .seq x y => codeOk P N ann x && codeOk P N ann y
 | .cond c x y => abX c && (codeOk P N ann x && codeOk P N ann y)
 | .block _ c => codeOk P N ann c
 | .loop c => codeOk P N ann c
 | .rangeFunc gf _ _ _ => abX gf
 | _ => false
def yH : Code -> Bool
 | .seq x y => yH x && yH y
 | .cond _ x y => yH x && yH y
 | .block _ c => yH c
 | .loop c => yH c
 | .scope c => yH c
 | .rangeFunc .. => false
 | _ => true
def acM : ResultVar -> Bool
 | .tmp t => Nat.blt t DS
 | .cell a _ => Nat.blt a DS
theorem OQ (g : Env) (d i : Nat) (v : aDt) : put g (some d) v i = if i = d then v else g i := by
 unfold put
 by_cases h : i = d
 .subst h; simp
 .have : Nat.beq i d = false := by
   cases hb : Nat.beq i d
   .rfl
   .exact absurd (aBF hb) h
  simp [this, h]
theorem aeU {P : Program} {o : Oper} (h : FL P o = true) : Zw P o = true := by
 unfold FL at h; simp only [aBn] at h; exact h.1
theorem aiD {P : Program} {o : Oper} (h : FL P o = true) : ∀ x ∈ o.op.operands, abX x = true := by
 unfold FL at h; simp only [aBn] at h
 intro x hx
 exact aBN.1 h.2.1 x (by simpa using hx)
theorem aiV {P : Program} {o : Oper} (h : FL P o = true) : YU o = false := by
 unfold FL at h; simp only [aBn, aCp] at h; exact h.2.2.1
theorem aiI {P : Program} {o : Oper} (h : FL P o = true) : abN o = false := by
 unfold FL at h; simp only [aBn, aCp] at h; exact h.2.2.2
def VC (N : Nat) (ops : Array Oper) : Prop := ∀ (i : Nat) (o : Oper), ops[i]? = some o -> ∀ t, o.dst = some t -> t < N
structure Tx (N : Nat) (g : Env) (a : Act) : Prop where
 le : N <= DS
 defers : a.defers = agF (g DS)
 size : a.tmps.size = N
 at_ : ∀ i, i ≠ DS -> a.tmps.getD i undef = g i
theorem Tx.ev {N : Nat} {g : Env} {a : Act} (h : Tx N g a) (x : Operand) (hx : abX x = true) : a.eval x = ev g x := by
 cases x with
 | tmp t =>
   have : t < DS := (aCQ (x := t) (y := DS)) ▸ hx
   have e := h.at_ t (Nat.ne_of_lt this)
   simp [Act.eval, En.ev, <- e]
 | _ => simp [Act.eval, En.ev]
theorem Tx.put {N : Nat} {g : Env} {a : Act} (h : Tx N g a) (d : Option Tmp) (v : aDt) (hd : ∀ t, d = some t -> t < N) :
 Tx N (put g d v) (a.put d v) := by
 cases d with
 | none => exact h
 | some t =>
   obtain ⟨h0, h1, h2, h3⟩ := h
   have ht := hd t rfl
   refine ⟨h0, ?_, by simp [Act.put, h2], fun i hne => ?_⟩
   .rw [OQ, if_neg (Nat.ne_of_gt (aCE ht h0))]; exact h1
   .rw [OQ, <- h3 i hne]
    by_cases hi : i = t
    .subst hi; simp [Act.put, h2, ht]
    .have hi' : t ≠ i := fun e => hi e.symm
     simp [Act.put, hi, aBP hi']
theorem Tx.wanted {N : Nat} {g : Env} {a : Act} (h : Tx N g a) (ops : Array Oper) (hd : VC N ops) (o : Oper) :
 Region.wanted o (yielded ops a.tmps) = match o.guard with | none => true | some (j, want) => Eb g (HY ops j) want := by
 unfold Region.wanted
 cases o.guard with
 | none => rfl
 | some p =>
   obtain ⟨j, want⟩ := p
   simp only [yielded, Eb, HY]
   cases ho : ops[j]? with
   | none => simp
   | some o' =>
     cases hdd : o'.dst with
     | none => simp [hdd]
     | some t =>
       have hlt := hd j o' ho t hdd
       have hle := h.le
       have h3 := h.at_ t (Nat.ne_of_lt (aCE hlt hle))
       simp only [hdd, Option.bind_some, kR, asB, <- h3]
       simp only [aBm]
       cases ht : a.tmps[t]? with
       | none => simp [undef]
       | some v => cases v <;> simp
def upX (P : Program) (o : Oper) (a : Act) (next : Act -> aDs -> Prop) : Result Next -> Prop
 | .ok (.value v) w' => next (a.put o.dst v) w'
 | .ok .skip w' => next (a.put o.dst undef) w'
 | .ok (.enter f args) w' => ∃ v w'', Ret P f args w' v w'' /\ next (a.put o.dst v) w''
 | .ok (.round l f tmps aA5 bd) w' => ∃ v w'', ayU P l f tmps aA5 bd w' v w'' /\ next (a.put o.dst v) w''
 | _ => False
def aiZ (P : Program) (o : Oper) (a : Act) (w : aDs) (next : Act -> aDs -> Prop) : Prop := abN o = false /\ upX P o a next ((execOp a.eval o).run P w)
def Sf (P : Program) (ops : Array Oper) (i : Nat) (K : Act -> aDs -> Prop) (a : Act) (w : aDs) : Prop :=
 match ops[i]? with
 | none => K a w
 | some o => if Region.wanted o (yielded ops a.tmps) then aiZ P o a w K else K (a.put o.dst undef) w
def Hi (P : Program) (ops : Array Oper) (Q : Act -> aDs -> Prop) : List Nat -> Act -> aDs -> Prop
 | [], a, w => Q a w
 | i :: rest, a, w => Sf P ops i (Hi P ops Q rest) a w
def ZN (P : Program) (ops : Array Oper) (Q : Act -> aDs -> Prop) : Nat -> Array Bool -> Act -> aDs -> Prop
 | 0, listed, a, w => Region.ready .any ops listed = [] /\ Q a w
 | fuel + 1, listed, a, w =>
   (Region.ready .any ops listed = [] -> Q a w) /\ ∀ i ∈ Region.ready .any ops listed, Sf P ops i (ZN P ops Q fuel (listed.setIfInBounds i true)) a w
theorem acJ {P : Program} {o : Oper} {a : Act} {w : aDs} {K K' : Act -> aDs -> Prop} (h : ∀ a w, K a w -> K' a w) (hh : aiZ P o a w K) : aiZ P o a w K' := by
 refine ⟨hh.1, ?_⟩
 have hh := hh.2
 generalize (execOp a.eval o).run P w = r at *
 cases r with
 | ok x w' =>
   cases x <;> simp only [upX] at hh ⊢ <;> first | exact h _ _ hh | (obtain ⟨v, w'', h1, h2⟩ := hh; exact ⟨v, w'', h1, h _ _ h2⟩) | exact hh
 | halt x w' => exact hh.elim
theorem ajO {P : Program} {ops : Array Oper} {i : Nat} {a : Act} {w : aDs} {K K' : Act -> aDs -> Prop} (h : ∀ a w, K a w -> K' a w) (hh : Sf P ops i K a w) : Sf P ops i K' a w := by
 unfold Sf at *
 split
 .exact h _ _ (by simpa [*] using hh)
 .rename_i o ho
  simp only [ho] at hh
  split
  .rename_i hw; simp only [hw, if_true] at hh; exact acJ h hh
  .rename_i hw; simp only [hw] at hh; exact h _ _ hh
def ZT (ro : Option Nat) : Fence := { Fence.wide with round := ro }
theorem aoO {P : Program} {ops : Array Oper} {Q : Act -> aDs -> Prop} (ro : Option Nat) : ∀ (L : List Nat) (a : Act) (w : aDs), Hi P ops Q L a w →
 wpOpsIn (ZT ro) 0 P ops (fun e a w => e = .normal /\ Q a w) L a w := by
 intro L
 induction L with
 | nil => intro a w h; exact ⟨rfl, h⟩
 | cons i L ih =>
   intro a w h
   simp only [Hi, Sf] at h
   simp only [wpOpsIn]
   cases ho : ops[i]? with
   | none => rw [ho] at h; exact ih _ _ h
   | some o =>
     rw [ho] at h
     simp only at h ⊢
     by_cases hw : Region.wanted o (yielded ops a.tmps) = true
     .rw [if_pos hw] at h ⊢
      obtain ⟨hd, h⟩ := h
      refine ⟨fun _ _ => trivial, ?_⟩
      rw [Oper.semAt_eq _ _ _ (fun c hc => by simp [abN, hc] at hd)]
      generalize (execOp a.eval o).run P w = r at *
      cases r with
      | halt x w' => exact h.elim
      | ok x w' =>
        cases x <;> simp only [upX] at h <;> simp only [Oper.uponIn] <;> try (exact h.elim)
        .exact ih _ _ h
        .exact ih _ _ h
        .obtain ⟨v, w'', h1, h2⟩ := h
         refine ⟨fun hn => by simp [ZT, Fence.wide] at hn, ?_⟩
         have := callsIn_wide (n := 0).2 h1
         refine CallsIn.mono (F := ZT ro) (n := 0) this ?_
         rintro e w3 ⟨rfl, rfl⟩
         exact ih _ _ h2
        .obtain ⟨v, w'', h1, h2⟩ := h
         refine ⟨fun hn => by simp [ZT, Fence.wide] at hn, ?_⟩
         refine RoundIn.mono (F := ZT ro) (n := 0) h1 ?_
         rintro e w3 ⟨rfl, rfl⟩
         exact ih _ _ h2
     .rw [if_neg hw] at h ⊢
      exact ⟨fun _ _ => trivial, ih _ _ h⟩
section
variable {P : Program} {ops : Array Oper}
def Y0 (P : Program) (ops : Array Oper) (g : Env) (o : Oper) (w : aDs) (v : aDt) (w' : aDs) : Prop :=
 ∀ K : aDt -> aDs -> Prop, K v w' -> Lo P ops g o w K
theorem alM {s : Sem Next} {w : aDs} {K : aDt -> aDs -> Prop} (h : gI P s w K) :
 ∃ v w', (∀ K' : aDt -> aDs -> Prop, K' v w' -> gI P s w K') /\ K v w' := by
 unfold gI at *
 generalize s.run P w = r at *
 match r, h with
 | .ok (.value v) w1, h => exact ⟨v, w1, fun _ h' => h', h⟩
 | .ok .skip w1, h => exact ⟨undef, w1, fun _ h' => h', h⟩
 | .ok (.enter f args) w1, h =>
   obtain ⟨v, w', hr, hk⟩ := h
   exact ⟨v, w', fun _ h' => ⟨v, w', hr, h'⟩, hk⟩
 | .ok (.round l f tmps aA5 bd) w1, h =>
   obtain ⟨v, w', hr, hk⟩ := h
   exact ⟨v, w', fun _ h' => ⟨v, w', hr, h'⟩, hk⟩
theorem acZ {g : Env} {o : Oper} {w : aDs} {K : aDt -> aDs -> Prop} (h : MD P g o w K) :
 ∃ v w', (∀ K' : aDt -> aDs -> Prop, K' v w' -> MD P g o w K') /\ K v w' := by
 unfold MD at *
 split at h
 .exact ⟨_, _, fun _ h' => h', h⟩
 .exact ⟨_, _, fun _ h' => h', h⟩
 .split at h
  .obtain ⟨v, w', a, b⟩ := h
   exact ⟨v, w', fun _ h' => ⟨v, w', a, h'⟩, b⟩
  .exact alM h
 .exact alM h
theorem auS (op : BinOp) (t : TypeId) (ox oy : Operand) (x y : aDt) : hZ op t ox oy x y = V (do eqGuard op t ox oy x y; binOp op t x y) := by
 cases op <;> simp [hZ, LR, eqGuard]
theorem arS {g : Env} {o : Oper} (ho : FL P o = true) : Ot g o = execOp (ev g) o := by
 have ho := aeU ho
 unfold Ot
 split
 .rename_i op t x y yt hx
  simp only [execOp, hx, auS, V]
 .rename_i fn first captured hx
  have e1 : (List.map (ev g) first.toList).toArray = first.map (ev g) := by obtain ⟨l⟩ := first; simp
  have e2 : (List.map (ev g) captured.toList).toArray = captured.map (ev g) := by obtain ⟨l⟩ := captured; simp
  simp only [execOp, hx, aaG, V, e1, e2]
 .rename_i t ps hx
  have e : (List.map (fun p : Nat × Operand => (p.1, ev g p.2)) ps.toList).toArray = ps.map (fun p => (p.1, ev g p.2)) := by obtain ⟨l⟩ := ps; simp
  simp only [execOp, hx, kY, V, e]
 .rename_i t n ps hx
  have e : (List.map (fun p : Nat × Operand => (p.1, ev g p.2)) ps.toList).toArray = ps.map (fun p => (p.1, ev g p.2)) := by obtain ⟨l⟩ := ps; simp
  simp only [execOp, hx, lT, V, e]
 .rename_i c hx
  split
  .rename_i b hb
   simp only [execOp, hx, resolve, hb, pure_bind, invoke, oF]
   unfold Zw at ho
   simp only [hx, hb] at ho
   have e : (List.map (ev g) c.args.toList).toArray = c.args.map (ev g) := by obtain ⟨l⟩ := c.args; simp
   rw [e]
   cases b <;> first | rfl | (cases ho)
  .rename_i f hb
   have e : (List.map (ev g) c.args.toList).toArray = c.args.map (ev g) := by obtain ⟨l⟩ := c.args; simp
   simp only [execOp, hx, resolve, hb, ES, e]
  .rfl
 .rfl
theorem Wh {f : FuncId} {fn : Func} (hf : P.funcs[f]? = some fn) (hb : fn.body.isSome = true) (hn : (fn.name == "runtime.NumGoroutine") = false)
 (args : Array aDt) (w : aDs) : (callFunc f args).run P w = .ok (.enter f args) w := by
 unfold callFunc
 have hb' : fn.body.isNone = false := by cases h : fn.body <;> simp_all
 show Sem.run P (Sem.program fun p => _) w = _
 simp only [Sem.run]
 simp only [bind, Sem.bind, hf, hn, hb', aA8, if_false]
 rfl
theorem Qw {g : Env} {o : Oper} {w : aDs} {K : aDt -> aDs -> Prop} (h : Lo P ops g o w K) :
 ∃ v w', Y0 P ops g o w v w' /\ K v w' := by
 unfold Y0
 unfold Lo at *
 split at h
 .obtain ⟨v, w', h1, h2⟩ := acZ h
  exact ⟨v, w', h1, h2⟩
 .rename_i j want hg
  unfold Gd at *
  cases hb : Eb g (HY ops j) want with
  | true =>
    simp only [hb] at h
    obtain ⟨v, w', h1, h2⟩ := acZ h
    exact ⟨v, w', fun K hk => h1 K hk, h2⟩
  | false =>
    simp only [hb] at h
    exact ⟨_, _, fun K hk => hk, h⟩
theorem YQ {N i : Nat} {g : Env} {a : Act} {o : Oper} {w w' : aDs} {v : aDt} {next : Act -> aDs -> Prop}
 (hi : ops[i]? = some o) (hc : FL P o = true) (hd : VC N ops) (hr : Tx N g a) (hy : Y0 P ops g o w v w') (hn : next (a.put o.dst v) w') : Sf P ops i next a w := by
 have h := hy (fun v2 w2 => v2 = v /\ w2 = w') ⟨rfl, rfl⟩
 unfold Sf
 rw [hi]
 simp only [hr.wanted ops hd]
 have run : MD P g o w (fun v2 w2 => v2 = v /\ w2 = w') -> aiZ P o a w next := by
  intro h
  refine ⟨aiI hc, ?_⟩
  have hevs : execOp a.eval o = execOp (ev g) o := execOp_congr o (fun cs b he => by have := aiV hc; simp [YU, he] at this) (fun x hx => hr.ev x (aiD hc x hx))
  have stp : gI P (Ot g o) w (fun v2 w2 => v2 = v /\ w2 = w') -> upX P o a next ((execOp (ev g) o).run P w) := by
   intro h
   rw [arS hc] at h
   unfold gI at h
   generalize (execOp (ev g) o).run P w = r at *
   match r, h with
   | .ok (.value v) w1, h => obtain ⟨rfl, rfl⟩ := h; exact hn
   | .ok .skip w1, h => obtain ⟨rfl, rfl⟩ := h; exact hn
   | .ok (.enter f args) w1, h =>
     obtain ⟨v2, w2, hret, rfl, rfl⟩ := h
     exact ⟨_, _, hret, hn⟩
   | .ok (.round l f tmps aA5 bd) w1, h =>
     obtain ⟨v2, w2, hret, rfl, rfl⟩ := h
     exact ⟨_, _, hret, hn⟩
  rw [hevs]
  unfold MD at h
  split at h
  .rename_i x hx
   obtain ⟨rfl, rfl⟩ := h
   simp only [execOp, hx]; exact hn
  .rename_i x hx
   obtain ⟨rfl, rfl⟩ := h
   simp only [execOp, hx]; exact hn
  .rename_i c hx
   split at h
   .rename_i f hcal
    obtain ⟨v2, w2, hret, rfl, rfl⟩ := h
    have e : (execOp (ev g) o).run P w = .ok (.enter f (List.map (ev g) c.args.toList).toArray) w := by
     have hc := aeU hc
     unfold Zw at hc
     simp only [hx, hcal] at hc
     cases hfn : P.funcs[f]? with
     | none => rw [hfn] at hc; cases hc
     | some fn =>
       rw [hfn] at hc
       simp only [aBn, aCp] at hc
       have ea : (List.map (ev g) c.args.toList).toArray = c.args.map (ev g) := by obtain ⟨l⟩ := c.args; simp
       rw [ea]
       simp only [execOp, hx, resolve, hcal, ev, Deferred.ofValue, pure_bind, invoke]
       simp only [Array.empty_append, Array.append_empty]
       exact Wh hfn hc.1 hc.2 _ w
    rw [e]
    exact ⟨_, _, hret, hn⟩
   .exact stp h
  .exact stp h
 unfold Lo at h
 cases hg : o.guard with
 | none =>
   rw [hg] at h
   simp only [if_true]
   exact run h
 | some p =>
   obtain ⟨j, want⟩ := p
   simp only [hg] at h
   simp only
   by_cases hb : Eb g (HY ops j) want = true
   .rw [if_pos hb]
    simp only [hb, Gd] at h
    exact run h
   .rw [if_neg hb]
    have hb' : Eb g (HY ops j) want = false := by simpa using hb
    simp only [hb', Gd] at h
    obtain ⟨rfl, rfl⟩ := h
    exact hn
def Wt (P : Program) (ops : Array Oper) : Prop := ∀ (i : Nat) (o : Oper), ops[i]? = some o -> FL P o = true
theorem amX {N : Nat} (hd : VC N ops) (hca : Wt P ops) {Q : Act -> aDs -> Prop} {K : Env -> aDs -> Prop}
 (hQ : ∀ g a w, Tx N g a -> K g w -> Q a w) :
 ∀ (l : List Oper) (k : Nat) (g : Env) (a : Act) (w : aDs), (∀ j, l[j]? = ops[k + j]?) -> Tx N g a -> Z7 P ops l g w K →
   Hi P ops Q (List.range' k l.length) a w := by
 intro l
 induction l with
 | nil => intro k g a w _ hr h; exact hQ _ _ _ hr h
 | cons o l ih =>
   intro k g a w hl hr h
   have h0 : ops[k]? = some o := by have := hl 0; simpa using this.symm
   obtain ⟨v, w', hy, hk⟩ := Qw h
   rw [aBu, List.range'_succ]
   show Sf P ops k (Hi P ops Q _) a w
   refine YQ h0 (hca k o h0) hd hr hy ?_
   refine ih (k + 1) _ _ _ (fun j => ?_) (hr.put _ _ (hd k o h0)) hk
   have := hl (j + 1)
   simp only [aA7] at this
   rw [this]; congr 1; omega
def YR (an : Ann) (O : Nat -> Oper) (G : Nat -> Env) (W : Nat -> aDs) (V : Nat -> aDt) (i : Nat) : Rec :=
 ⟨vH i an.1, O i, G i, W i, V i⟩
def akX (P : Program) (ops : Array Oper) (an : Ann) (O : Nat -> Oper) (G : Nat -> Env) (W : Nat -> aDs) (V : Nat -> aDt) (i j : Nat) : Prop :=
 Vw P ops (YR an O G W V i) (O j) (G j) (W (j + 1)) (V j)
structure Run (P : Program) (ops : Array Oper) (an : Ann) (g0 : Env) (w0 : aDs) (n : Nat) (O : Nat -> Oper) (G : Nat -> Env) (W : Nat -> aDs) (V : Nat -> aDt) : Prop where
 g0 : G 0 = g0
 w0 : W 0 = w0
 op : ∀ i, i < n -> ops[i]? = some (O i)
 yld : ∀ i, i < n -> Y0 P ops (G i) (O i) (W i) (V i) (W (i + 1))
 light : ∀ i, i < n -> vH i an.1 = false -> W (i + 1) = W i
 env : ∀ i, i < n -> G (i + 1) = put (G i) (O i).dst (V i)
 chk : ∀ i j, i < j -> j < n -> Z8 i j an.2 = true -> akX P ops an O G W V i j
theorem afF {o : Oper} {g : Env} {w' : aDs} {v : aDt} {hist : List Rec} : ∀ {ks : List Nat}, auF P ops o g w' v hist ks -> ∀ k ∈ ks, ∃ q, agZ hist k = some q /\ Vw P ops q o g w' v := by
 intro ks
 induction ks with
 | nil => intro _ k hk; cases hk
 | cons a ks ih =>
   rintro ⟨h1, h2⟩ k hk
   rcases aB2.1 hk with rfl | hk
   .cases hn : agZ hist k with
    | none => rw [hn] at h1; exact h1.elim
    | some q => rw [hn] at h1; exact ⟨q, rfl, h1⟩
   .exact ih h2 k hk
theorem aoZ {n : Nat} {an : Ann} {pl : aeY} (h : ZR n an pl = true) {i : Nat} (hi : i < n) :
 ∃ ks, pl[i]? = some (vH i an.1, ks) /\ ∀ j, Z8 j i an.2 = true -> j < i /\ (i - 1 - j) ∈ ks := by
 have := aBN.1 h i (aBY.2 hi)
 cases hp : pl[i]? with
 | none => rw [hp] at this; cases this
 | some p =>
   obtain ⟨hv, ks⟩ := p
   rw [hp] at this
   simp only [aBn] at this
   obtain ⟨h1, h2⟩ := this
   have h1 : hv = vH i an.1 := by simpa using h1
   refine ⟨ks, by rw [h1], fun j hj => ?_⟩
   have mm : ∀ (l : List (Nat × Nat)), Z8 j i l = true -> (j, i) ∈ l := by
    intro l
    induction l with
    | nil => intro h; cases h
    | cons q r ih =>
      obtain ⟨a, b⟩ := q
      intro h
      unfold Z8 at h
      cases ha : Nat.beq a j with
      | true =>
        simp only [ha] at h
        cases hb : Nat.beq b i with
        | true =>
          obtain rfl := aBF ha
          obtain rfl := aBF hb
          exact aBI
        | false => simp only [hb] at h; exact aBq _ (ih h)
      | false => simp only [ha] at h; exact aBq _ (ih h)
   have := aBN.1 h2 (j, i) (mm _ hj)
   simp only [Nat.beq_refl, aBe, Bool.false_or, aBn] at this
   refine ⟨?_, by simpa using this.2⟩
   have hlt := this.1
   exact (aCQ (x := j) (y := i)) ▸ hlt
theorem agQ {an : Ann} {pl : aeY} {g0 : Env} {w0 : aDs} {K : Env -> aDs -> Prop} (hpl : ZR ops.size an pl = true) :
 ∀ (l : List Oper) (m : Nat) (hist : List Rec) (O : Nat -> Oper) (G : Nat -> Env) (W : Nat -> aDs) (V : Nat -> aDt),
   (∀ j, l[j]? = ops[m + j]?) -> m + l.length = ops.size -> Run P ops an g0 w0 m O G W V -> (∀ i, i < m -> agZ hist (m - 1 - i) = some (YR an O G W V i)) →
   xL P ops l (pl.drop m) hist (G m) (W m) K →
   ∃ (O : Nat -> Oper) (G : Nat -> Env) (W : Nat -> aDs) (V : Nat -> aDt), Run P ops an g0 w0 (m + l.length) O G W V /\ K (G (m + l.length)) (W (m + l.length)) := by
 intro l
 induction l with
 | nil => intro m hist O G W V _ _ hr _ h; exact ⟨O, G, W, V, hr, by unfold xL at h; exact h⟩
 | cons o l ih =>
   intro m hist O G W V hl hlen hr hh h
   have h0 : ops[m]? = some o := by have := hl 0; simpa using this.symm
   have hmn : m < ops.size := by rw [aBu] at hlen; omega
   obtain ⟨ks, hk1, hk2⟩ := aoZ hpl hmn
   have hdrop : pl.drop m = (vH m an.1, ks) :: pl.drop (m + 1) := by
    have hlt : m < pl.length := by
     rcases aBt m pl.length with h | h
     .exact h
     .rw [aBs h] at hk1; cases hk1
    rw [aCj hlt]
    rw [aBh hlt] at hk1
    rw [aBO hk1]
   rw [hdrop] at h
   obtain ⟨v, w', hy, hk⟩ := Qw h
   have key : (vH m an.1 = false -> w' = W m) /\ (∀ k ∈ ks, ∃ q, agZ hist k = some q /\ Vw P ops q o (G m) w' v) /\
       (xL P ops l (pl.drop (m + 1)) (⟨vH m an.1, o, G m, W m, v⟩ :: hist) (put (G m) o.dst v) w' K) := by
    have nil : ∀ w', ∀ k ∈ ([] : List Nat), ∃ q, agZ hist k = some q /\ Vw P ops q o (G m) w' v := fun _ k hk => (by cases hk)
    cases hm : vH m an.1 with
    | true =>
      rw [hm] at hk
      cases ks with
      | nil => exact ⟨fun e => (by cases e), nil _, hk⟩
      | cons k ks => exact ⟨fun e => (by cases e), afF hk.1, hk.2⟩
    | false =>
      rw [hm] at hk
      cases ks with
      | nil => obtain ⟨rfl, hk⟩ := hk; exact ⟨fun _ => rfl, nil _, hk⟩
      | cons k ks => obtain ⟨rfl, hc, hk⟩ := hk; exact ⟨fun _ => rfl, afF hc, hk⟩
   obtain ⟨kl, c1, c2⟩ := key
   let O' : Nat -> Oper := fun i => if i = m then o else O i
   let V' : Nat -> aDt := fun i => if i = m then v else V i
   let G' : Nat -> Env := fun i => if i = m + 1 then put (G m) o.dst v else G i
   let W' : Nat -> aDs := fun i => if i = m + 1 then w' else W i
   have eO : ∀ i, i < m -> O' i = O i := fun i hi => if_neg (by omega)
   have eV : ∀ i, i < m -> V' i = V i := fun i hi => if_neg (by omega)
   have eG : ∀ i, i <= m -> G' i = G i := fun i hi => if_neg (by omega)
   have eW : ∀ i, i <= m -> W' i = W i := fun i hi => if_neg (by omega)
   have oO : O' m = o := if_pos rfl
   have oV : V' m = v := if_pos rfl
   have oG : G' (m + 1) = put (G m) o.dst v := if_pos rfl
   have oW : W' (m + 1) = w' := if_pos rfl
   have eR : ∀ i, i < m -> YR an O' G' W' V' i = YR an O G W V i := fun i hi => by
    simp only [YR, eO i hi, eV i hi, eG i (by omega), eW i (by omega)]
   have hr' : Run P ops an g0 w0 (m + 1) O' G' W' V' := by
    refine ⟨by rw [eG 0 (by omega)]; exact hr.g0, by rw [eW 0 (by omega)]; exact hr.w0, fun i hi => ?_, fun i hi => ?_, fun i hi hm => ?_, fun i hi => ?_, fun i j hij hj hm => ?_⟩
    .by_cases hi' : i = m
     .subst hi'; rw [oO]; exact h0
     .rw [eO i (by omega)]; exact hr.op i (by omega)
    .by_cases hi' : i = m
     .subst hi'; rw [oO, oV, oW, eG i (by omega), eW i (by omega)]; exact hy
     .rw [eO i (by omega), eV i (by omega), eG i (by omega), eW i (by omega), eW (i + 1) (by omega)]; exact hr.yld i (by omega)
    .by_cases hi' : i = m
     .subst hi'; rw [oW, eW i (by omega)]; exact kl hm
     .rw [eW i (by omega), eW (i + 1) (by omega)]; exact hr.light i (by omega) hm
    .by_cases hi' : i = m
     .subst hi'; rw [oO, oV, oG, eG i (by omega)]
     .rw [eO i (by omega), eV i (by omega), eG i (by omega), eG (i + 1) (by omega)]; exact hr.env i (by omega)
    .unfold akX
     by_cases hj' : j = m
     .subst hj'
      rw [eR i (by omega), oO, oV, oW, eG j (by omega)]
      obtain ⟨q, hq, hc⟩ := c1 _ (hk2 i hm).2
      rw [hh i hij] at hq
      obtain rfl := aBO hq
      exact hc
     .rw [eR i (by omega), eO j (by omega), eV j (by omega), eG j (by omega), eW (j + 1) (by omega)]
      exact hr.chk i j hij (by omega) hm
   have := ih (m + 1) (⟨vH m an.1, o, G m, W m, v⟩ :: hist) O' G' W' V' (fun j => by
       have := hl (j + 1)
       simp only [aA7] at this
       rw [this]; congr 1; omega) (by rw [aBu] at hlen; omega) hr' (fun i hi => by
       by_cases hi' : i = m
       .subst hi'
        rw [show i + 1 - 1 - i = 0 from by omega]
        simp only [agZ, YR, oO, oV, eG i (by omega), eW i (by omega)]
       .rw [eR i (by omega), show m + 1 - 1 - i = (m - 1 - i) + 1 from by omega]
        exact hh i (by omega)) (by rw [oG, oW]; exact c2)
   rw [aBu, show m + (l.length + 1) = m + 1 + l.length from by omega]
   exact this
end
section
variable {P : Program} {ops : Array Oper} {an : Ann} {g0 : Env} {w0 : aDs} {O : Nat -> Oper} {G : Nat -> Env} {W : Nat -> aDs} {V : Nat -> aDt}
def PE (n : Nat) (O : Nat -> Oper) (V : Nat -> aDt) (g0 : Env) (S : Nat -> Prop) (g : Env) : Prop :=
 ∀ s, (∃ j, j < n /\ S j /\ (O j).dst = some s /\ (∀ k, k < n -> S k -> (O k).dst = some s -> k <= j) /\ g s = V j) ∨
   ((∀ j, j < n -> S j -> (O j).dst ≠ some s) /\ g s = g0 s)
theorem PE.agree {n : Nat} {S T : Nat -> Prop} {g g' : Env} (h : PE n O V g0 S g) (h' : PE n O V g0 T g') (s : Nat)
 (hs : ∀ j, j < n -> (O j).dst = some s -> (S j ↔ T j)) : g s = g' s := by
 rcases h s with ⟨j, h1, h2, h3, h4, h5⟩ | ⟨h1, h2⟩ <;> rcases h' s with ⟨k, k1, k2, k3, k4, k5⟩ | ⟨k1, k2⟩
 .have a := h4 k k1 ((hs k k1 k3).2 k2) k3
  have b := k4 j h1 ((hs j h1 h3).1 h2) h3
  have : j = k := by omega
  subst this; rw [h5, k5]
 .exact absurd h3 (k1 j h1 ((hs j h1 h3).1 h2))
 .exact absurd k3 (h1 k k1 ((hs k k1 k3).2 k2))
 .rw [h2, k2]
theorem PE.step {n : Nat} {S : Nat -> Prop} {g : Env} (h : PE n O V g0 S g) (i : Nat) (hi : i < n)
 (hw : ∀ s, (O i).dst = some s -> ∀ j, j < n -> j ≠ i -> (O j).dst = some s -> S j -> j < i) :
 PE n O V g0 (fun j => S j ∨ j = i) (put g (O i).dst (V i)) := by
 intro s
 cases hd : (O i).dst with
 | none =>
   rcases h s with ⟨j, h1, h2, h3, h4, h5⟩ | ⟨h1, h2⟩
   .refine .inl ⟨j, h1, .inl h2, h3, fun k k1 k2 k3 => ?_, h5⟩
    rcases k2 with k2 | rfl
    .exact h4 k k1 k2 k3
    .rw [hd] at k3; cases k3
   .refine .inr ⟨fun j h3 h4 h5 => ?_, h2⟩
    rcases h4 with h4 | rfl
    .exact h1 j h3 h4 h5
    .rw [hd] at h5; cases h5
 | some t =>
   rw [OQ]
   by_cases hst : s = t
   .subst hst
    rw [if_pos rfl]
    refine .inl ⟨i, hi, .inr rfl, hd, fun k k1 k2 k3 => ?_, rfl⟩
    rcases k2 with k2 | rfl
    .by_cases hk : k = i
     .omega
     .have := hw s hd k k1 hk k3 k2; omega
    .omega
   .rw [if_neg hst]
    rcases h s with ⟨j, h1, h2, h3, h4, h5⟩ | ⟨h1, h2⟩
    .refine .inl ⟨j, h1, .inl h2, h3, fun k k1 k2 k3 => ?_, h5⟩
     rcases k2 with k2 | rfl
     .exact h4 k k1 k2 k3
     .rw [hd] at k3; exact absurd (aBO k3).symm hst
    .refine .inr ⟨fun j h3 h4 h5 => ?_, h2⟩
     rcases h4 with h4 | rfl
     .exact h1 j h3 h4 h5
     .rw [hd] at h5; exact absurd (aBO h5).symm hst
theorem Run.envFor {n : Nat} (r : Run P ops an g0 w0 n O G W V) : ∀ i, i <= n -> PE n O V g0 (fun j => j < i) (G i) := by
 intro i
 induction i with
 | zero => intro _ s; exact .inr ⟨fun j _ h => absurd h (by omega), by rw [r.g0]⟩
 | succ i ih =>
   intro hi
   have h := ih (by omega)
   have := h.step (V := V) i (by omega) (fun s _ j _ _ _ hj => hj)
   rw [<- r.env i (by omega)] at this
   intro s
   rcases this s with ⟨j, h1, h2, h3, h4, h5⟩ | ⟨h1, h2⟩
   .exact .inl ⟨j, h1, by omega, h3, fun k k1 k2 k3 => h4 k k1 (by omega) k3, h5⟩
   .exact .inr ⟨fun j a b => h1 j a (by omega), h2⟩
theorem Run.still {n : Nat} (r : Run P ops an g0 w0 n O G W V) (i : Nat) : ∀ d, i + d <= n -> (∀ h, i <= h -> h < i + d -> vH h an.1 = false) -> W (i + d) = W i := by
 intro d
 induction d with
 | zero => intro _ _; rfl
 | succ d ih =>
   intro h1 h2
   rw [<- aCA, r.light (i + d) (by omega) (h2 _ (by omega) (by omega))]
   exact ih (by omega) (fun h a b => h2 h a (by omega))
theorem Run.still' {n : Nat} (r : Run P ops an g0 w0 n O G W V) {i k : Nat} (hik : i <= k) (hk : k <= n) (hh : ∀ h, i <= h -> h < k -> vH h an.1 = false) : W k = W i := by
 have := r.still i (k - i) (by omega) (fun h a b => hh h a (by omega))
 rwa [show i + (k - i) = k from by omega] at this
theorem afN {i k : Nat} : (∃ h, i <= h /\ h < k /\ vH h an.1 = true) -> ∃ h, i <= h /\ h < k /\ vH h an.1 = true /\ ∀ h', i <= h' -> h' < h -> vH h' an.1 = false := by
 rintro ⟨h, h1, h2, h3⟩
 induction h using Nat.strongRecOn with
 | _ h ih =>
   by_cases hx : ∃ h', i <= h' /\ h' < h /\ vH h' an.1 = true
   .obtain ⟨h', a, b, c⟩ := hx
    exact ih h' b a (by omega) c
   .refine ⟨h, h1, h2, h3, fun h' a b => ?_⟩
    cases hm : vH h' an.1
    .rfl
    .exact absurd ⟨h', a, b, hm⟩ hx
theorem aaP {i k : Nat} : (∃ h, i <= h /\ h < k /\ vH h an.1 = true) -> ∃ h, i <= h /\ h < k /\ vH h an.1 = true /\ ∀ h', h < h' -> h' < k -> vH h' an.1 = false := by
 rintro ⟨h, h1, h2, h3⟩
 induction hd : k - h using Nat.strongRecOn generalizing h with
 | _ d ih =>
   by_cases hx : ∃ h', h < h' /\ h' < k /\ vH h' an.1 = true
   .obtain ⟨h', a, b, c⟩ := hx
    exact ih (k - h') (by omega) h' (by omega) b c rfl
   .refine ⟨h, h1, h2, h3, fun h' a b => ?_⟩
    cases hm : vH h' an.1
    .rfl
    .exact absurd ⟨h', a, b, hm⟩ hx
structure aaJ (ops : Array Oper) (an : Ann) (O : Nat -> Oper) (b : Array Nat) : Prop where
 back : ∀ i, i < ops.size -> ∀ e ∈ (O i).after, Region.binds .any e = true -> e.on < i
 closed : ∀ i j, i < ops.size -> j < ops.size -> bef b i j = true -> ∃ e ∈ (O j).after, Region.binds .any e = true /\ (e.on = i ∨ bef b i e.on = true)
 pair : ∀ i j, i < j -> j < ops.size -> Sc ops b an i j (O i) (O j) = true
 sel : ∀ i, i < ops.size -> YU (O i) = false
 fn : ∀ i, i < ops.size -> apM (O i) = true -> vH i an.1 = true
theorem aoP (h : aaF ops an = true) (ho : ∀ i, i < ops.size -> ops[i]? = some (O i)) : aaJ ops an O (Region.before ops) := by
 unfold aaF at h
 simp only [aBn] at h
 obtain ⟨⟨⟨⟨h1, h2⟩, h3⟩, h5⟩, h6⟩ := h
 refine ⟨fun i hi e he hb => ?_, fun i j hi hj hb => ?_, fun i j hij hj => ?_, fun i hi => ?_, fun i hi hf => ?_⟩
 .unfold abZ at h1
  have := aBN.1 h1 i (aBY.2 hi)
  rw [ho i hi] at this
  have := aCd.1 this e he
  simp only [hb, aBe, Bool.false_or] at this
  exact (aCQ (x := e.on) (y := i)) ▸ this
 .unfold acG at h2
  have := aBN.1 (aBN.1 h2 j (aBY.2 hj)) i (aBY.2 hi)
  rw [ho j hj] at this
  simp only [hb, aBe, Bool.false_or] at this
  obtain ⟨e, he, h⟩ := Array.any_eq_true'.1 this
  simp only [aBn, aCk] at h
  refine ⟨e, he, h.1, h.2.imp (fun h => aBF h) id⟩
 .unfold agG at h3
  have := aBN.1 (aBN.1 h3 j (aBY.2 hj)) i (aBY.2 hij)
  rw [ho i (by omega), ho j hj] at this
  exact this
 .have := aCd.1 h5 (O i) (aDl (ho i hi))
  simpa using this
 .have := aBN.1 h6 i (aBY.2 hi)
  rw [ho i hi] at this
  simpa [hf] using this
theorem atP {i j : Nat} : ∀ {l : List (Nat × Nat)}, Z8 i j l = true -> (i, j) ∈ l := by
 intro l
 induction l with
 | nil => intro h; cases h
 | cons p r ih =>
   obtain ⟨a, b⟩ := p
   intro h
   unfold Z8 at h
   cases ha : Nat.beq a i with
   | true =>
     simp only [ha] at h
     cases hb : Nat.beq b j with
     | true =>
       obtain rfl := aBF ha
       obtain rfl := aBF hb
       exact aBI
     | false => simp only [hb] at h; exact aBq _ (ih h)
   | false => simp only [ha] at h; exact aBq _ (ih h)
theorem aaJ.order {b : Array Nat} (st : aaJ ops an O b) {S : Nat -> Prop} {i : Nat} (hi : i < ops.size)
 (hdown : ∀ j k, j < ops.size -> k < ops.size -> S k -> bef b j k = true -> S j) (hbi : ∀ j, j < ops.size -> bef b j i = true -> S j) (hni : ¬ S i)
 {s : Nat} (hs : s ∈ looks ops (O i) ∨ (O i).dst = some s) {j : Nat} (hj : j < ops.size) (hji : j ≠ i) (hd : (O j).dst = some s) : S j ↔ j < i := by
 rcases aBt j i with h | h
 .refine ⟨fun _ => h, fun _ => ?_⟩
  have p := st.pair j i h hi
  unfold Sc at p
  simp only [aCk, aBn, aCp] at p
  rcases p with p | p
  .exact hbi j hj p
  .exfalso
   have p1 := p.1
   unfold apT at p1
   simp only [hd, aC1] at p1
   rcases hs with hs | hs
   .have := p1.1.1; simp [hs] at this
   .have := p1.1.2; simp [hs] at this
 .have h' : i < j := by omega
  refine ⟨fun hS => ?_, fun hh => by omega⟩
  exfalso
  have p := st.pair i j h' hj
  unfold Sc at p
  simp only [aCk, aBn, aCp] at p
  rcases p with p | p
  .exact hni (hdown i j hi hj hS p)
  .have p1 := p.1
   unfold apT at p1
   simp only [hd, aC1] at p1
   rcases hs with hs | hs
   .have := p1.2; simp [hs] at this
   .have := p1.1; rw [hs] at this; simp at this
theorem OY {g g' : Env} {o : Oper} (h : ∀ s ∈ looks ops o, g s = g' s) : ∀ x ∈ o.op.operands, ev g x = ev g' x := by
 intro x hx
 cases x with
 | tmp t => exact h t (aCx _ (List.mem_filterMap.2 ⟨.tmp t, by simpa using hx, rfl⟩))
 | _ => rfl
theorem afC {g g' : Env} {o : Oper} (hs : YU o = false) (h : ∀ s ∈ looks ops o, g s = g' s) : Ot g o = Ot g' o := by
 have e := execOp_congr o (fun cs b he => by simp [YU, he] at hs) (OY h)
 have k := OY h
 unfold Ot
 split
 .rename_i op t x y yt hx
  rw [k x (by simp [hx, Op.operands]), k y (by simp [hx, Op.operands])]
 .rename_i fn first captured hx
  have e1 : List.map (ev g) first.toList = List.map (ev g') first.toList := aCh fun p hp => k p (by simp [hx, Op.operands]; exact .inl (by simpa using hp))
  have e2 : List.map (ev g) captured.toList = List.map (ev g') captured.toList := aCh fun p hp => k p (by simp [hx, Op.operands]; exact .inr (by simpa using hp))
  rw [e1, e2]
 .rename_i t ps hx
  congr 1
  refine aCh fun p hp => ?_
  rw [k p.2 (by simp [hx, Op.operands]; exact ⟨p.1, by simpa using hp⟩)]
 .rename_i t n ps hx
  congr 1
  refine aCh fun p hp => ?_
  rw [k p.2 (by simp [hx, Op.operands]; exact ⟨p.1, by simpa using hp⟩)]
 .rename_i c hx
  split
  .rename_i b hb
   congr 1
   refine aCh fun p hp => ?_
   exact k p (by simp [hx, Op.operands, Call.operands, hb]; simpa using hp)
  .rename_i f hb
   have : List.map (ev g) c.args.toList = List.map (ev g') c.args.toList := aCh fun p hp => k p (by simp [hx, Op.operands, Call.operands, hb]; exact .inr (by simpa using hp))
   rw [this, k f (by simp [hx, Op.operands, Call.operands, hb])]
  .exact e
 .exact e
theorem abM {g g' : Env} {o : Oper} {j : Nat} {want : Bool} (hg : o.guard = some (j, want)) (h : ∀ s ∈ looks ops o, g s = g' s) :
 Eb g (HY ops j) want = Eb g' (HY ops j) want := by
 cases hs : HY ops j with
 | none => rfl
 | some t =>
   have := h t (aCW _ (by simp [hg, hs]))
   simp [Eb, this]
theorem V2 {g g' : Env} {o : Oper} {w : aDs} {K : aDt -> aDs -> Prop} (hs : YU o = false) (h : ∀ s ∈ looks ops o, g s = g' s)
 (hk : Lo P ops g o w K) : Lo P ops g' o w K := by
 have e := afC (ops := ops) hs h
 have run : MD P g o w = MD P g' o w := by
  funext K
  unfold MD
  split
  .rename_i x hx
   have := OY (ops := ops) h x (by simp [hx, Op.operands])
   rw [this]
  .rename_i x hx
   have := OY (ops := ops) h x (by simp [hx, Op.operands])
   rw [this]
  .rename_i c hx
   have k := OY h
   have : List.map (ev g) c.args.toList = List.map (ev g') c.args.toList := aCh fun p hp => k p (by simp [hx, Op.operands, Call.operands]; exact .inr (by simpa using hp))
   rw [this, e]
  .rw [e]
 unfold Lo at *
 cases hg : o.guard with
 | none => rw [hg] at hk; simp only at hk ⊢; rwa [<- run]
 | some p =>
   obtain ⟨j, want⟩ := p
   simp only [hg] at hk ⊢
   rw [<- run, <- abM hg h]
   exact hk
theorem agY {n : Nat} (hn : n = ops.size) {b : Array Nat} (r : Run P ops an g0 w0 n O G W V) (st : aaJ ops an O b) {S : Nat -> Prop} {i k : Nat} (hi : i < n) (hk : k <= n)
 (hdown : ∀ j k, j < ops.size -> k < ops.size -> S k -> bef b j k = true -> S j) (hbi : ∀ j, j < ops.size -> bef b j i = true -> S j) (hni : ¬ S i)
 (hS : ∀ h, h < n -> vH h an.1 = true -> (S h ↔ h < k)) (hl : vH i an.1 = false) :
 Y0 P ops (G i) (O i) (W k) (V i) (W k) := by
 subst hn
 have same : Gs (gOf ops (O i) (G i)) (jD P (Ot (G i) (O i)) (V i) (W k)) -> Qh (O i) = false -> Y0 P ops (G i) (O i) (W k) (V i) (W k) := by
  intro hs hm K hK
  have run : jD P (Ot (G i) (O i)) (V i) (W k) -> MD P (G i) (O i) (W k) K := by
   intro hs
   unfold jD at hs
   have stp : gI P (Ot (G i) (O i)) (W k) K := by unfold gI; rw [hs]; exact hK
   unfold MD
   split
   .rename_i x hx; simp [Qh, hx] at hm
   .rename_i x hx; simp [Qh, hx] at hm
   .rename_i c hx
    have hf : apM (O i) = false := by
     cases hh : apM (O i)
     .rfl
     .rw [st.fn i hi hh] at hl; cases hl
    obtain ⟨cal, cargs, cats⟩ := c
    cases cal with
    | value f =>
      cases f with
      | func f => simp [apM, hx] at hf
      | _ => exact stp
    | _ => exact stp
   .exact stp
  have hy := r.yld i hi (fun v _ => v = V i) rfl
  unfold Lo at hy ⊢
  unfold gOf at hs
  cases hg : (O i).guard with
  | none => rw [hg] at hs; exact run hs
  | some p =>
    obtain ⟨j, want⟩ := p
    rw [hg] at hs
    simp only [hg] at hs hy ⊢
    cases hb : Eb (G i) (HY ops j) want with
    | true => rw [hb] at hs; exact run hs
    | false =>
      rw [hb] at hy
      have : undef = V i := hy
      show K undef (W k)
      rw [this]; exact hK
 have moved : Qh (O i) = true -> Y0 P ops (G i) (O i) (W k) (V i) (W k) := by
  intro hm K hK
  have hy := r.yld i hi (fun v _ => v = V i) rfl
  unfold Lo at hy ⊢
  have mv : ∀ (K' : aDt -> aDs -> Prop) w, MD P (G i) (O i) w K' ↔ ∃ x, ((O i).op = .move x ∨ (O i).op = .assign x) /\ K' (ev (G i) x) w := by
   intro K' w
   unfold MD
   unfold Qh at hm
   split
   .rename_i x hx; constructor
    .intro h; exact ⟨x, .inl hx, h⟩
    .rintro ⟨y, h | h, h'⟩
     .rw [hx] at h; cases h; exact h'
     .rw [hx] at h; cases h
   .rename_i x hx; constructor
    .intro h; exact ⟨x, .inr hx, h⟩
    .rintro ⟨y, h | h, h'⟩
     .rw [hx] at h; cases h
     .rw [hx] at h; cases h; exact h'
   .rename_i c hx; simp [hx] at hm
   .rename_i h1 h2 _; split at hm
    .rename_i x hx; exact absurd hx (h1 x)
    .rename_i x hx; exact absurd hx (h2 x)
    .cases hm
  cases hg : (O i).guard with
  | none =>
    rw [hg] at hy
    simp only at hy ⊢
    rw [mv] at hy ⊢
    obtain ⟨x, hx, h⟩ := hy
    exact ⟨x, hx, h ▸ hK⟩
  | some p =>
    obtain ⟨j, want⟩ := p
    simp only [hg] at hy ⊢
    unfold Gd at *
    cases hb : Eb (G i) (HY ops j) want with
    | true =>
      simp only [hb] at hy ⊢
      rw [mv] at hy ⊢
      obtain ⟨x, hx, h⟩ := hy
      exact ⟨x, hx, h ▸ hK⟩
    | false =>
      simp only [hb] at hy ⊢
      rwa [hy]
 rcases aDn k i with hki | hki
 .by_cases hx : ∃ h, k <= h /\ h < i /\ vH h an.1 = true
  .obtain ⟨h, h1, h2, h3, h4⟩ := afN hx
   have e : W h = W k := r.still' h1 (by omega) h4
   have p := st.pair h i h2 hi
   unfold Sc at p
   simp only [aCk, aBn, aCp] at p
   rcases p with p | p
   .have := hbi h (by omega) p
    have := (hS h (by omega) h3).1 this
    omega
   .have p2 := p.2
    rw [h3, hl] at p2
    simp only [aCk] at p2
    cases hmv : Qh (O i) with
    | true => exact moved hmv
    | false =>
      rcases p2 with p2 | p2
      .rw [hmv] at p2; cases p2
      .refine same ?_ hmv
       have c := r.chk h i h2 hi p2
       unfold akX Vw YR at c
       simp only [h3] at c
       rw [<- e]; exact c
  .have e : W i = W k := r.still' hki (by omega) (fun h a b => by
    cases hm : vH h an.1
    .rfl
    .exact absurd ⟨h, a, b, hm⟩ hx)
   have hy := r.yld i hi
   rw [r.light i hi hl, e] at hy
   exact hy
 .by_cases hx : ∃ h, i <= h /\ h < k /\ vH h an.1 = true
  .obtain ⟨h, h1, h2, h3, h4⟩ := aaP hx
   have hne : h ≠ i := fun e => by rw [e, hl] at h3; cases h3
   have e : W k = W (h + 1) := r.still' (by omega) hk (fun h' a b => h4 h' (by omega) b)
   have p := st.pair i h (by omega) (by omega)
   unfold Sc at p
   simp only [aCk, aBn, aCp] at p
   rcases p with p | p
   .exact absurd (hdown i h (by omega) (by omega) ((hS h (by omega) h3).2 h2) p) hni
   .have p2 := p.2
    rw [h3, hl] at p2
    simp only [aCk] at p2
    cases hmv : Qh (O i) with
    | true => exact moved hmv
    | false =>
      rcases p2 with p2 | p2
      .rw [hmv] at p2; cases p2
      .refine same ?_ hmv
       have c := r.chk i h (by omega) (by omega) p2
       unfold akX Vw YR at c
       simp only [hl] at c
       rw [e]; exact c
  .have e : W k = W i := r.still' hki hk (fun h a b => by
    cases hm : vH h an.1
    .rfl
    .exact absurd ⟨h, a, b, hm⟩ hx)
   have hy := r.yld i hi
   rw [r.light i hi hl, <- e] at hy
   exact hy
def rU (listed : Array Bool) (i : Nat) : Prop := listed.getD i false = true
theorem arQ {N n : Nat} (hn : n = ops.size) (hd : VC N ops) (hca : Wt P ops) {b : Array Nat} (r : Run P ops an g0 w0 n O G W V) (st : aaJ ops an O b)
 {Q : Act -> aDs -> Prop} (hQ : ∀ a, Tx N (G n) a -> Q a (W n)) :
 ∀ (fuel : Nat) (listed : Array Bool) (g : Env) (a : Act) (k : Nat), listed.size = n -> Tx N g a -> k <= n →
   (∀ j, j < n -> rU listed j -> ∀ e ∈ (O j).after, Region.binds .any e = true -> rU listed e.on) →
   PE n O V g0 (rU listed) g -> (∀ h, h < n -> vH h an.1 = true -> (rU listed h ↔ h < k)) →
   ((List.range n).filter fun i => !listed.getD i false).length <= fuel →
   ZN P ops Q fuel listed a (W k) := by
 subst hn
 have ready_iff : ∀ (listed : Array Bool), listed.size = ops.size -> ∀ i, i ∈ Region.ready .any ops listed ↔ (i < ops.size /\ ¬ rU listed i /\ ∀ e ∈ (O i).after, Region.binds .any e = true -> rU listed e.on) := by
  intro listed hsz i
  unfold Region.ready rU
  rw [aDo, aBY]
  constructor
  .rintro ⟨h1, h2⟩
   rw [r.op i h1] at h2
   simp only [aBn, aBJ, aCD] at h2
   refine ⟨h1, ?_, fun e he hb => ?_⟩
   .have := h2.1
    rw [aBm] at this ⊢
    rw [aBx (by omega)] at this ⊢
    simpa using this
   .have := aCd.1 h2.2 e he
    simpa [hb] using this
  .rintro ⟨h1, h2, h3⟩
   refine ⟨h1, ?_⟩
   rw [r.op i h1]
   simp only [aBn, aBJ, aCD]
   refine ⟨?_, aCd.2 fun e he => ?_⟩
   .rw [aBm] at h2 ⊢
    rw [aBx (by omega)] at h2 ⊢
    simpa using h2
   .by_cases hb : Region.binds .any e = true
    .simp [hb, h3 e he hb]
    .simp [hb]
 have none_ready : ∀ (listed : Array Bool), listed.size = ops.size -> Region.ready .any ops listed = [] -> ∀ i, i < ops.size -> rU listed i := by
  intro listed hsz hr i
  induction i using Nat.strongRecOn with
  | _ i ih =>
    intro hi
    refine Classical.byContradiction fun hl => ?_
    have : i ∈ Region.ready .any ops listed := (ready_iff listed hsz i).2 ⟨hi, hl, fun e he hb => by
     have := st.back i hi e he hb
     exact ih e.on this (by omega)⟩
    rw [hr] at this; cases this
 have all_done : ∀ (listed : Array Bool) (g : Env) (a : Act) (k : Nat), Tx N g a -> k <= ops.size -> PE ops.size O V g0 (rU listed) g →
     (∀ h, h < ops.size -> vH h an.1 = true -> (rU listed h ↔ h < k)) -> (∀ i, i < ops.size -> rU listed i) -> Q a (W k) := by
  intro listed g a k hr hk he hh hall
  have e : W ops.size = W k := r.still' hk (aBk _) (fun h h1 h2 => by
   cases hm : vH h an.1
   .rfl
   .have := (hh h h2 hm).1 (hall h h2); omega)
  have eg : g = G ops.size := funext fun s => he.agree (r.envFor ops.size (aBk _)) s (fun j hj _ => ⟨fun _ => hj, fun _ => hall j hj⟩)
  rw [<- e]; exact hQ a (eg ▸ hr)
 intro fuel
 induction fuel with
 | zero =>
   intro listed g a k hsz hr hk hdep henv hh hc
   have hall : ∀ i, i < ops.size -> rU listed i := by
    intro i hi
    have hnil : ((List.range ops.size).filter fun i => !listed.getD i false) = [] := aBT.1 (by omega)
    have := List.filter_eq_nil_iff.1 hnil i (aBY.2 hi)
    unfold rU; simpa using this
   refine ⟨?_, all_done listed g a k hr hk henv hh hall⟩
   rw [List.eq_nil_iff_forall_not_mem]
   intro i hi
   have := (ready_iff listed hsz i).1 hi
   exact this.2.1 (hall i this.1)
 | succ fuel ih =>
   intro listed g a k hsz hr hk hdep henv hh hc
   refine ⟨fun hn => all_done listed g a k hr hk henv hh (none_ready listed hsz hn), fun i hi => ?_⟩
   obtain ⟨h1, h2, h3⟩ := (ready_iff listed hsz i).1 hi
   have hdown : ∀ k j, j < ops.size -> k < ops.size -> rU listed k -> bef b j k = true -> rU listed j := by
    intro k
    induction k using Nat.strongRecOn with
    | _ k ihk =>
      intro j hj hk hl hb
      obtain ⟨e, he, hbi, h⟩ := st.closed j k hj hk hb
      have hle := hdep k hk hl e he hbi
      rcases h with h | h
      .exact h ▸ hle
      .have hlt := st.back k hk e he hbi
       exact ihk e.on hlt j hj (by omega) hle h
   have hbi : ∀ j, j < ops.size -> bef b j i = true -> rU listed j := by
    intro j hj hb
    obtain ⟨e, he, hbi, h⟩ := st.closed j i hj h1 hb
    have hle := h3 e he hbi
    rcases h with h | h
    .exact h ▸ hle
    .have hlt := st.back i h1 e he hbi
     exact hdown e.on j hj (by omega) hle h
   have hdown' : ∀ j k, j < ops.size -> k < ops.size -> rU listed k -> bef b j k = true -> rU listed j := fun j k => hdown k j
   have hlooks : ∀ s ∈ looks ops (O i), (G i) s = g s := fun s hs =>
    (r.envFor i (by omega)).agree henv s (fun j hj hd => by
      by_cases hji : j = i
      .subst hji
       exact ⟨fun h => absurd h (by omega), fun h => absurd h h2⟩
      .exact (st.order h1 hdown' hbi h2 (.inl hs) hj hji hd).symm)
   have hl' : ∀ j, rU (listed.setIfInBounds i true) j ↔ (rU listed j ∨ j = i) := by
    intro j
    unfold rU
    rw [aBm, aBm]
    by_cases hji : j = i
    .subst hji
     rw [aBG (by omega)]
     simp
    .rw [aBP (fun e => hji e.symm)]
     simp [hji]
   have next : ∀ k', k' <= ops.size -> (∀ h, h < ops.size -> vH h an.1 = true -> ((rU listed h ∨ h = i) ↔ h < k')) -> Y0 P ops g (O i) (W k) (V i) (W k') →
       Sf P ops i (ZN P ops Q fuel (listed.setIfInBounds i true)) a (W k) := by
    intro k' hk' hh' hy
    refine YQ (r.op i h1) (hca i _ (r.op i h1)) hd hr hy ?_
    refine ih _ (put g (O i).dst (V i)) _ k' (by simp [hsz]) (hr.put _ _ (hd i _ (r.op i h1))) hk' ?_ ?_ ?_ ?_
    .intro j hj hlj e he hb
     rw [hl'] at hlj ⊢
     rcases hlj with hlj | rfl
     .exact .inl (hdep j hj hlj e he hb)
     .exact .inl (h3 e he hb)
    .have := henv.step i h1 (fun s hs j hj hji hd hlj => (st.order h1 hdown' hbi h2 (.inr hs) hj hji hd).1 hlj)
     intro s
     rcases this s with ⟨j, j1, j2, j3, j4, j5⟩ | ⟨j1, j2⟩
     .exact .inl ⟨j, j1, (hl' j).2 j2, j3, fun k k1 k2 k3 => j4 k k1 ((hl' k).1 k2) k3, j5⟩
     .exact .inr ⟨fun j a b => j1 j a ((hl' j).1 b), j2⟩
    .intro h a b; rw [hl']; exact hh' h a b
    .have hin : i ∈ (List.range ops.size).filter fun i => !listed.getD i false :=
      aDo.2 ⟨aBY.2 h1, by unfold rU at h2; simpa using h2⟩
     have e1 : ((List.range ops.size).filter fun j => !(listed.setIfInBounds i true).getD j false) = ((List.range ops.size).filter fun j => !listed.getD j false).filter fun j => j != i := by
      rw [List.filter_filter]
      refine List.filter_congr fun j _ => ?_
      have := hl' j
      unfold rU at this
      by_cases hji : j = i
      .have hh : (listed.setIfInBounds i true).getD j false = true := this.2 (.inr hji)
       rw [hh, hji]; simp
      .have hne : (j != i) = true := by simpa using hji
       rw [hne, Bool.true_and]
       cases ha : listed.getD j false with
       | true => rw [this.2 (.inl ha)]
       | false =>
         cases hb : (listed.setIfInBounds i true).getD j false with
         | false => rfl
         | true => rcases this.1 hb with h | h
                   .rw [ha] at h; cases h
                   .exact absurd h hji
     have hnd : ((List.range ops.size).filter fun j => !listed.getD j false).Nodup := List.nodup_range.filter _
     rw [e1, <- List.Nodup.erase_eq_filter hnd, List.length_erase_of_mem hin]
     omega
   cases hm : vH i an.1 with
   | true =>
     have hS : ∀ h, h < ops.size -> vH h an.1 = true -> (rU listed h ↔ h < i) := by
      intro h hh1 hhm
      rcases aDe h i with hlt | heq | hgt
      .refine ⟨fun _ => hlt, fun _ => ?_⟩
       have p := st.pair h i hlt h1
       unfold Sc at p
       rw [hhm, hm] at p
       simp only [aCk, aBn, aA8, and_false, or_false] at p
       exact hbi h hh1 p
      .subst heq; exact ⟨fun hh => absurd hh h2, fun hh => absurd hh (by omega)⟩
      .refine ⟨fun hl => ?_, fun hh => absurd hh (by omega)⟩
       have p := st.pair i h hgt hh1
       unfold Sc at p
       rw [hhm, hm] at p
       simp only [aCk, aBn, aA8, and_false, or_false] at p
       exact absurd (hdown h i h1 hh1 hl p) h2
     have eW : W k = W i := by
      rcases aDn k i with hki | hki
      .exact (r.still' hki (by omega) (fun h a b => by
        cases hx : vH h an.1
        .rfl
        .have := (hh h (by omega) hx).1 ((hS h (by omega) hx).2 b); omega)).symm
      .exact r.still' hki hk (fun h a b => by
        cases hx : vH h an.1
        .rfl
        .have := (hS h (by omega) hx).1 ((hh h (by omega) hx).2 b); omega)
     refine next (i + 1) (by omega) (fun h a b => ?_) ?_
     .rw [hS h a b]; omega
     .rw [eW]
      intro K hK
      exact V2 (ops := ops) (st.sel i h1) hlooks (r.yld i h1 K hK)
   | false =>
     refine next k hk (fun h a b => ?_) ?_
     .rw [<- hh h a b]
      constructor
      .rintro (h' | rfl)
       .exact h'
       .rw [hm] at b; cases b
      .exact .inl
     .intro K hK
      exact V2 (ops := ops) (st.sel i h1) hlooks (agY rfl r st h1 hk hdown' hbi h2 hh hm K hK)
end
abbrev aaD (P : Program) : Machine -> Prop := Machine.fenced P Fence.wide
def ZZ (P : Program) (f : FuncId) (ro : Option Nat) (c : Code) (Q : Exit -> Act -> aDs -> Prop) (a : Act) (w : aDs) : Prop :=
 ∀ (b : Frame) (k : List Item) (cs : List Frame), b.fn = f -> b.roundOf = ro -> ∃ e a' w', Q e a' w' /\ ArrivesIn (aaD P) P (lone (b.atR a (.code c :: k)) cs w) b k cs e a' w'
section
variable {P : Program} {f : FuncId} {ro : Option Nat} {Q : Exit -> Act -> aDs -> Prop} {a : Act} {w : aDs}
theorem Lu {m m1 : Machine} (h : step P m = .next m1) : StepsIn (aaD P) P m m1 := .one (fenced_wide P m) h
theorem QQ {m m1 m2 : Machine} (h : step P m = .next m1) (h' : StepsIn (aaD P) P m1 m2) : StepsIn (aaD P) P m m2 := .head (fenced_wide P m) h h'
theorem atB (h : Q .normal a w) : ZZ P f ro .skip Q a w := fun _ _ _ _ _ => ⟨.normal, a, w, h, Lu Go.stepR_skip⟩
theorem anE {l : Nat} (h : Q .normal a w) : ZZ P f ro (.label l) Q a w := fun _ _ _ _ _ => ⟨.normal, a, w, h, Lu stepR_label⟩
theorem ahG {id : Nat} (h : Q (.exit id) a w) : ZZ P f ro (.exit id) Q a w :=
 fun _ k _ _ _ => ⟨.exit id, a, w, h, fun _ hk => Lu (stepR_exit hk), fun _ hk => ⟨k, hk, .refl _⟩⟩
theorem akM (h : Q .ret a w) : ZZ P f ro .ret Q a w :=
 fun _ k _ _ _ => ⟨.ret, a, w, h, fun hn => ⟨_, Lu (stepR_ret hn)⟩, fun _ => ⟨k, .refl _⟩⟩
theorem avN {x y : Code} (h : ZZ P f ro x (Exit.then (ZZ P f ro y Q) Q) a w) : ZZ P f ro (.seq x y) Q a w := by
 intro b k cs hb hro
 obtain ⟨e, a1, w1, hq, har⟩ := h b (.code y :: k) cs hb hro
 cases e with
 | normal =>
   obtain ⟨e2, a2, w2, hq2, har2⟩ := hq b k cs hb hro
   exact ⟨e2, a2, w2, hq2, .of_steps (QQ stepR_seq har) har2⟩
 | _ => exact ⟨_, a1, w1, hq, .of_steps (Lu stepR_seq) (.pass (x := .code y) rfl (fun _ _ => .inl (by simp)) har)⟩
theorem asM {c : Operand} {x y : Code} {t : Bool} (hc : a.eval c = .bool t) (h : ZZ P f ro (if t then x else y) Q a w) : ZZ P f ro (.cond c x y) Q a w :=
 fun b k cs hb hro => let ⟨e, a1, w1, q, r⟩ := h b k cs hb hro; ⟨e, a1, w1, q, .of_steps (Lu (stepR_cond hc)) r⟩
theorem amT {id : Nat} {c : Code} (h : ZZ P f ro c (Exit.inBlock id Q) a w) : ZZ P f ro (.block id c) Q a w := by
 intro b k cs hb hro
 obtain ⟨e, a1, w1, hq, har⟩ := h b (.inBlock id :: k) cs hb hro
 cases e with
 | normal => exact ⟨.normal, a1, w1, hq, QQ stepR_block (StepsIn.trans har (Lu stepR_inBlock))⟩
 | exit i =>
   by_cases hid : i = id
   .simp only [Exit.inBlock, hid, if_true] at hq
    exact ⟨.normal, a1, w1, hq, QQ stepR_block (har.1 k (by simp [exitTo, hid]))⟩
   .simp only [Exit.inBlock, hid, if_false] at hq
    have this : (id == i) = false := by simp; exact fun h => hid h.symm
    have hx : exitTo i (.inBlock id :: k) = exitTo i k := by simp [exitTo, this]
    exact ⟨.exit i, a1, w1, hq, fun k' hk => QQ stepR_block (har.1 k' (by rw [hx]; exact hk)),
     fun hr' hk => let ⟨k1, h1, h2⟩ := har.2 hr' (by rw [hx]; exact hk); ⟨k1, h1, QQ stepR_block h2⟩⟩
 | goto l =>
   have hx : gotoIn l (.inBlock id :: k) = gotoIn l k := by simp [gotoIn]
   exact ⟨_, a1, w1, hq, fun k' hk => QQ stepR_block (har.1 k' (by rw [hx]; exact hk)),
    fun hr' hk => let ⟨k1, h1, h2⟩ := har.2 hr' (by rw [hx]; exact hk); ⟨k1, h1, QQ stepR_block h2⟩⟩
 | ret => exact ⟨_, a1, w1, hq, .of_steps (Lu stepR_block) har⟩
 | panic ch => exact ⟨_, a1, w1, hq, .of_steps (Lu stepR_block) har⟩
 | outgrown => exact ⟨_, a1, w1, hq, .of_steps (Lu stepR_block) har⟩
theorem Fe {b : Frame} {k : List Item} {cs : List Frame} {c : Code} :
 step P (lone (b.atR a (.code (.scope c) :: k)) cs w) = .next (lone (b.atR a (.code c :: .inScope c :: k)) cs w) :=
 step_lone_go (by simp [stepG, stepG.exec, Frame.atR])
theorem abA {b : Frame} {k : List Item} {cs : List Frame} {c : Code} :
 step P (lone (b.atR a (.inScope c :: k)) cs w) = .next (lone (b.atR a k) cs w) :=
 step_lone_go (by simp [stepG, stepG.exec, Frame.atR])
theorem anV {c : Code} (h : ZZ P f ro c (Exit.noGoto Q) a w) : ZZ P f ro (.scope c) Q a w := by
 intro b k cs hb hro
 obtain ⟨e, a1, w1, hq, har⟩ := h b (.inScope c :: k) cs hb hro
 cases e with
 | normal => exact ⟨.normal, a1, w1, hq, QQ Fe (StepsIn.trans har (Lu abA))⟩
 | exit id =>
   have hx : exitTo id (.inScope c :: k) = exitTo id k := by simp [exitTo]
   exact ⟨.exit id, a1, w1, hq, fun k' hk => QQ Fe (har.1 k' (by rw [hx]; exact hk)),
    fun hr' hk => let ⟨k1, h1, h2⟩ := har.2 hr' (by rw [hx]; exact hk); ⟨k1, h1, QQ Fe h2⟩⟩
 | goto l => exact hq.elim
 | ret => exact ⟨_, a1, w1, hq, .of_steps (Lu Fe) har⟩
 | panic ch => exact ⟨_, a1, w1, hq, .of_steps (Lu Fe) har⟩
 | outgrown => exact ⟨_, a1, w1, hq, .of_steps (Lu Fe) har⟩
theorem arN {c : Code} (I : Act -> aDs -> Prop) (μ : Act -> aDs -> Nat) (h0 : I a w)
 (round : ∀ a w, I a w -> ZZ P f ro c (Exit.then (fun a' w' => I a' w' /\ μ a' w' < μ a w) Q) a w) : ZZ P f ro (.loop c) Q a w := by
 intro b k cs hb hro
 have key : ∀ n a w, μ a w = n -> I a w →
     ∃ e a' w', Q e a' w' /\ ArrivesIn (aaD P) P (lone (b.atR a (.code c :: .inLoop c :: k)) cs w) b k cs e a' w' := by
  intro n
  induction n using Nat.strongRecOn with
  | _ n ih =>
    intro a w hn hI
    obtain ⟨e, a1, w1, hq, har⟩ := round a w hI b (.inLoop c :: k) cs hb hro
    cases e with
    | normal =>
      obtain ⟨hI1, hlt⟩ := hq
      obtain ⟨e2, a2, w2, hq2, har2⟩ := ih (μ a1 w1) (hn ▸ hlt) a1 w1 rfl hI1
      exact ⟨e2, a2, w2, hq2, .of_steps (StepsIn.trans har (Lu stepR_inLoop)) har2⟩
    | _ => exact ⟨_, a1, w1, hq, .pass (x := .inLoop c) rfl (fun _ _ => .inl (by simp)) har⟩
 obtain ⟨e, a', w', hq, har⟩ := key _ a w rfl h0
 exact ⟨e, a', w', hq, .of_steps (Lu stepR_loop) har⟩
theorem akQ {ops : Array Oper} {L : List Nat} (h : Hi P ops (Q .normal) L a w) (b : Frame) (k : List Item) (cs : List Frame) (hro : b.roundOf = ro) :
 ∃ e a' w', Q e a' w' /\ ArrivesIn (aaD P) P (lone (b.atR a (.inRegion ops L :: k)) cs w) b k cs e a' w' := by
 obtain ⟨e, a', w', ⟨rfl, hq⟩, hs⟩ := wp_opsIn (F := ZT ro) (n := 0) L a w (aoO ro L a w h) b k cs hro trivial (fun _ h => by simp [ZT, Fence.wide] at h)
 exact ⟨.normal, a', w', hq, hs⟩
theorem aiP {id : Nat} {ops : Array Oper} (h : Hi P ops (Q .normal) (List.range ops.size) a w) : ZZ P f ro (.region id ops false) Q a w := by
 intro b k cs hb hro
 obtain ⟨e, a1, w1, q, r⟩ := akQ h b k cs hro
 exact ⟨e, a1, w1, q, .of_steps (Lu stepR_region) r⟩
theorem Zi (hm : P.follows .mixedOrders = true) {id : Nat} {ops : Array Oper}
 (h : Hi P ops (Q .normal) (Region.schedule true ops (w.tape w.drawn (.order f id))) a { w with drawn := w.drawn + 1 }) : ZZ P f ro (.region id ops true) Q a w := by
 intro b k cs hb hro
 obtain ⟨e, a1, w1, q, r⟩ := akQ h b k cs hro
 refine ⟨e, a1, w1, q, .of_steps (Lu ?_) r⟩
 have := @stepR_region_draw P b a k cs w ops id
 rw [hm, hb] at this
 exact this
def GR (v : aDt) (w : aDs) (K : aDs -> Prop) : Prop :=
 match v with
 | .pointer (some a) => w.heap[a.block]? = some (.deferred (some [])) /\ K (w.putObj a.block (.deferred none))
 | _ => K w
def aoY (P : Program) (fn : Func) (R : aDt -> aDs -> Prop) : Exit -> Act -> aDs -> Prop
 | .normal, a, w | .ret, a, w => ∃ m, a.defers = agF m /\ GR m w fun w' => ∃ v, (results fn a.tmps).run P w' = .ok v w' /\ R v w'
 | _, _, _ => False
theorem agH {fn : Func} {R : aDt -> aDs -> Prop} {fr : Frame} {cs : List Frame} (hm : fr.mode = .returning) (hf : P.funcs[fr.fn]? = some fn) (hk : fr.kind = .normal) {m : aDt} (hd : fr.defers = agF m)
 (h : GR m w fun w' => ∃ v, (results fn fr.tmps).run P w' = .ok v w' /\ R v w') :
 ∃ v w' fr', R v w' /\ Steps P (lone fr cs w) (lone fr' cs w') /\ fr'.fn = fr.fn /\ fr'.leaving P w' (.returned v) := by
 have nil : fr.defers = [] -> (∃ v, (results fn fr.tmps).run P w = .ok v w /\ R v w) →
     ∃ v w' fr', R v w' /\ Steps P (lone fr cs w) (lone fr' cs w') /\ fr'.fn = fr.fn /\ fr'.leaving P w' (.returned v) := by
  rintro hd ⟨v, hv, hR⟩
  exact ⟨v, w, fr, hR, .refl _ _, rfl, hm, hd, hk, fn, hf, hv⟩
 cases m with
 | pointer p =>
   cases p with
   | none => exact nil hd h
   | some a =>
     obtain ⟨h1, v, hv, hR⟩ := h
     have hs := step_collected (P := P) (fr := fr) (cs := cs) (w := w) (d := { target := .collected a.block, args := #[] }) (r := a.block) (ds := []) (calls := [])
      (by rw [hm]; simp) hd rfl (run_takeDeferred h1)
     exact ⟨v, _, { fr with defers := [] }, hR, .head hs (.refl _ _), rfl, hm, rfl, hk, fn, hf, hv⟩
 | _ => exact nil hd h
theorem adH {fn : Func} {c : Code} {args : Array aDt} {w : aDs} {R : aDt -> aDs -> Prop}
 (hf : P.funcs[f]? = some fn) (hb : fn.body = some c)
 (h : ZZ P f none c (aoY P fn R) { tmps := args ++ Array.replicate (fn.ntmps - args.size) undef, defers := [] } w) : Calls P f args w fun e w' => ∃ v, e = .returned v /\ R v w' := by
 intro cs
 let b : Frame := { (default : Frame) with fn := f, kind := .normal, roundOf := none }
 have henter : Frame.enter P f args .normal = b.atR { tmps := args ++ Array.replicate (fn.ntmps - args.size) undef, defers := [] } [.code c] := by
  simp [Frame.enter, Frame.atR, hf, hb, b]
 obtain ⟨e, a', w', hq, har⟩ := h b [] cs rfl rfl
 rw [<- henter] at har
 cases e with
 | normal =>
   obtain ⟨m, hd, hq⟩ := hq
   obtain ⟨v, w2, fr, hR, hs, hfn, hl⟩ := agH (P := P) (cs := cs) (fr := { b.atR a' [] with mode := .returning }) rfl hf rfl hd hq
   exact ⟨.returned v, w2, fr, ⟨v, rfl, hR⟩, (StepsIn.steps har).trans (.head (stepR_end rfl) hs), hfn, hl⟩
 | ret =>
   obtain ⟨m, hd, hq⟩ := hq
   obtain ⟨todo, hs0⟩ := har.1 rfl
   obtain ⟨v, w2, fr, hR, hs, hfn, hl⟩ := agH (P := P) (cs := cs) (fr := { b.atR a' todo with mode := .returning }) rfl hf rfl hd hq
   exact ⟨.returned v, w2, fr, ⟨v, rfl, hR⟩, (StepsIn.steps hs0).trans hs, hfn, hl⟩
 | panic chain => exact hq.elim
 | exit id => exact hq.elim
 | goto l => exact hq.elim
 | outgrown => exact hq.elim
def awQ (P : Program) (f : FuncId) (Q : Exit -> Act -> aDs -> Prop) (a : Act) (w : aDs) : Option Code -> Prop
 | none => Q .normal a w
 | some c => ZZ P f none c Q a w
theorem aoI {gf : Operand} {ps : Array Tmp} {aA5 bd : Code} {d : Deferred} {g : FuncId} {args : Array aDt} {w1 : aDs} {l : Nat} {mark : List Deferred} {w2 w3 : aDs} {v : aDt}
 (he : (Instr.enterLoop f a.tmps ps aA5 bd none).run P w = .ok (l, mark) w1)
 (hres : (resolve a.eval (rangeCall gf l) 0).run P w1 = .ok d w1) (hinv : (invoke d.target d.args).run P w1 = .ok (.enter g args) w2)
 (hcall : Ret P g args w2 v w3)
 {jump : Option Code} {w4 : aDs} (hend : (Instr.endLoop l).run P w3 = .ok jump w4)
 (hj : awQ P f Q { a with defers := mark ++ a.defers } w4 jump) :
 ZZ P f none (.rangeFunc gf ps aA5 bd) Q a w := by
 intro b k cs hb hro
 rw [<- hb, <- hro] at he
 have henter := stepR_rangeFunc (P := P) (b := b) (a := a) (k := k) (cs := cs) (w := w) he hres hinv
 obtain ⟨e, w3', fr, ⟨rfl, rfl⟩, hsteps, hfn, hleave⟩ := hcall (b.atR { a with defers := mark ++ a.defers } (.inRangeFunc l :: k) :: cs)
 have sback : StepsIn (aaD P) P (lone (b.atR a (.code (.rangeFunc gf ps aA5 bd) :: k)) cs w) (lone (b.atR { a with defers := mark ++ a.defers } ((jump.map Item.code).toList ++ k)) cs w4) := by
  refine QQ henter (StepsIn.trans (stepsIn_wide.2 hsteps) (QQ (m1 := lone (b.atR { a with defers := mark ++ a.defers } (.endRangeFunc l :: k)) cs w3') ?_ (Lu (stepR_endRangeFunc hend))))
  rw [<- finish_atR_inRangeFunc l v]; exact step_leave_returned hleave
 cases jump with
 | none => exact ⟨.normal, _, w4, hj, sback⟩
 | some c =>
   obtain ⟨e', a'', w5, hq, harr⟩ := hj b k cs hb hro
   exact ⟨e', a'', w5, hq, .of_steps sback harr⟩
def aiR (P : Program) (l : Nat) (R : aDt -> aDs -> Prop) : Exit -> Act -> aDs -> Prop
 | .normal, _, w => ∃ v w', (Instr.endRound l none).run P w = .ok v w' /\ R v w'
 | .ret, _, w => ∃ v w', (Instr.endRound l (some .ret)).run P w = .ok v w' /\ R v w'
 | .exit id, _, w => ∃ v w', (Instr.endRound l (some (.exit id))).run P w = .ok v w' /\ R v w'
 | _, _, _ => False
theorem adW {l : Nat} {tmps : Array aDt} {aA5 bd : Code} {R : aDt -> aDs -> Prop}
 (h : ZZ P f (some l) aA5 (Exit.then (fun a1 w1 => ∃ w2, (Instr.beginRound l).run P w1 = .ok () w2 /\ ZZ P f (some l) bd (aiR P l R) a1 w2) (fun _ _ _ => False))
   { tmps := tmps, defers := [] } w) :
 RoundIn Fence.wide 0 P l f tmps aA5 bd w fun e w' => ∃ v, e = .returned v /\ R v w' := by
 refine ⟨trivial, fun c cs _ => ?_⟩
 let b : Frame := { (default : Frame) with fn := f, kind := .normal, roundOf := some l }
 have hb0 : Frame.round l f tmps aA5 bd .normal = b.atR { tmps := tmps, defers := [] } [.code aA5, .beginRound, .code bd] := by
  simp [Frame.round, Frame.atR, b]
 obtain ⟨e, a1, w1, hq, harr⟩ := h b [.beginRound, .code bd] (c :: cs) rfl rfl
 rw [<- hb0] at harr
 cases e with
 | normal =>
   obtain ⟨w2, hbr, hbody⟩ := hq
   have s1 := Lu (stepR_beginRound (P := P) (b := b) (a := a1) (k := [.code bd]) (cs := c :: cs) rfl hbr)
   obtain ⟨e2, a2, w3, hq2, harr2⟩ := hbody b [] (c :: cs) rfl rfl
   cases e2 with
   | normal =>
     obtain ⟨v, w4, hend, hR⟩ := hq2
     exact ⟨.returned v, w4, ⟨v, rfl, hR⟩, (StepsIn.trans harr s1).trans (StepsIn.trans harr2 (Lu (stepR_round_end rfl rfl hend)))⟩
   | ret =>
     obtain ⟨v, w4, hend, hR⟩ := hq2
     obtain ⟨k1, hs⟩ := harr2.2 rfl
     exact ⟨.returned v, w4, ⟨v, rfl, hR⟩, (StepsIn.trans harr s1).trans (StepsIn.trans hs (Lu (stepR_round_ret rfl rfl hend)))⟩
   | exit id =>
     obtain ⟨v, w4, hend, hR⟩ := hq2
     obtain ⟨k1, hk, hs⟩ := harr2.2 rfl rfl
     exact ⟨.returned v, w4, ⟨v, rfl, hR⟩, (StepsIn.trans harr s1).trans (StepsIn.trans hs (Lu (stepR_round_exit rfl rfl hk hend)))⟩
   | goto t => exact hq2.elim
   | panic chain => exact hq2.elim
   | outgrown => exact hq2.elim
 | exit id => exact hq.elim
 | goto t => exact hq.elim
 | ret => exact hq.elim
 | panic chain => exact hq.elim
 | outgrown => exact hq.elim
end
def adM (ops : Array Oper) : Nat -> Array Bool -> List Nat -> Prop
 | 0, _, L => L = []
 | _ + 1, listed, [] => Region.ready .any ops listed = []
 | n + 1, listed, i :: L => i ∈ Region.ready .any ops listed /\ adM ops n (listed.setIfInBounds i true) L
section
variable {P : Program} {ops : Array Oper} {Q : Act -> aDs -> Prop}
theorem auB : ∀ (fuel t : Nat) (listed : Array Bool), adM ops fuel listed (Region.linearise.go .any ops fuel t listed []) := by
 intro fuel
 induction fuel with
 | zero => intro t listed; simp [Region.linearise.go, adM]
 | succ fuel ih =>
   intro t listed
   simp only [Region.linearise.go]
   change adM ops (fuel + 1) listed (match (Region.ready .any ops listed)[t % (Region.ready .any ops listed).length]? with
    | some i => Region.linearise.go .any ops fuel (t / (Region.ready .any ops listed).length) (listed.setIfInBounds i true) [i]
    | none => [].reverse)
   cases hi : (Region.ready .any ops listed)[t % (Region.ready .any ops listed).length]? with
   | none =>
     have : Region.ready .any ops listed = [] := by
      cases hr : Region.ready .any ops listed with
      | nil => rfl
      | cons x xs =>
        rw [hr] at hi
        have hlt : t % (x :: xs).length < (x :: xs).length := Nat.mod_lt _ (by simp)
        rw [aBh hlt] at hi
        cases hi
     simpa [adM] using this
   | some i =>
     simp only []
     rw [linearise_go_acc]
     exact ⟨aCn hi, ih _ _⟩
theorem WL : ∀ (fuel : Nat) (listed : Array Bool) (L : List Nat) (a : Act) (w : aDs), ZN P ops Q fuel listed a w -> adM ops fuel listed L -> Hi P ops Q L a w := by
 intro fuel
 induction fuel with
 | zero => intro listed L a w h hL; obtain rfl : L = [] := hL; exact h.2
 | succ fuel ih =>
   intro listed L a w h hL
   cases L with
   | nil => exact h.1 hL
   | cons i L =>
     exact ajO (fun a w hh => ih _ _ a w hh hL.2) (h.2 i hL.1)
end
structure abJ (π : List Nat) (ops : Array Oper) : Prop where
 len : π.length = ops.size
 to : ∀ i, i < ops.size -> Cg π i < ops.size /\ π[Cg π i]? = some i
 back : ∀ k, k < ops.size -> ∃ i, π[k]? = some i /\ Cg π i = k /\ i < ops.size
 after : ∀ (i : Nat) (o : Oper), ops[i]? = some o -> ∀ e ∈ o.after, e.on < ops.size
 guard : ∀ (i : Nat) (o : Oper) (j : Nat) (b : Bool), ops[i]? = some o -> o.guard = some (j, b) -> j < ops.size
theorem avS {π : List Nat} {ops : Array Oper} (h : aiH π ops = true) : abJ π ops := by
 unfold aiH at h
 simp only [aBn] at h
 obtain ⟨⟨⟨h1, h2⟩, h3⟩, h4⟩ := h
 have h1 := aBF h1
 have at4 : ∀ (i : Nat) (o : Oper), ops[i]? = some o -> (o.after.all fun e => Nat.blt e.on ops.size) = true /\ (match o.guard with | some (j, _) => Nat.blt j ops.size | none => true) = true := by
  intro i o ho
  have hi : i < ops.size := by
   rcases aBt i ops.size with h | h
   .exact h
   .rw [aCa h] at ho; cases ho
  have := aBN.1 h4 i (aBY.2 hi)
  rw [ho] at this
  simp only [aBn] at this
  refine ⟨this.1, ?_⟩
  have h := this.2
  revert h
  cases o.guard <;> exact id
 refine ⟨h1, fun i hi => ?_, fun k hk => ?_, fun i o ho e he => ?_, fun i o j b ho hg => ?_⟩
 .have := aBN.1 h3 i (aBY.2 hi)
  cases hp : π[Cg π i]? with
  | none => rw [hp] at this; cases this
  | some j =>
    rw [hp] at this
    obtain rfl := aBF this
    refine ⟨?_, rfl⟩
    rcases aBt (Cg π j) π.length with h | h
    .omega
    .rw [aBs h] at hp; cases hp
 .have := aBN.1 h2 k (aBY.2 hk)
  cases hp : π[k]? with
  | none => rw [hp] at this; cases this
  | some i =>
    rw [hp] at this
    simp only [aBn] at this
    exact ⟨i, rfl, aBF this.1, (aCQ (x := i) (y := ops.size)) ▸ this.2⟩
 .have := aCd.1 (at4 i o ho).1 e he
  exact (aCQ (x := e.on) (y := ops.size)) ▸ this
 .have := (at4 i o ho).2
  rw [hg] at this
  exact (aCQ (x := j) (y := ops.size)) ▸ this
theorem abW {π : List Nat} {es : List (Nat × Nat)} {l : List Oper} : ∀ (r : List Nat), (∀ i ∈ r, i < l.length) -> (VR π es l r).length = r.length /\ ∀ k i : Nat, r[k]? = some i -> (VR π es l r)[k]? = (l[i]?).map (Nw π es i) := by
 intro r
 induction r with
 | nil => intro _; exact ⟨rfl, fun k i h => by simp at h⟩
 | cons j r ih =>
   intro h
   obtain ⟨h1, h2⟩ := ih fun i hi => h i (aBq _ hi)
   have hj : j < l.length := h j (by simp)
   simp only [VR, aBh hj]
   refine ⟨by simp [h1], fun k i hk => ?_⟩
   cases k with
   | zero => simp at hk; subst hk; simp [aBh hj]
   | succ k => simp at hk ⊢; exact h2 k i hk
section
variable {P : Program} {ops : Array Oper} {Q : Act -> aDs -> Prop} {π : List Nat} {es : List (Nat × Nat)}
theorem abJ.mem (p : abJ π ops) : ∀ i ∈ π, i < ops.toList.length := by
 intro i hi
 obtain ⟨k, hk, e⟩ := aB6 hi
 obtain ⟨j, h1, _, h2⟩ := p.back k (by rw [<- p.len]; exact hk)
 rw [aBh hk] at h1
 cases h1
 rw [<- e]; simpa using h2
theorem abJ.size (p : abJ π ops) : (uV π es ops).size = ops.size := by
 unfold uV
 rw [List.size_toArray, (abW (es := es) (π := π) π p.mem).1, p.len]
theorem abJ.get (p : abJ π ops) {i : Nat} (hi : i < ops.size) : (uV π es ops)[Cg π i]? = (ops[i]?).map (Nw π es i) := by
 unfold uV
 have := (abW (es := es) (π := π) π p.mem).2 (Cg π i) i (p.to i hi).2
 rw [aCX] at this
 simpa using this
theorem ajW {i : Nat} {o : Oper} {a : Act} {w : aDs} {K : Act -> aDs -> Prop} : aiZ P (Nw π es i o) a w K ↔ aiZ P o a w K := by
 unfold aiZ
 have h1 : execOp a.eval (Nw π es i o) = execOp a.eval o := by
  obtain ⟨d, op, ty, ps, af, g⟩ := o
  cases op <;> rfl
 have h2 : abN (Nw π es i o) = abN o := rfl
 rw [h1, h2]
 generalize (execOp a.eval o).run P w = r
 cases r with
 | ok n w => cases n <;> exact Iff.rfl
 | halt x w => exact Iff.rfl
theorem agT (p : abJ π ops) {i : Nat} {o : Oper} (ho : ops[i]? = some o) (tmps : Array aDt) :
 Region.wanted (Nw π es i o) (yielded (uV π es ops) tmps) = Region.wanted o (yielded ops tmps) := by
 unfold Region.wanted Nw
 simp only
 cases hg : o.guard with
 | none => rfl
 | some q =>
   obtain ⟨j, b⟩ := q
   simp only
   have hj := p.guard i o j b ho hg
   have : (uV π es ops)[Cg π j]?.bind (·.dst) = (ops[j]?).bind (·.dst) := by
    rw [p.get hj]
    cases ops[j]? <;> rfl
   unfold yielded
   rw [this]
theorem ajU (p : abJ π ops) : ∀ (L : List Nat), (∀ i ∈ L, i < ops.size) -> ∀ (a : Act) (w : aDs), Hi P (uV π es ops) Q (L.map (Cg π)) a w -> Hi P ops Q L a w := by
 intro L
 induction L with
 | nil => intro _ a w h; exact h
 | cons i L ih =>
   intro hL a w h
   rw [aBH] at h
   simp only [Hi] at h ⊢
   have hi := hL i (by simp)
   have ih := ih fun i hi => hL i (aBq _ hi)
   unfold Sf at h ⊢
   rw [p.get hi] at h
   rw [aBx hi] at h ⊢
   simp only [aBJ] at h
   rw [agT p (aBx hi)] at h
   simp only
   split
   .rename_i hw
    rw [if_pos hw, ajW] at h
    exact acJ (fun a w => ih a w) h
   .rename_i hw
    rw [if_neg hw] at h
    exact ih _ _ h
theorem TA {ops : Array Oper} {listed : Array Bool} (hsz : listed.size = ops.size) (i : Nat) :
 i ∈ Region.ready .any ops listed ↔ (i < ops.size /\ listed.getD i false = false /\ ∀ o, ops[i]? = some o -> ∀ e ∈ o.after, Region.binds .any e = true -> listed.getD e.on false = true) := by
 unfold Region.ready
 rw [aDo, aBY]
 constructor
 .rintro ⟨h1, h2⟩
  rw [aBx h1] at h2
  simp only [aBn, aBJ, aCD] at h2
  refine ⟨h1, ?_, fun o ho e he hb => ?_⟩
  .have := h2.1
   rw [aBm] at this ⊢
   rw [aBx (by omega)] at this ⊢
   simpa using this
  .rw [aBx h1] at ho
   cases ho
   have := aCd.1 h2.2 e he
   simpa [hb] using this
 .rintro ⟨h1, h2, h3⟩
  refine ⟨h1, ?_⟩
  rw [aBx h1]
  simp only [aBn, aBJ, aCD]
  refine ⟨?_, aCd.2 fun e he => ?_⟩
  .rw [aBm] at h2 ⊢
   rw [aBx (by omega)] at h2 ⊢
   simpa using h2
  .by_cases hb : Region.binds .any e = true
   .simp [hb, h3 _ (aBx h1) e he hb]
   .simp [hb]
theorem aqP {π : List Nat} {i : Nat} : ∀ {es : List (Nat × Nat)} {e : Edge}, e ∈ JU π i es -> ∃ a, (a, i) ∈ es /\ e.on = Cg π a := by
 intro es
 induction es with
 | nil => intro e h; simp [JU] at h
 | cons q r ih =>
   obtain ⟨a, b⟩ := q
   intro e h
   simp only [JU] at h
   cases hb : Nat.beq b i with
   | true =>
     rw [hb] at h
     obtain rfl := aBF hb
     rcases aB2.1 h with rfl | h
     .exact ⟨a, by simp, rfl⟩
     .obtain ⟨a, h1, h2⟩ := ih h; exact ⟨a, aBq _ h1, h2⟩
   | false => rw [hb] at h; obtain ⟨a, h1, h2⟩ := ih h; exact ⟨a, aBq _ h1, h2⟩
theorem amS (p : abJ π ops) {L0 : List Nat} (hes : ∀ q ∈ es, L0.idxOf q.1 <= L0.idxOf q.2 /\ q.1 ≠ q.2 /\ q.1 < ops.size) :
 ∀ (fuel : Nat) (listed listed' : Array Bool) (pre L : List Nat), L0 = pre ++ L -> listed.size = ops.size -> listed'.size = ops.size →
   (∀ j, j < ops.size -> listed'.getD (Cg π j) false = listed.getD j false) -> (∀ j ∈ pre, listed.getD j false = true) -> (∀ j, listed.getD j false = true -> j ∈ pre) →
   adM ops fuel listed L -> adM (uV π es ops) fuel listed' (L.map (Cg π)) /\ ∀ i ∈ L, i < ops.size := by
 intro fuel
 induction fuel with
 | zero => intro listed listed' pre L _ _ _ _ _ _ h; obtain rfl : L = [] := h; exact ⟨rfl, by simp⟩
 | succ fuel ih =>
   intro listed listed' pre L hL0 hs hs' hrel hpre hpre' h
   have hsz : (uV π es ops).size = ops.size := p.size
   cases L with
   | nil =>
     refine ⟨?_, by simp⟩
     show Region.ready .any (uV π es ops) listed' = []
     rw [List.eq_nil_iff_forall_not_mem]
     intro k hk
     obtain ⟨h1, h2, h3⟩ := (TA (by omega) k).1 hk
     obtain ⟨i, hi1, hi2, hi3⟩ := p.back k (by omega)
     have : i ∈ Region.ready .any ops listed := by
      refine (TA hs i).2 ⟨hi3, ?_, fun o ho e he hb => ?_⟩
      .rw [<- hrel i hi3, hi2]; exact h2
      .have g := p.get (es := es) hi3
       rw [hi2, ho] at g
       have hon := p.after i o ho e he
       have := h3 _ g ⟨Cg π e.on, e.ground⟩ (by
        simp only [Nw, List.mem_toArray, aCc, aB3]
        exact .inl ⟨e, by simpa using he, rfl⟩) (by unfold Region.binds at hb ⊢; exact hb)
       rw [<- hrel e.on hon]; exact this
     rw [show Region.ready .any ops listed = [] from h] at this
     cases this
   | cons i L =>
     obtain ⟨h1, h2⟩ := h
     obtain ⟨r1, r2, r3⟩ := (TA hs i).1 h1
     have hnot : i ∉ pre := fun hm => by rw [hpre i hm] at r2; cases r2
     have hidx : L0.idxOf i = pre.length := by
      rw [hL0, List.idxOf_append, if_neg hnot]; simp
     have ready' : Cg π i ∈ Region.ready .any (uV π es ops) listed' := by
      refine (TA (by omega) _).2 ⟨by rw [hsz]; exact (p.to i r1).1, by rw [hrel i r1]; exact r2, fun o' ho' e' he' hb => ?_⟩
      rw [p.get r1, aBx r1] at ho'
      simp only [aBJ, Option.some.injEq] at ho'
      subst ho'
      simp only [Nw, List.mem_toArray, aCc, aB3] at he'
      rcases he' with ⟨e, he, rfl⟩ | he'
      .have ho := aBx r1
       have he2 : e ∈ ops[i].after := by simpa using he
       rw [hrel e.on (p.after i _ ho e he2)]
       exact r3 _ ho e he2 (by unfold Region.binds at hb ⊢; exact hb)
      .obtain ⟨a, ha, hon⟩ := aqP he'
       obtain ⟨q1, q2, q3⟩ := hes _ ha
       simp only at q1 q2 q3
       rw [hon, hrel a q3]
       refine hpre a ?_
       rw [hidx] at q1
       rw [hL0, List.idxOf_append] at q1
       by_cases hm : a ∈ pre
       .exact hm
       .rw [if_neg hm] at q1
        exfalso
        have hz : (i :: L).idxOf a = 0 := by omega
        rw [List.idxOf_cons] at hz
        cases hb : (i == a) with
        | true => exact q2 (by simpa using (beq_iff_eq.1 hb).symm)
        | false => rw [hb] at hz; simp at hz
     have hlen' : listed'.size = ops.size := hs'
     obtain ⟨k1, k2⟩ := ih (listed.setIfInBounds i true) (listed'.setIfInBounds (Cg π i) true) (pre ++ [i]) L (by rw [hL0]; simp) (by simp [hs]) (by simp [hs'])
      (fun j hj => by
       by_cases hji : j = i
       .subst hji
        rw [aBm, aBm, aBG (by rw [hs']; exact (p.to j hj).1), aBG (by omega)]
       .have hne : Cg π i ≠ Cg π j := fun e => by
         have a1 := (p.to i r1).2
         have a2 := (p.to j hj).2
         rw [e] at a1
         rw [a1] at a2
         exact hji (aBO a2).symm
        have := hrel j hj
        rw [aBm, aBm] at this ⊢
        rw [aBP hne, aBP (fun e => hji e.symm)]
        exact this)
      (fun j hj => by
       rw [aBm]
       rcases aCc.1 hj with hj | hj
       .by_cases hji : j = i
        .subst hji; rw [aBG (by omega)] <;> rfl
        .rw [aBP (fun e => hji e.symm), <- aBm]; exact hpre j hj
       .have : j = i := by simpa using hj
        subst this
        rw [aBG (by omega)] <;> rfl)
      (fun j hj => by
       by_cases hji : j = i
       .subst hji; simp
       .rw [aBm, aBP (fun e => hji e.symm), <- aBm] at hj
        exact aCx _ (hpre' j hj))
      h2
     exact ⟨⟨ready', k1⟩, fun j hj => (aB2.1 hj).elim (fun e => e ▸ r1) (k2 j)⟩
end
section
variable {P : Program} {ops : Array Oper}
theorem Y5 {N : Nat} {an : Ann} {pl : aeY} (hok : aaF ops an = true) (hpl : ZR ops.size an pl = true) (hd : VC N ops) (hca : Wt P ops)
 {K : Env -> aDs -> Prop} {Q : Act -> aDs -> Prop} (hQ : ∀ g a w, Tx N g a -> K g w -> Q a w) {g : Env} {a : Act} {w : aDs} (hr : Tx N g a)
 (h : xL P ops ops.toList pl [] g w K) : ZN P ops Q ops.size (Array.replicate ops.size false) a w := by
 have r0 : Run P ops an g w 0 (fun _ => default) (fun _ => g) (fun _ => w) (fun _ => undef) :=
  ⟨rfl, rfl, fun i hi => by omega, fun i hi => by omega, fun i hi => by omega, fun i hi => by omega, fun i j _ hj => by omega⟩
 obtain ⟨O, G, W, V, r, hk⟩ := agQ hpl ops.toList 0 [] _ _ _ _ (fun j => by simp) (by simp) r0 (fun i hi => by omega) h
 simp only [aBc, aCC] at r hk
 have st := aoP hok r.op
 have := arQ (Q := Q) (n := ops.size) rfl hd hca r st (fun a hra => hQ _ a _ hra hk) ops.size (Array.replicate ops.size false) g a 0 (by simp) hr (by omega)
  (fun j hj hl => by unfold rU at hl; simp [aBm, hj] at hl)
  (fun s => .inr ⟨fun j hj hl => by unfold rU at hl; simp [aBm, hj] at hl, rfl⟩)
  (fun h hh _ => ⟨fun hl => by unfold rU at hl; simp [aBm, hh] at hl, fun hl => by omega⟩)
  (aB4 (List.length_filter_le _ _) (by simp))
 rw [r.w0] at this
 exact this
theorem X2 {N : Nat} {ops : Array Oper} (h : ops.all (alX N) = true) : VC N ops := by
 intro i o ho t ht
 have := aCd.1 h o (aDl ho)
 unfold alX at this
 rw [ht] at this
 exact (aCQ (x := t) (y := N)) ▸ this
theorem Z6 {ops : Array Oper} (h : ops.all (FL P) = true) : Wt P ops :=
 fun _ o ho => aCd.1 h o (aDl ho)
theorem akC {N : Nat} {f : FuncId} {id : Nat} (hd : VC N ops) (hca : Wt P ops)
 {K : Env -> aDs -> Prop} {Q : Act -> aDs -> Prop} (hQ : ∀ g a w, Tx N g a -> K g w -> Q a w) {g : Env} {a : Act} {w0 w : aDs} (hr : Tx N g a) :
 ∀ (T : HT) (path : List (Nat × Nat)), Vi P N ops path T = true →
   (∀ q ∈ path, (Region.schedule true ops (w0.tape w0.drawn (.order f id))).idxOf q.1 <= (Region.schedule true ops (w0.tape w0.drawn (.order f id))).idxOf q.2 /\ q.1 ≠ q.2) →
   agA P f id ops T g w0 w K -> Hi P ops Q (Region.schedule true ops (w0.tape w0.drawn (.order f id))) a w := by
 have lin : adM ops ops.size (Array.replicate ops.size false) (Region.schedule true ops (w0.tape w0.drawn (.order f id))) := by
  unfold Region.schedule
  simp only [Bool.true_or, if_true]
  exact auB _ _ _
 generalize hL : Region.schedule true ops (w0.tape w0.drawn (.order f id)) = L at lin ⊢
 intro T
 induction T with
 | leaf an pl =>
   intro path hok _ h
   simp only [Vi, aBn] at hok
   exact WL _ _ _ _ _ (Y5 hok.1 hok.2 hd hca hQ hr h) lin
 | perm π es an pl =>
   intro path hok hpath h
   simp only [Vi, aBn] at hok
   obtain ⟨⟨⟨⟨⟨h1, h2⟩, h3⟩, h4⟩, h5⟩, h6⟩ := hok
   have p := avS h2
   have hes : ∀ q ∈ es, L.idxOf q.1 <= L.idxOf q.2 /\ q.1 ≠ q.2 /\ q.1 < ops.size := fun q hq => by
    have := aBN.1 h1 q hq
    simp only [aBn] at this
    have hp := hpath q (atP this.1)
    exact ⟨hp.1, hp.2, (aCQ (x := q.1) (y := ops.size)) ▸ this.2⟩
   obtain ⟨k1, k2⟩ := amS (es := es) p hes ops.size (Array.replicate ops.size false) (Array.replicate ops.size false) [] L rfl (by simp) (by simp)
    (fun j hj => by simp [aBm, hj, (p.to j hj).1]) (by simp)
    (fun j hj => by rw [aBm] at hj; by_cases hh : j < ops.size <;> simp [hh] at hj) lin
   have hw := Y5 h5 h6 (X2 h3) (Z6 h4) hQ hr h
   rw [p.size] at hw
   exact ajU (es := es) p L k2 a w (WL _ _ _ _ _ hw k1)
 | split x y A B ihA ihB =>
   intro path hok hpath h
   simp only [Vi, aBn] at hok
   have hne : x ≠ y := by
    intro e
    have := hok.1.1
    rw [e] at this
    simp at this
   simp only [agA] at h
   unfold Ord avF at h
   rw [hL] at h
   cases hb : Nat.ble (L.idxOf x) (L.idxOf y) with
   | true =>
     rw [hb] at h
     refine ihA _ hok.1.2 (fun q hq => ?_) h
     rcases aB2.1 hq with rfl | hq
     .exact ⟨aCu hb, hne⟩
     .exact hpath q hq
   | false =>
     rw [hb] at h
     refine ihB _ hok.2 (fun q hq => ?_) h
     rcases aB2.1 hq with rfl | hq
     .refine ⟨?_, hne.symm⟩
      simp only
      rcases aBt (L.idxOf y) (L.idxOf x) with hh | hh
      .omega
      .have := Nat.ble_eq_true_of_le hh; rw [this] at hb; cases hb
     .exact hpath q hq
end
section
variable {P : Program} {ann : FA}
def uD : List Oper -> List Nat
 | [] => []
 | o :: r => match o.dst with | some d => d :: uD r | none => uD r
def Ui : Code -> List Nat
 | .region _ ops _ => uD ops.toList
 | .seq x y => Ui x ++ Ui y
 | .cond _ x y => Ui x ++ Ui y
 | .block _ c => Ui c
 | .scope c => Ui c
 | .loop c => Ui c
 | .rangeFunc .. => [DS]
 | _ => []
def rR (l : List Nat) (g g' : Env) : Prop := ∀ s, s ∉ l -> g' s = g s
theorem rR.refl (l : List Nat) (g : Env) : rR l g g := fun _ _ => rfl
theorem rR.trans {l l1 l2 : List Nat} {a b c : Env} (h : rR l1 a b) (k : rR l2 b c) (h1 : ∀ s, s ∈ l1 -> s ∈ l) (h2 : ∀ s, s ∈ l2 -> s ∈ l) : rR l a c :=
 fun s hs => (k s fun h => hs (h2 s h)).trans (h s fun h => hs (h1 s h))
theorem rR.mono {l l1 : List Nat} {a b : Env} (h : rR l1 a b) (h1 : ∀ s, s ∈ l1 -> s ∈ l) : rR l a b := fun s hs => h s fun hh => hs (h1 s hh)
theorem rR.put {l : List Nat} {a : Env} (d : Option Tmp) (v : aDt) (h : ∀ t, d = some t -> t ∈ l) : rR l a (put a d v) := by
 intro s hs
 cases d with
 | none => rfl
 | some t =>
   rw [OQ, if_neg (fun e => hs (by rw [e]; exact h t rfl))]
theorem aiB {ops : Array Oper} {K : Env -> aDs -> Prop} : ∀ (l : List Oper) (g : Env) (w : aDs), Z7 P ops l g w K →
 ∃ g' w', K g' w' /\ rR (uD l) g g' /\ ∀ K' : Env -> aDs -> Prop, K' g' w' -> Z7 P ops l g w K' := by
 intro l
 induction l with
 | nil => intro g w h; exact ⟨g, w, h, rR.refl _ _, fun _ h => h⟩
 | cons o l ih =>
   intro g w h
   obtain ⟨v, w1, hy, h1⟩ := Qw h
   obtain ⟨g', w', hk, ha, hall⟩ := ih _ _ h1
   refine ⟨g', w', hk, ?_, fun K' hk' => hy _ (hall K' hk')⟩
   refine rR.trans (rR.put o.dst v (l := uD (o :: l)) fun t ht => by simp [uD, ht]) ha (fun _ h => h) (fun s hs => ?_)
   unfold uD
   split
   .exact aBq _ hs
   .exact hs
theorem YM {ops : Array Oper} {K : Env -> aDs -> Prop} : ∀ (l : List Oper) (pl : aeY) (hist : List Rec) (g : Env) (w : aDs), xL P ops l pl hist g w K →
 ∃ g' w', K g' w' /\ rR (uD l) g g' /\ ∀ K' : Env -> aDs -> Prop, K' g' w' -> xL P ops l pl hist g w K' := by
 intro l
 induction l with
 | nil => intro pl hist g w h; unfold xL at h; exact ⟨g, w, h, rR.refl _ _, fun _ h => (by unfold xL; exact h)⟩
 | cons o l ih =>
   intro pl hist g w h
   cases pl with
   | nil => exact h.elim
   | cons p pl =>
     obtain ⟨hv, ks⟩ := p
     obtain ⟨v, w1, hy, h1⟩ := Qw h
     have tail : ∀ (w2 : aDs) (hist' : List Rec), xL P ops l pl hist' (put g o.dst v) w2 K →
         ∃ g' w', K g' w' /\ rR (uD (o :: l)) g g' /\ ∀ K' : Env -> aDs -> Prop, K' g' w' -> xL P ops l pl hist' (put g o.dst v) w2 K' := by
      intro w2 hist' c2
      obtain ⟨g', w', hk, ha, hall⟩ := ih _ _ _ _ c2
      refine ⟨g', w', hk, ?_, hall⟩
      refine rR.trans (rR.put o.dst v (l := uD (o :: l)) fun t ht => by simp [uD, ht]) ha (fun _ h => h) (fun s hs => ?_)
      unfold uD
      split
      .exact aBq _ hs
      .exact hs
     cases hv with
     | true =>
       cases ks with
       | nil =>
         obtain ⟨g', w', hk, ha, hall⟩ := tail w1 _ h1
         exact ⟨g', w', hk, ha, fun K' hk' => hy _ (hall K' hk')⟩
       | cons k ks =>
         obtain ⟨hc, h1⟩ := h1
         obtain ⟨g', w', hk, ha, hall⟩ := tail w1 _ h1
         exact ⟨g', w', hk, ha, fun K' hk' => hy _ ⟨hc, hall K' hk'⟩⟩
     | false =>
       cases ks with
       | nil =>
         obtain ⟨rfl, h1⟩ := h1
         obtain ⟨g', w', hk, ha, hall⟩ := tail w1 _ h1
         exact ⟨g', w', hk, ha, fun K' hk' => hy _ ⟨rfl, hall K' hk'⟩⟩
       | cons k ks =>
         obtain ⟨rfl, hc, h1⟩ := h1
         obtain ⟨g', w', hk, ha, hall⟩ := tail w1 _ h1
         exact ⟨g', w', hk, ha, fun K' hk' => hy _ ⟨rfl, hc, hall K' hk'⟩⟩
theorem MF {l : List Oper} {s : Nat} : s ∈ uD l ↔ ∃ o ∈ l, o.dst = some s := by
 induction l with
 | nil => simp [uD]
 | cons o l ih =>
   unfold uD
   cases hd : o.dst with
   | none => simp [ih, hd]
   | some d => simp [ih, hd, eq_comm]
theorem aiY {π : List Nat} {es : List (Nat × Nat)} {l : List Oper} {s : Nat} : ∀ (r : List Nat), s ∈ uD (VR π es l r) -> s ∈ uD l := by
 intro r
 induction r with
 | nil => intro h; simp [VR, uD] at h
 | cons i r ih =>
   intro h
   simp only [VR] at h
   cases ho : l[i]? with
   | none => rw [ho] at h; exact ih h
   | some o =>
     rw [ho] at h
     obtain ⟨o', h1, h2⟩ := MF.1 h
     rcases aB2.1 h1 with rfl | h1
     .exact MF.2 ⟨o, aCn ho, h2⟩
     .exact ih (MF.2 ⟨o', h1, h2⟩)
theorem aqV {f : FuncId} {id : Nat} {ops : Array Oper} {K : Env -> aDs -> Prop} {g : Env} {w0 : aDs} : ∀ (T : HT) (w : aDs), agA P f id ops T g w0 w K →
 ∃ g' w', K g' w' /\ rR (uD ops.toList) g g' /\ ∀ K' : Env -> aDs -> Prop, K' g' w' -> agA P f id ops T g w0 w K' := by
 intro T
 induction T with
 | leaf an pl => intro w h; exact YM _ _ _ _ _ h
 | perm π es an pl =>
   intro w h
   obtain ⟨g', w', a, b, c⟩ := YM _ _ _ _ _ h
   exact ⟨g', w', a, b.mono (fun s hs => aiY π (by simpa [uV] using hs)), c⟩
 | split x y A B ihA ihB =>
   intro w h
   simp only [agA, Ord] at h ⊢
   cases hb : avF f id ops x y w0 with
   | true => rw [hb] at h; exact ihA w h
   | false => rw [hb] at h; exact ihB w h
theorem kO.head {α : Type} {F : (α -> aDs -> Prop) -> α -> aDs -> Prop} (hmono : ∀ X Y g w, (∀ g w, X g w -> Y g w) -> F X g w -> F Y g w)
 {g : α} {w : aDs} (h : F (fun g' w' => kO F g' w') g w) (hdet : ∃ g' w', kO F g' w' /\ ∀ X : α -> aDs -> Prop, X g' w' -> F X g w) : kO F g w := by
 obtain ⟨g1, w1, ⟨I, ⟨n1, h1⟩, hI⟩, hF⟩ := hdet
 refine ⟨fun n g' w' => I n g' w' ∨ (n = n1 + 1 /\ g' = g /\ w' = w), ⟨n1 + 1, .inr ⟨rfl, rfl, rfl⟩⟩, ?_⟩
 rintro n g' w' (h | ⟨rfl, rfl, rfl⟩)
 .exact hmono _ _ _ _ (fun _ _ ⟨m, hm, hh⟩ => ⟨m, hm, .inl hh⟩) (hI _ _ _ h)
 .exact hF _ ⟨n1, by omega, .inl h1⟩
theorem axJ {f : FuncId} {gf : Operand} {ps : Array Tmp} {aA5 bd : Code} {Q : Exit -> Env -> aDs -> Prop} {g : Env} {w : aDs} (h : RF P f gf ps aA5 bd Q g w) :
 ∃ e g' w', Q e g' w' /\ rR [DS] g g' /\ ∀ Q' : Exit -> Env -> aDs -> Prop, Q' e g' w' -> RF P f gf ps aA5 bd Q' g w := by
 unfold RF at h ⊢
 cases hn : noMark (g DS) with
 | false => rw [hn] at h; exact h.elim
 | true =>
   rw [hn] at h
   simp only at h ⊢
   generalize (ES (ev g gf) [KX (w.heap.size + 1)]).run P (rfW f (X8 P f) ps aA5 bd g w) = r at *
   match r, h with
   | .ok (.enter f2 args) w1, h =>
     obtain ⟨v, w3, hret, r, h1, h2, h3⟩ := h
     have ha : rR [DS] g (put g (some DS) (.pointer (some ⟨w.heap.size, 0, none⟩))) := rR.put _ _ (fun t ht => by cases ht; simp)
     cases hp : r.pending with
     | none =>
       rw [hp] at h3
       exact ⟨.normal, _, _, h3, ha, fun Q' h => ⟨v, w3, hret, r, h1, h2, by rw [hp]; exact h⟩⟩
     | some c =>
       rw [hp] at h3
       cases c <;> first
        | exact h3.elim
        | exact ⟨.ret, _, _, h3, ha, fun Q' h => ⟨v, w3, hret, r, h1, h2, by rw [hp]; exact h⟩⟩
        | exact ⟨.exit _, _, _, h3, ha, fun Q' h => ⟨v, w3, hret, r, h1, h2, by rw [hp]; exact h⟩⟩
theorem Zp : ∀ (c : Code) (Q : Exit -> Env -> aDs -> Prop) (g : Env) (w : aDs), jO P ann c Q g w →
 ∃ e g' w', Q e g' w' /\ rR (Ui c) g g' /\ ∀ Q' : Exit -> Env -> aDs -> Prop, Q' e g' w' -> jO P ann c Q' g w := by
 intro c
 induction c with
 | skip => intro Q g w h; exact ⟨_, _, _, h, rR.refl _ _, fun _ h => h⟩
 | region id ops draw =>
   intro Q g w h
   cases draw with
   | false =>
     obtain ⟨g', w', a, b, c⟩ := aiB _ _ _ h
     exact ⟨.normal, g', w', a, b, fun Q' h => c _ h⟩
   | true =>
     obtain ⟨g', w', a, b, c⟩ := aqV _ _ h
     exact ⟨.normal, g', w', a, b, fun Q' h => c _ h⟩
 | seq x y ihx ihy =>
   intro Q g w h
   obtain ⟨e, g1, w1, a, b, c⟩ := ihx _ _ _ h
   cases e with
   | normal =>
     obtain ⟨e2, g2, w2, a2, b2, c2⟩ := ihy _ _ _ a
     exact ⟨e2, g2, w2, a2, b.trans b2 (fun s h => aCx _ h) (fun s h => aCW _ h), fun Q' h => c _ (c2 _ h)⟩
   | _ => exact ⟨_, g1, w1, a, b.mono (fun s h => aCx _ h), fun Q' h => c _ h⟩
 | cond c x y ihx ihy =>
   intro Q g w h
   simp only [jO] at h ⊢
   unfold mK at h ⊢
   cases hc : ev g c with
   | bool b =>
     rw [hc] at h
     cases b with
     | true =>
       obtain ⟨e, g', w', a, b, c⟩ := ihx _ _ _ h
       exact ⟨e, g', w', a, b.mono (fun s h => aCx _ h), c⟩
     | false =>
       obtain ⟨e, g', w', a, b, c⟩ := ihy _ _ _ h
       exact ⟨e, g', w', a, b.mono (fun s h => aCW _ h), c⟩
   | _ => rw [hc] at h; exact h.elim
 | block id c ih =>
   intro Q g w h
   obtain ⟨e, g', w', a, b, c⟩ := ih _ _ _ h
   cases e with
   | exit i =>
     simp only [blk] at a
     cases hb : Nat.beq i id with
     | true =>
       simp only [hb] at a
       refine ⟨.normal, g', w', a, b, fun Q' h => c _ ?_⟩
       simp only [blk, hb]; exact h
     | false =>
       simp only [hb] at a
       refine ⟨.exit i, g', w', a, b, fun Q' h => c _ ?_⟩
       simp only [blk, hb]; exact h
   | _ => exact ⟨_, g', w', a, b, fun Q' h => c _ h⟩
 | loop c ih =>
   intro Q g w h
   have hmono : ∀ (Q : Exit -> Env -> aDs -> Prop) (X Y : Env -> aDs -> Prop) g w, (∀ g w, X g w -> Y g w) -> jO P ann c (EZ X Q) g w -> jO P ann c (EZ Y Q) g w := by
    intro Q X Y g w hxy h
    obtain ⟨e, g', w', a, _, k⟩ := ih _ _ _ h
    refine k _ ?_
    cases e with
    | normal => exact hxy _ _ a
    | _ => exact a
   obtain ⟨I, ⟨n, h0⟩, hI⟩ := h
   have key : ∀ n g w, I n g w -> ∃ e g' w', Q e g' w' /\ rR (Ui c) g g' /\ ∀ Q' : Exit -> Env -> aDs -> Prop, Q' e g' w' -> kO (fun X g w => jO P ann c (EZ X Q') g w) g w := by
    intro n
    induction n using Nat.strongRecOn with
    | _ n ih2 =>
      intro g w hg
      obtain ⟨e, g1, w1, a, b, k⟩ := ih _ _ _ (hI n g w hg)
      have once : ∀ (Q' : Exit -> Env -> aDs -> Prop), (∀ X : Env -> aDs -> Prop, jO P ann c (EZ X Q') g w) -> kO (fun X g w => jO P ann c (EZ X Q') g w) g w := by
       intro Q' h
       refine ⟨fun n g' w' => g' = g /\ w' = w, ⟨0, rfl, rfl⟩, ?_⟩
       rintro _ g' w' ⟨rfl, rfl⟩
       exact h _
      cases e with
      | normal =>
        obtain ⟨m, hm, hIm⟩ := a
        obtain ⟨e2, g2, w2, a2, b2, k2⟩ := ih2 m hm g1 w1 hIm
        refine ⟨e2, g2, w2, a2, b.trans b2 (fun _ h => h) (fun _ h => h), fun Q' h => ?_⟩
        have hl := k2 Q' h
        exact kO.head (hmono Q') (k _ hl) ⟨g1, w1, hl, fun X hx => k _ hx⟩
      | _ => exact ⟨_, g1, w1, a, b, fun Q' h => once Q' fun X => k _ h⟩
   exact key n g w h0
 | exit id => intro Q g w h; exact ⟨_, _, _, h, rR.refl _ _, fun _ h => h⟩
 | label l => intro Q g w h; exact ⟨_, _, _, h, rR.refl _ _, fun _ h => h⟩
 | scope c ih => intro Q g w h; exact ih Q g w h
 | ret => intro Q g w h; exact ⟨_, _, _, h, rR.refl _ _, fun _ h => h⟩
 | rangeFunc gf ps aA5 bd => intro Q g w h; exact axJ h
 | _ => intro Q g w h; exact h.elim
theorem IU {c : Code} {Q Q' : Exit -> Env -> aDs -> Prop} {g : Env} {w : aDs} (h : jO P ann c Q g w)
 (hq : ∀ e g' w', rR (Ui c) g g' -> Q e g' w' -> Q' e g' w') : jO P ann c Q' g w :=
 let ⟨_, _, _, a, b, k⟩ := Zp c Q g w h
 k _ (hq _ _ _ b a)
def noG (Q : Exit -> Env -> aDs -> Prop) : Exit -> Env -> aDs -> Prop
 | .goto _, _, _ => False
 | e, g, w => Q e g w
theorem ajN : ∀ (c : Code) (Q : Exit -> Env -> aDs -> Prop) (g : Env) (w : aDs), jO P ann c Q g w -> jO P ann c (noG Q) g w := by
 intro c
 induction c with
 | skip => intro Q g w h; exact h
 | region id ops draw => intro Q g w h; cases draw <;> exact h
 | seq x y ihx ihy =>
   intro Q g w h
   show jO P ann x (EZ (fun g w => jO P ann y (noG Q) g w) (noG Q)) g w
   refine IU (ihx _ _ _ h) (fun e g' w' _ hq => ?_)
   cases e with
   | normal => exact ihy _ _ _ hq
   | goto l => exact hq.elim
   | _ => exact hq
 | cond c x y ihx ihy =>
   intro Q g w h
   simp only [jO] at h ⊢
   unfold mK at h ⊢
   cases hc : ev g c with
   | bool b =>
     rw [hc] at h
     cases b with
     | true => exact ihx _ _ _ h
     | false => exact ihy _ _ _ h
   | _ => rw [hc] at h; exact h.elim
 | block id c ih =>
   intro Q g w h
   show jO P ann c (blk id (noG Q)) g w
   refine IU (ih _ _ _ h) (fun e g' w' _ hq => ?_)
   cases e with
   | exit i =>
     simp only [noG, blk] at hq ⊢
     cases hb : Nat.beq i id with
     | true => rw [hb] at hq; exact hq
     | false => rw [hb] at hq; exact hq
   | goto l => exact hq.elim
   | _ => exact hq
 | loop c ih =>
   intro Q g w h
   obtain ⟨I, h0, hI⟩ := h
   refine ⟨I, h0, fun n g w hi => ?_⟩
   refine IU (ih _ _ _ (hI n g w hi)) (fun e g' w' _ hq => ?_)
   cases e with
   | normal => exact hq
   | goto l => exact hq.elim
   | _ => exact hq
 | exit id => intro Q g w h; exact h
 | label l => intro Q g w h; exact h
 | scope c ih => intro Q g w h; exact ih Q g w h
 | ret => intro Q g w h; exact h
 | rangeFunc gf ps aA5 bd =>
   intro Q g w h
   have h : RF P ann.f gf ps aA5 bd Q g w := h
   show RF P ann.f gf ps aA5 bd (noG Q) g w
   unfold RF at h ⊢
   cases hn : noMark (g DS) with
   | false => rw [hn] at h; exact h.elim
   | true =>
     rw [hn] at h
     simp only at h ⊢
     generalize (ES (ev g gf) [KX (w.heap.size + 1)]).run P (rfW ann.f (X8 P ann.f) ps aA5 bd g w) = r at *
     match r, h with
     | .ok (.enter f2 args) w1, h =>
       obtain ⟨v, w3, hret, r, h1, h2, h3⟩ := h
       refine ⟨v, w3, hret, r, h1, h2, ?_⟩
       cases hp : r.pending with
       | none => rw [hp] at h3; exact h3
       | some c => rw [hp] at h3; cases c <;> exact h3
 | _ => intro Q g w h; exact h.elim
theorem Z0 {N : Nat} {g : Env} {a : Act} (h : Tx N g a) : a.tmps = tmpsOf N g := by
 refine Array.ext (by simp [tmpsOf, h.size]) fun i h1 h2 => ?_
 have hi : i < N := by rw [<- h.size]; exact h1
 have := h.at_ i (Nat.ne_of_lt (aCE hi h.le))
 rw [aBm, aBx h1] at this
 simp [tmpsOf] at this ⊢
 exact this
theorem asY {v : aDt} (h : noMark v = true) : agF v = [] := by cases v <;> first | rfl | cases h
theorem XL {N : Nat} (hm : P.follows .mixedOrders = true) {ro : Option Nat} (hN : X8 P ann.f = N) : ∀ (c : Code), codeOk P N ann c = true -> ro = none ∨ yH c = true →
 ∀ (Q : Exit -> Env -> aDs -> Prop) (QA : Exit -> Act -> aDs -> Prop) (g : Env) (a : Act) (w : aDs), Tx N g a →
   (∀ e g a w, Tx N g a -> Q e g w -> QA e a w) -> jO P ann c Q g w -> ZZ P ann.f ro c QA a w := by
 intro c
 induction c with
 | skip => intro _ _ Q QA g a w hr hq h; exact atB (hq _ _ _ _ hr h)
 | region id ops draw =>
   intro hok _ Q QA g a w hr hq h
   simp only [codeOk, aBn, aCk, aCp] at hok
   have hd := X2 hok.1.1
   have hca := Z6 hok.1.2
   cases draw with
   | false =>
     refine aiP ?_
     have := amX hd hca (P := P) (Q := QA .normal) (K := Q .normal) (fun g a w => hq .normal g a w) ops.toList 0 g a w (fun j => by simp) hr h
     rw [List.range_eq_range']
     simpa using this
   | true =>
     rcases hok.2 with h1 | h1
     .cases h1
     .exact Zi hm (akC hd hca (fun g a w => hq .normal g a w) hr _ [] h1 (by simp) h)
 | seq x y ihx ihy =>
   intro hok hfl Q QA g a w hr hq h
   simp only [codeOk, aBn] at hok
   have hfx : ro = none ∨ yH x = true := hfl.imp id fun h => by simp only [yH, aBn] at h; exact h.1
   have hfy : ro = none ∨ yH y = true := hfl.imp id fun h => by simp only [yH, aBn] at h; exact h.2
   refine avN (ihx hok.1 hfx _ _ g a w hr (fun e g a w hr h => ?_) h)
   cases e with
   | normal => exact ihy hok.2 hfy _ _ g a w hr hq h
   | _ => exact hq _ _ _ _ hr h
 | cond c x y ihx ihy =>
   intro hok hfl Q QA g a w hr hq h
   simp only [codeOk, aBn] at hok
   have hfx : ro = none ∨ yH x = true := hfl.imp id fun h => by simp only [yH, aBn] at h; exact h.1
   have hfy : ro = none ∨ yH y = true := hfl.imp id fun h => by simp only [yH, aBn] at h; exact h.2
   simp only [jO] at h
   unfold mK at h
   have he := hr.ev c hok.1
   cases hc : ev g c with
   | bool b =>
     rw [hc] at h he
     refine asM he ?_
     cases b with
     | true => exact ihx hok.2.1 hfx _ _ g a w hr hq h
     | false => exact ihy hok.2.2 hfy _ _ g a w hr hq h
   | _ => rw [hc] at h; exact h.elim
 | block id c ih =>
   intro hok hfl Q QA g a w hr hq h
   refine amT (ih hok hfl _ _ g a w hr (fun e g a w hr h => ?_) h)
   cases e with
   | exit i =>
     unfold Exit.inBlock
     simp only [blk] at h
     by_cases hi : i = id
     .subst hi
      simp only [if_true]
      simp only [Nat.beq_refl] at h
      exact hq _ _ _ _ hr h
     .simp only [hi, if_false]
      have : Nat.beq i id = false := by
       cases hb : Nat.beq i id
       .rfl
       .exact absurd (aBF hb) hi
      simp only [this] at h
      exact hq _ _ _ _ hr h
   | _ => exact hq _ _ _ _ hr h
 | loop c ih =>
   intro hok hfl Q QA g a w hr hq h
   obtain ⟨I, h0, hround⟩ := h
   have hex : ∀ a w, (∃ n g, Tx N g a /\ I n g w) -> ∃ n, (∃ g, Tx N g a /\ I n g w) /\ ∀ m, (∃ g, Tx N g a /\ I m g w) -> n <= m := by
    rintro a w ⟨n, hn⟩
    induction n using Nat.strongRecOn with
    | _ n ih2 =>
      by_cases hx : ∃ m, m < n /\ ∃ g, Tx N g a /\ I m g w
      .obtain ⟨m, hm, h⟩ := hx; exact ih2 m hm h
      .exact ⟨n, hn, fun m hm => Nat.le_of_not_lt fun hlt => hx ⟨m, hlt, hm⟩⟩
   have hdec : ∀ a w, Decidable (∃ n g, Tx N g a /\ I n g w) := fun a w => Classical.propDecidable _
   let μ : Act -> aDs -> Nat := fun a w => if hh : ∃ n g, Tx N g a /\ I n g w then Classical.choose (hex a w hh) else 0
   have hμ : ∀ a w n g, Tx N g a -> I n g w -> μ a w <= n /\ ∃ g, Tx N g a /\ I (μ a w) g w := by
    intro a w n g hr hI
    have hh : ∃ n g, Tx N g a /\ I n g w := ⟨n, g, hr, hI⟩
    have e : μ a w = Classical.choose (hex a w hh) := dif_pos hh
    have s := Classical.choose_spec (hex a w hh)
    rw [e]
    exact ⟨s.2 n ⟨g, hr, hI⟩, s.1⟩
   obtain ⟨n0, h0⟩ := h0
   refine arN (fun a w => ∃ n g, Tx N g a /\ I n g w) μ ⟨n0, g, hr, h0⟩ ?_
   rintro a w ⟨n, g, hr, hI⟩
   obtain ⟨_, g', hr', hI'⟩ := hμ a w n g hr hI
   refine ih hok hfl _ _ g' a w hr' (fun e g1 a1 w1 hr1 h => ?_) (hround _ _ _ hI')
   cases e with
   | normal =>
     obtain ⟨m, hm, hIm⟩ := h
     have := hμ a1 w1 m g1 hr1 hIm
     exact ⟨⟨m, g1, hr1, hIm⟩, by omega⟩
   | _ => exact hq _ _ _ _ hr1 h
 | label l => intro _ _ Q QA g a w hr hq h; exact anE (hq _ _ _ _ hr h)
 | scope c ih =>
   intro hok hfl Q QA g a w hr hq h
   refine anV (ih hok hfl (noG Q) _ g a w hr (fun e g a w hr h => ?_) (ajN c _ g w h))
   cases e with
   | goto l => exact h.elim
   | _ => exact hq _ _ _ _ hr h
 | exit id => intro _ _ Q QA g a w hr hq h; exact ahG (hq _ _ _ _ hr h)
 | ret => intro _ _ Q QA g a w hr hq h; exact akM (hq _ _ _ _ hr h)
 | rangeFunc gf ps aA5 bd =>
   intro hok hfl Q QA g a w hr hq h
   have hro : ro = none := hfl.resolve_right (by simp [yH])
   subst hro
   have hok : abX gf = true := hok
   have h : RF P ann.f gf ps aA5 bd Q g w := h
   unfold RF at h
   cases hn : noMark (g DS) with
   | false => rw [hn] at h; exact h.elim
   | true =>
     rw [hn] at h
     simp only [hN] at h
     have ed : a.defers = [] := by rw [hr.defers, asY hn]
     have er := run_enterLoop_outer (P := P) (w := w) ann.f a.tmps ps aA5 bd
     rw [Z0 hr] at er
     have er : (Instr.enterLoop ann.f a.tmps ps aA5 bd none).run P w = .ok (w.heap.size + 1, [{ target := .collected w.heap.size, args := #[] }]) (rfW ann.f N ps aA5 bd g w) := by rw [Z0 hr]; exact er
     generalize rfW ann.f N ps aA5 bd g w = w1 at *
     have ee := hr.ev gf hok
     unfold ES at h
     have hres : resolve a.eval (rangeCall gf (w.heap.size + 1)) 0 = Deferred.ofValue (ev g gf) #[KX (w.heap.size + 1)] := by
      have : resolve a.eval (rangeCall gf (w.heap.size + 1)) 0 = Deferred.ofValue (a.eval gf) #[KX (w.heap.size + 1)] := by
       simp only [resolve, List.map_toArray, aBH, aDp]; rfl
      rw [this, ee]
     rw [show ([KX (w.heap.size + 1)] : List aDt).toArray = #[KX (w.heap.size + 1)] from rfl, <- hres, Sem.run_bind] at h
     cases hv : (resolve a.eval (rangeCall gf (w.heap.size + 1)) 0).run P w1 with
     | halt x wx => rw [hv] at h; exact h.elim
     | ok d wx =>
       have hwx : wx = w1 := by
        rw [hres] at hv
        unfold Deferred.ofValue at hv
        split at hv <;> first | (simp only [Sem.run_pure] at hv; cases hv; rfl) | (simp [stuck] at hv)
       subst hwx
       rw [hv] at h
       simp only [Result.andThen] at h
       cases hi : (invoke d.target d.args).run P wx with
       | halt x w2 => rw [hi] at h; exact h.elim
       | ok nx w2 =>
         rw [hi] at h
         cases nx <;> try (exact h.elim)
         obtain ⟨v, w3, hret, r, h1, h2, h3⟩ := h
         have hrel : ∀ w, Tx N (put g (some DS) (.pointer (some ⟨w, 0, none⟩))) { a with defers := [{ target := .collected w, args := #[] }] ++ a.defers } := fun w => by
          refine ⟨hr.le, ?_, hr.size, fun i hi => ?_⟩
          .rw [OQ, if_pos rfl, ed] <;> rfl
          .rw [OQ, if_neg hi]; exact hr.at_ i hi
         have key : ∀ (j : Option Code) (w5 : aDs), axP Q (put g (some DS) (.pointer (some ⟨w.heap.size, 0, none⟩))) j w5 →
             awQ P ann.f QA { a with defers := [{ target := .collected w.heap.size, args := #[] }] ++ a.defers } w5 j := by
          intro j w5 h
          cases j with
          | none => exact hq _ _ _ _ (hrel _) h
          | some c =>
            cases c <;> first
             | exact h.elim
             | exact akM (hq _ _ _ _ (hrel _) h)
             | exact ahG (hq _ _ _ _ (hrel _) h)
         exact aoI er hv hi hret (run_endLoop h1 h2) (key _ _ h3)
 | _ => intro hok; simp [codeOk] at hok
def vV (P : Program) : List ResultVar -> Env -> aDs -> (List aDt -> Prop) -> Prop
 | [], _, _, K => K []
 | .tmp t :: r, g, w, K => vV P r g w fun vs => K (g t :: vs)
 | .cell a t :: r, g, w, K => ∃ v, (do loadVar t (<- asAddr (g a)) : Sem aDt).run P w = .ok v w /\ vV P r g w fun vs => K (v :: vs)
def tup : List aDt -> aDt
 | [v] => v
 | vs => .tuple vs.toArray
def azT (P : Program) (rs : List ResultVar) (R : aDt -> aDs -> Prop) : Exit -> Env -> aDs -> Prop
 | .normal, g, w => vV P rs g w fun vs => R (tup vs) w
 | .ret, g, w => vV P rs g w fun vs => R (tup vs) w
 | _, _, _ => False
theorem afP {N : Nat} {g : Env} {a : Act} {w : aDs} (hr : Tx N g a) : ∀ (rs : List ResultVar), rs.all acM = true -> ∀ (K : List aDt -> Prop), vV P rs g w K →
 ∃ vs, K vs /\ (rs.mapM fun | .tmp t => pure (a.tmps.getD t undef) | .cell b t => do loadVar t (<- asAddr (a.tmps.getD b undef)) : Sem (List aDt)).run P w = .ok vs w := by
 have ne : ∀ t : Nat, Nat.blt t DS = true -> a.tmps.getD t undef = g t := fun t h => hr.at_ t (Nat.ne_of_lt ((aCQ (x := t) (y := DS)) ▸ h))
 intro rs
 induction rs with
 | nil => intro _ K h; exact ⟨[], h, by simp⟩
 | cons r rs ih =>
   intro hok K h
   simp only [List.all_cons, aBn] at hok
   cases r with
   | tmp t =>
     obtain ⟨vs, h1, h2⟩ := ih hok.2 _ h
     refine ⟨_, h1, ?_⟩
     rw [List.mapM_cons]
     rw [pure_bind, Sem.run_bind]
     simp only [h2, Result.andThen, Sem.run_pure, ne t hok.1]
   | cell b t =>
     obtain ⟨v, hv, h⟩ := h
     obtain ⟨vs, h1, h2⟩ := ih hok.2 _ h
     refine ⟨_, h1, ?_⟩
     rw [List.mapM_cons]
     rw [<- ne b hok.1] at hv
     rw [Sem.run_bind]
     simp only [hv, Result.andThen]
     rw [Sem.run_bind]
     simp only [h2, Result.andThen]
     rfl
theorem axK (vs : Array aDt) : (if h : vs.size = 1 then vs[0] else Value.tuple vs) = tup vs.toList := by
 obtain ⟨l⟩ := vs
 match l with
 | [] => rfl
 | [v] => rfl
 | a :: b :: r => simp [tup]
theorem afX {N : Nat} {g : Env} {a : Act} {w : aDs} (fn : Func) {rs : List ResultVar} (hok : rs.all acM = true) (hrs : fn.results = rs.toArray) (hr : Tx N g a) {R : aDt -> aDs -> Prop}
 (h : vV P rs g w fun vs => R (tup vs) w) : ∃ v, (results fn a.tmps).run P w = .ok v w /\ R v w := by
 obtain ⟨vs, h1, h2⟩ := afP hr rs hok _ h
 refine ⟨tup vs, ?_, h1⟩
 unfold results
 rw [hrs, Array.mapM_eq_mapM_toList, List.toList_toArray]
 simp only [bind_assoc, map_eq_pure_bind]
 rw [Sem.run_bind]
 refine Eq.trans (congrArg (fun r => Result.andThen r _) h2) ?_
 simp only [Result.andThen]
 simp only [pure_bind, Sem.run_pure, axK]
def YY (args : List aDt) : Env := fun i => args.getD i undef
def ayP (P : Program) (rs : List ResultVar) (R : aDt -> aDs -> Prop) : Exit -> Env -> aDs -> Prop
 | .normal, g, w => GR (g DS) w fun w => vV P rs g w fun vs => R (tup vs) w
 | .ret, g, w => GR (g DS) w fun w => vV P rs g w fun vs => R (tup vs) w
 | _, _, _ => False
theorem agS {g : Env} {w : aDs} : ∀ (rs : List ResultVar) (K : List aDt -> Prop), vV P rs g w K -> ∃ vs, K vs /\ ∀ K' : List aDt -> Prop, K' vs -> vV P rs g w K' := by
 intro rs
 induction rs with
 | nil => intro K h; exact ⟨_, h, fun _ h => h⟩
 | cons r rs ih =>
   intro K h
   cases r with
   | tmp t =>
     obtain ⟨vs, a, b⟩ := ih _ h
     exact ⟨_, a, fun K' h => b _ h⟩
   | cell b t =>
     obtain ⟨v, hv, h⟩ := h
     obtain ⟨vs, a, b⟩ := ih _ h
     exact ⟨_, a, fun K' h => ⟨v, hv, b _ h⟩⟩
theorem acX {v : aDt} {w : aDs} {K : aDs -> Prop} (h : GR v w K) : ∃ w', K w' /\ ∀ K' : aDs -> Prop, K' w' -> GR v w K' := by
 cases v with
 | pointer p =>
   cases p with
   | none => exact ⟨_, h, fun _ h => h⟩
   | some a => exact ⟨_, h.2, fun _ h' => ⟨h.1, h'⟩⟩
 | _ => exact ⟨_, h, fun _ h => h⟩
theorem akF {v : aDt} {w : aDs} {K K' : aDs -> Prop} (h : GR v w K) (hk : ∀ w, K w -> K' w) : GR v w K' :=
 let ⟨w', a, b⟩ := acX h; b _ (hk w' a)
theorem afR {args : List aDt} {N i : Nat} (hle : args.length <= N) (hi : N <= i) : YY args i = undef := by
 unfold YY
 rw [aBi, aBs (by omega)] <;> rfl
theorem Xl {f : FuncId} {fn : Func} {c : Code} {args : List aDt} {w : aDs} {rs : List ResultVar} {R : aDt -> aDs -> Prop} (hm : P.follows .mixedOrders = true) (hAf : ann.f = f)
 (hf : P.funcs[f]? = some fn) (hb : fn.body = some c) (hrs : fn.results = rs.toArray) {N : Nat} (hN : fn.ntmps = N) (hle : args.length <= N)
 (hok : codeOk P N ann c = true) (hro : rs.all acM = true) (hND : Nat.ble N DS = true) (h : jO P ann c (ayP P rs R) (YY args) w) : jE P f args.toArray w R := by
 obtain ⟨e, g', w', hq, _, hall⟩ := Zp _ _ _ _ h
 have hND := aCu hND
 have hNt : X8 P ann.f = N := by unfold X8; rw [hAf, hf]; exact hN
 have hrv : GR (g' DS) w' fun w => vV P rs g' w fun vs => R (tup vs) w := by cases e <;> first | exact hq | exact hq.elim
 obtain ⟨w2, hrv2, hsh⟩ := acX hrv
 obtain ⟨vs, hv, hrest⟩ := agS _ _ hrv2
 refine ⟨tup vs, w2, ?_, hv⟩
 have hrel : Tx N (YY args) { tmps := args.toArray ++ Array.replicate (fn.ntmps - args.toArray.size) undef, defers := [] } := by
  refine ⟨hND, by rw [afR hle hND] <;> rfl, by simp [hN]; omega, fun i _ => ?_⟩
  simp only [YY, aBm, aBi]
  by_cases hi : i < args.length
  .simp [Array.getElem?_append, hi]
  .simp only [Array.getElem?_append, List.size_toArray, hi, if_false, Array.getElem?_replicate]
   rw [aBs (by omega)]
   split <;> rfl
 have key := adH (P := P) (f := f) hf hb (R := fun v3 w3 => v3 = tup vs /\ w3 = w2) (args := args.toArray) (w := w)
  (hAf ▸ XL hm hNt c hok (.inl rfl) (ayP P rs fun v3 w3 => v3 = tup vs /\ w3 = w2) _ _ _ _ hrel (fun e g a w hr h => ?_) (hall _ ?_))
 .refine Calls.mono key ?_
  rintro e w3 ⟨v, rfl, rfl, rfl⟩
  exact ⟨rfl, rfl⟩
 .have hx : ∀ {w}, (GR (g DS) w fun w => vV P rs g w fun vs' => tup vs' = tup vs /\ w = w2) -> ∃ m, a.defers = agF m /\ GR m w fun w' => ∃ v, (results fn a.tmps).run P w' = .ok v w' /\ (v = tup vs /\ w' = w2) := by
   intro w h
   exact ⟨_, hr.defers, akF h fun w h => afX fn hro hrs hr (R := fun v3 w3 => v3 = tup vs /\ w3 = w2) h⟩
  cases e with
  | normal => exact hx h
  | ret => exact hx h
  | _ => exact h.elim
 .have := hsh (fun w => vV P rs g' w fun vs' => tup vs' = tup vs /\ w = w2) (hrest _ ⟨rfl, rfl⟩)
  cases e <;> first | exact this | exact hq.elim
theorem avH {N : Nat} : ∀ (c : Code), codeOk P N ann c = true -> yH c = true -> ∀ s ∈ Ui c, s < N := by
 intro c
 induction c with
 | region id ops draw =>
   intro hok _ s hs
   simp only [codeOk, aBn] at hok
   obtain ⟨o, h1, h2⟩ := MF.1 hs
   obtain ⟨i, hi, rfl⟩ := aB6 h1
   exact X2 hok.1.1 i _ (by simp at hi ⊢) s h2
 | seq x y ihx ihy =>
   intro hok hfl s hs
   simp only [codeOk, yH, aBn] at hok hfl
   rcases aCc.1 hs with hs | hs
   .exact ihx hok.1 hfl.1 s hs
   .exact ihy hok.2 hfl.2 s hs
 | cond c x y ihx ihy =>
   intro hok hfl s hs
   simp only [codeOk, yH, aBn] at hok hfl
   rcases aCc.1 hs with hs | hs
   .exact ihx hok.2.1 hfl.1 s hs
   .exact ihy hok.2.2 hfl.2 s hs
 | block id c ih => intro hok hfl s hs; exact ih hok hfl s hs
 | loop c ih => intro hok hfl s hs; exact ih hok hfl s hs
 | scope c ih => intro hok hfl s hs; exact ih hok hfl s hs
 | rangeFunc => intro _ hfl; simp [yH] at hfl
 | _ => intro _ _ s hs; simp [Ui] at hs
theorem ahJ {f : FuncId} {fn : Func} {c : Code} {args : List aDt} {w : aDs} {rs : List ResultVar} {R : aDt -> aDs -> Prop} (hm : P.follows .mixedOrders = true) (hAf : ann.f = f)
 (hf : P.funcs[f]? = some fn) (hb : fn.body = some c) (hrs : fn.results = rs.toArray) {N : Nat} (hN : fn.ntmps = N) (hle : args.length <= N)
 (hok : codeOk P N ann c = true) (hro : rs.all acM = true) (hND : Nat.ble N DS = true) (hfl : yH c = true) (h : jO P ann c (azT P rs R) (YY args) w) : jE P f args.toArray w R := by
 refine Xl hm hAf hf hb hrs hN hle hok hro hND (IU h fun e g' w' ha hq => ?_)
 have hND := aCu hND
 have : g' DS = undef := by
  rw [ha DS (fun hd => absurd (avH c hok hfl DS hd) (Nat.not_lt.2 hND)), afR hle hND]
 cases e with
 | normal => show GR (g' DS) w' (fun w => vV P rs g' w fun vs => R (tup vs) w); rw [this]; exact hq
 | ret => show GR (g' DS) w' (fun w => vV P rs g' w fun vs => R (tup vs) w); rw [this]; exact hq
 | _ => exact hq.elim
def Ro (tmps : Array aDt) : Env := fun i => tmps.getD i undef
def aeO (l : Nat) (R : aDt -> aDs -> Prop) : Exit -> Env -> aDs -> Prop
 | .normal, _, w => ∃ r : Loop, w.heap[l]? = some (.loop r) /\ R (.bool true) (w.putObj l (.loop { r with state := .ready, pending := none }))
 | .ret, _, w => ∃ r : Loop, w.heap[l]? = some (.loop r) /\ R (.bool false) (w.putObj l (.loop { r with state := .done, pending := some .ret }))
 | .exit i, _, w => ∃ r : Loop, w.heap[l]? = some (.loop r) /\ R (.bool false) (w.putObj l (.loop { r with state := .done, pending := some (.exit i) }))
 | _, _, _ => False
def asQ (P : Program) (ann : FA) (l : Nat) (bd : Code) (R : aDt -> aDs -> Prop) : Exit -> Env -> aDs -> Prop
 | .normal, g, w => ∃ r : Loop, w.heap[l]? = some (.loop r) /\ r.state = .ready /\ jO P ann bd (aeO l R) g (w.putObj l (.loop { r with state := .busy }))
 | _, _, _ => False
theorem adX {f : FuncId} {l : Nat} {tmps : Array aDt} {aA5 bd : Code} {w : aDs} {R : aDt -> aDs -> Prop} (hm : P.follows .mixedOrders = true) (hAf : ann.f = f) {N : Nat} (hN : X8 P f = N) (hND : Nat.ble N DS = true)
 (hsz : tmps.size = N) (hok1 : codeOk P N ann aA5 = true) (hf1 : yH aA5 = true) (hok2 : codeOk P N ann bd = true) (hf2 : yH bd = true)
 (h : jO P ann aA5 (asQ P ann l bd R) (Ro tmps) w) : adB P l f tmps aA5 bd w R := by
 subst hAf
 have hND := aCu hND
 obtain ⟨e, g1, w1, hq, ha, hall⟩ := Zp _ _ _ _ h
 cases e with
 | normal =>
   obtain ⟨r, h1, h2, hd⟩ := hq
   obtain ⟨e2, g2, w2, hq2, ha2, hall2⟩ := Zp _ _ _ _ hd
   have hx : ∃ v w4, R v w4 /\ ∀ R' : aDt -> aDs -> Prop, R' v w4 -> aeO l R' e2 g2 w2 := by
    cases e2 with
    | normal => obtain ⟨r2, k1, k2⟩ := hq2; exact ⟨_, _, k2, fun R' h => ⟨r2, k1, h⟩⟩
    | ret => obtain ⟨r2, k1, k2⟩ := hq2; exact ⟨_, _, k2, fun R' h => ⟨r2, k1, h⟩⟩
    | exit i => obtain ⟨r2, k1, k2⟩ := hq2; exact ⟨_, _, k2, fun R' h => ⟨r2, k1, h⟩⟩
    | _ => exact hq2.elim
   obtain ⟨v, w4, hR, hrest⟩ := hx
   refine ⟨v, w4, ?_, hR⟩
   have hrel : Tx N (Ro tmps) { tmps := tmps, defers := [] } := by
    refine ⟨hND, ?_, hsz, fun i _ => rfl⟩
    have : Ro tmps DS = undef := by unfold Ro; rw [aBm, aCa (by omega)] <;> rfl
    rw [this] <;> rfl
   have key : RoundIn Fence.wide 0 P l ann.f tmps aA5 bd w fun e w' => ∃ v', e = .returned v' /\ (v' = v /\ w' = w4) := by
    refine adW (XL hm hN aA5 hok1 (.inr hf1) (fun e g w => e = .normal /\ g = g1 /\ w = w1) _ _ _ _ hrel ?_ (hall _ ⟨rfl, rfl, rfl⟩))
    rintro e g a w hra ⟨rfl, rfl, rfl⟩
    refine ⟨_, run_beginRound h1 h2, XL hm hN bd hok2 (.inr hf2) (aeO l fun v' w' => v' = v /\ w' = w4) _ _ _ _ hra ?_ (hall2 _ (hrest _ ⟨rfl, rfl⟩))⟩
    intro e g a w _ h
    cases e with
    | normal => obtain ⟨r, k1, k2⟩ := h; exact ⟨_, _, run_endRound none k1, k2⟩
    | ret => obtain ⟨r, k1, k2⟩ := h; exact ⟨_, _, run_endRound (some .ret) k1, k2⟩
    | exit i => obtain ⟨r, k1, k2⟩ := h; exact ⟨_, _, run_endRound (some (.exit i)) k1, k2⟩
    | _ => exact h.elim
   refine RoundIn.mono key ?_
   rintro e w' ⟨v', rfl, rfl, rfl⟩
   exact ⟨rfl, rfl⟩
 | _ => exact hq.elim
theorem abF {f : FuncId} {args : Array aDt} {w : aDs} {R : aDt -> aDs -> Prop} (h : jE P f args w R) :
 Calls P f args w fun e w' => ∃ v, e = .returned v /\ R v w' := by
 obtain ⟨v, w', hr, hR⟩ := h
 refine Calls.mono hr ?_
 rintro e w'' ⟨rfl, rfl⟩
 exact ⟨v, rfl, hR⟩
end
def sA : Code -> Code | .seq a _ => a | c => c
def cT : Code -> Code | .cond _ a _ => a | c => c
def cE : Code -> Code | .cond _ _ b => b | c => c
def bI : Code -> Code | .block _ c => c | .loop c => c | .scope c => c | c => c
def kA (f : Func) : Code := match f.body with | some c => c | none => .skip
def hU : Nat -> Code -> Code
 | 0, c => c
 | 1, c => sA c
 | n + 1, .seq a b => .seq a (hU n b)
 | _, c => c
def gH : Nat -> Code -> Code
 | 0, c => c
 | n + 1, .seq _ b => gH n b
 | _, c => c
def akA : Nat -> Code -> Bool
 | 1, .seq _ _ => true
 | n + 1, .seq _ b => akA n b
 | _, _ => false
def dr (w : aDs) : aDs := { w with drawn := w.drawn + 1 }
def MO (P : Program) (t : TypeId) (a : aDt) (w : aDs) (K : aDt -> Prop) : Prop := ∃ v, (do loadVar t (<- asAddr a) : Sem aDt).run P w = .ok v w /\ K v
def exL : List (Nat × (Env -> aDs -> Prop)) -> Nat -> Env -> aDs -> Prop
 | [], _, _, _ => False
 | (j, k) :: r, i, g, w => match Nat.beq i j with | true => k g w | false => exL r i g w
def exQ (kn kr : Env -> aDs -> Prop) (l : List (Nat × (Env -> aDs -> Prop))) : Exit -> Env -> aDs -> Prop
 | .normal, g, w => kn g w
 | .ret, g, w => kr g w
 | .exit i, g, w => exL l i g w
 | _, _, _ => False
def alN (Q : Exit -> Env -> aDs -> Prop) : List (Nat × (Env -> aDs -> Prop)) -> Prop
 | [] => True
 | (i, k) :: r => (∀ g w, k g w -> Q (.exit i) g w) /\ alN Q r
def nD (c a b : aDt) : Sem Next := do pure (.value (if <- asBool c then a else b))
def oM (t : TypeId) : Sem Next := V (Instr.alloc t true (.tuple #[]))
def Ru (t : TypeId) (x : aDt) : Sem Next := V (Instr.box t x)
def jF (t : TypeId) (a : aDt) : Sem Next := V (Instr.loadAt t a)
def jQ (t : TypeId) (a x : aDt) : Sem Next := U (Instr.storeAt t a x)
def nO (x : aDt) : Sem Next := execOp (fun _ => x) ⟨none, .nilCheck (.tmp 0), 0, default, #[], none⟩
def sUn (op : UnOp) (x : aDt) : Sem Next := V (Op.unary op x)
def nI (s d : TypeId) (x : aDt) : Sem Next := V (convert s d x)
def auK (t : TypeId) (x : aDt) : Sem Next := V (Instr.arrayAt t x)
def VL (t : TypeId) (x : aDt) : Sem Next := V (Instr.makeInterface t x)
def XK (t : TypeId) (r : Option aDt) : Sem Next := V (Instr.makeMap t r)
def sS (t : TypeId) (l c : aDt) : Sem Next := V (Instr.makeSlice t l c)
def lP (t : TypeId) (x : aDt) (lo hi mx : Option aDt) : Sem Next := V (Instr.sliceAt t x lo hi mx)
def jH (t : TypeId) (x : aDt) (f : Nat) : Sem Next := V (Instr.fieldAt t x f)
def jS (t : TypeId) (x i : aDt) : Sem Next := V (Instr.indexAt t x i)
def Ry (t : TypeId) (x i : aDt) : Sem Next := V (Instr.index t x i)
def aeT (t : TypeId) (x i : aDt) (ok : Bool) : Sem Next := V (Instr.lookup t x i ok)
def ZB (t : TypeId) (m k x : aDt) : Sem Next := U (Instr.mapUpdate t m k x)
def jZ (t : aDt) (i : Nat) : Sem Next := V (Instr.extract t i)
section
variable {P : Program} {ann : FA}
theorem ayJ {Q : Exit -> Env -> aDs -> Prop} : ∀ {l : List (Nat × (Env -> aDs -> Prop))}, alN Q l -> ∀ {i : Nat} {g : Env} {w : aDs}, exL l i g w -> Q (.exit i) g w := by
 intro l
 induction l with
 | nil => intro _ i g w h; exact h.elim
 | cons p r ih =>
   obtain ⟨j, k⟩ := p
   rintro ⟨h1, h2⟩ i g w h
   simp only [exL] at h
   cases hb : Nat.beq i j with
   | true =>
     simp only [hb] at h
     obtain rfl := aBF hb
     exact h1 _ _ h
   | false => simp only [hb] at h; exact ih h2 h
theorem avR {c : Code} {kn kr : Env -> aDs -> Prop} {l : List (Nat × (Env -> aDs -> Prop))} {Q : Exit -> Env -> aDs -> Prop} {g : Env} {w : aDs} {A : Prop}
 (e : A = jO P ann c (exQ kn kr l) g w) (h : A) (hn : ∀ g w, kn g w -> Q .normal g w) (hr : ∀ g w, kr g w -> Q .ret g w) (hl : alN Q l) : jO P ann c Q g w := by
 rw [e] at h
 refine IU h (fun e g' w' _ hq => ?_)
 cases e with
 | normal => exact hn _ _ hq
 | ret => exact hr _ _ hq
 | exit i => exact ayJ hl hq
 | _ => exact hq.elim
theorem amI {x y z : Code} {Q : Exit -> Env -> aDs -> Prop} {g : Env} {w : aDs} (h : jO P ann (.seq (.seq x y) z) Q g w) : jO P ann (.seq x (.seq y z)) Q g w := by
 show jO P ann x (EZ (fun g w => jO P ann y (EZ (fun g w => jO P ann z Q g w) Q) g w) Q) g w
 have h : jO P ann x (EZ (fun g w => jO P ann y (EZ (fun g w => jO P ann z Q g w) Q) g w) (EZ (fun g w => jO P ann z Q g w) Q)) g w := h
 refine IU h (fun e g' w' _ hq => ?_)
 cases e <;> exact hq
theorem iZ {K : Env -> aDs -> Prop} {Q : Exit -> Env -> aDs -> Prop} {g : Env} {w : aDs} (h : K g w) : EZ K Q .normal g w := h
theorem amG {Q : Exit -> Env -> aDs -> Prop} : ∀ (n : Nat) (c : Code) (g : Env) (w : aDs), akA n c = true -> jO P ann (.seq (hU n c) (gH n c)) Q g w -> jO P ann c Q g w := by
 intro n
 induction n with
 | zero => intro c g w h; simp [akA] at h
 | succ n ih =>
   intro c g w h hd
   cases c with
   | seq a b =>
     cases n with
     | zero => exact hd
     | succ n =>
       have hb : akA (n + 1) b = true := by simpa [akA] using h
       have hd' : jO P ann (.seq (.seq a (hU (n + 1) b)) (gH (n + 1) b)) Q g w := hd
       have := amI hd'
       show jO P ann a (EZ (fun g w => jO P ann b Q g w) Q) g w
       have h2 : jO P ann a (EZ (fun g w => jO P ann (.seq (hU (n + 1) b) (gH (n + 1) b)) Q g w) Q) g w := this
       refine IU h2 (fun e g' w' _ hq => ?_)
       cases e with
       | normal => exact ih b g' w' hb hq
       | _ => exact hq
   | _ => cases n <;> simp [akA] at h
def awF (id : Nat) : Code -> Bool | .block i _ => Nat.beq i id | _ => false
def apI : Code -> Bool | .loop _ => true | _ => false
def aqS : Code -> Option Operand | .cond o _ _ => some o | _ => none
theorem auG {Q : Exit -> Env -> aDs -> Prop} (id : Nat) (c : Code) (g : Env) (w : aDs) (h : awF id c = true) (hd : jO P ann (bI c) (blk id Q) g w) : jO P ann c Q g w := by
 cases c with
 | block i c =>
   obtain rfl := aBF (show Nat.beq i id = true from h)
   exact hd
 | _ => cases h
def awR : Code -> Bool | .scope _ => true | _ => false
theorem avK {Q : Exit -> Env -> aDs -> Prop} (c : Code) (g : Env) (w : aDs) (h : awR c = true) (hd : jO P ann (bI c) Q g w) : jO P ann c Q g w := by
 cases c with
 | scope c => exact hd
 | _ => cases h
theorem atY {Q : Exit -> Env -> aDs -> Prop} (o : Operand) (c : Code) (g : Env) (w : aDs) (h : aqS c = some o)
 (hd : mK (ev g o) (jO P ann (cT c) Q g w) (jO P ann (cE c) Q g w)) : jO P ann c Q g w := by
 cases c with
 | cond o' a b => obtain rfl := aBO h; exact hd
 | _ => cases h
theorem arR {v : aDt} {A B A' B' : Prop} (ha : A -> A') (hb : B -> B') (h : mK v A B) : mK v A' B' := by
 unfold mK at *
 cases v with
 | bool b => cases b <;> first | exact ha h | exact hb h
 | _ => exact h
theorem atL {T : Type} (proj : Env -> T) (F : (T -> aDs -> Prop) -> T -> aDs -> Prop) {c : Code} {Q : Exit -> Env -> aDs -> Prop} {g : Env} {w : aDs}
 (hF : ∀ (X : T -> aDs -> Prop) g' w', rR (Ui c) g g' -> F X (proj g') w' -> jO P ann c (EZ (fun g'' w'' => X (proj g'') w'') Q) g' w')
 (h : kO F (proj g) w) : jO P ann (.loop c) Q g w := by
 obtain ⟨I, ⟨n, h0⟩, hI⟩ := h
 refine ⟨fun n g' w' => rR (Ui c) g g' /\ I n (proj g') w', ⟨n, rR.refl _ _, h0⟩, ?_⟩
 rintro n g' w' ⟨ha, hi⟩
 have := hF _ g' w' ha (hI n _ _ hi)
 refine IU this (fun e g2 w2 ha2 hq => ?_)
 cases e with
 | normal =>
   obtain ⟨m, hm, hh⟩ := hq
   exact ⟨m, hm, ha.trans ha2 (fun _ h => h) (fun _ h => h), hh⟩
 | _ => exact hq
theorem amH {T : Type} (proj : Env -> T) (F : (T -> aDs -> Prop) -> T -> aDs -> Prop) (c : Code) {Q : Exit -> Env -> aDs -> Prop} {g : Env} {w : aDs} (hl : apI c = true)
 (h : kO F (proj g) w)
 (hF : ∀ (X : T -> aDs -> Prop) g' w', rR (Ui (bI c)) g g' -> F X (proj g') w' -> jO P ann (bI c) (EZ (fun g'' w'' => X (proj g'') w'') Q) g' w') : jO P ann c Q g w := by
 cases c with
 | loop c => exact atL proj F hF h
 | _ => cases hl
theorem akH {l : List Nat} {s : Nat} (hs : vH s l = false) : s ∉ l := by
 induction l with
 | nil => simp
 | cons a r ih =>
   unfold vH at hs
   cases hb : Nat.beq a s with
   | true => simp only [hb] at hs; cases hs
   | false =>
     simp only [hb] at hs
     intro hm
     rcases aB2.1 hm with e | hm
     .subst e; simp at hb
     .exact ih hs hm
theorem asK {l : List Nat} {g g' : Env} (h : rR l g g') {s : Nat} (hs : vH s l = false) : g' s = g s := h s (akH hs)
def UZ (id : Nat) : Code -> Array Oper
 | .region i ops _ => match Nat.beq i id with | true => ops | false => #[]
 | .seq a b => match (UZ id a).size with | 0 => UZ id b | _ + 1 => UZ id a
 | .cond _ a b => match (UZ id a).size with | 0 => UZ id b | _ + 1 => UZ id a
 | .block _ c => UZ id c
 | .loop c => UZ id c
 | .scope c => UZ id c
 | _ => #[]
theorem apV {b : Bool} {A B : Prop} (ha : A) (hb : B) : Ord b A B := by cases b <;> assumption
theorem kO.rule {α : Type} {F : (α -> aDs -> Prop) -> α -> aDs -> Prop} (I : Nat -> α -> aDs -> Prop) {g : α} {w : aDs} (n : Nat) (h0 : I n g w)
 (hr : ∀ n g w, I n g w -> F (fun g' w' => ∃ m, m < n /\ I m g' w') g w) : kO F g w := ⟨I, ⟨n, h0⟩, hr⟩
theorem gB (A B : Prop) : mK (.bool true) A B = A := Eq.trans rfl rfl
theorem fV (A B : Prop) : mK (.bool false) A B = B := Eq.trans rfl rfl
theorem gO (s : (aDt -> aDs -> Prop) -> Prop) (w : aDs) (K : aDt -> aDs -> Prop) : Gd true s w K = s K := Eq.trans rfl rfl
theorem gJ (s : (aDt -> aDs -> Prop) -> Prop) (w : aDs) (K : aDt -> aDs -> Prop) : Gd false s w K = K undef w := Eq.trans rfl rfl
theorem gP (p : Prop) : Gs true p = p := Eq.trans rfl rfl
theorem gN (p : Prop) : Gs false p = True := Eq.trans rfl rfl
theorem gV : kR (.bool true) true = true := Eq.trans rfl rfl
theorem gU : kR (.bool true) false = false := Eq.trans rfl rfl
theorem gW : kR (.bool false) true = false := Eq.trans rfl rfl
theorem gT : kR (.bool false) false = true := Eq.trans rfl rfl
def jC : Operand := .tmp 0
theorem lB {c : Code} {kn kr : Env -> aDs -> Prop} {l : List (Nat × (Env -> aDs -> Prop))} {Q : Exit -> Env -> aDs -> Prop} {g : Env} {w : aDs} {A : Prop}
 (h : A) (hn : ∀ g w, kn g w -> Q .normal g w) (hr : ∀ g w, kr g w -> Q .ret g w) (hl : alN Q l) (e : A = jO P ann c (exQ kn kr l) g w := by kernel_rfl) : jO P ann c Q g w := avR e h hn hr hl
theorem nP {Q : Exit -> Env -> aDs -> Prop} (n : Nat) {c : Code} {g : Env} {w : aDs}
 (hd : jO P ann (hU n c) (EZ (fun g w => jO P ann (gH n c) Q g w) Q) g w) (h : akA n c = true := by kernel_rfl) : jO P ann c Q g w := amG n c g w h hd
theorem Iu {Q : Exit -> Env -> aDs -> Prop} (id : Nat) {c : Code} {g : Env} {w : aDs} (hd : jO P ann (bI c) (blk id Q) g w) (h : awF id c = true := by kernel_rfl) : jO P ann c Q g w := auG id c g w h hd
theorem scD {Q : Exit -> Env -> aDs -> Prop} {c : Code} {g : Env} {w : aDs} (hd : jO P ann (bI c) Q g w) (h : awR c = true := by kernel_rfl) : jO P ann c Q g w := avK c g w h hd
theorem cdD {Q : Exit -> Env -> aDs -> Prop} (o : Operand) {c : Code} {g : Env} {w : aDs} {A B : Prop} (ha : A -> jO P ann (cT c) Q g w) (hb : B -> jO P ann (cE c) Q g w) (hd : mK (ev g o) A B) (h : aqS c = some o := by kernel_rfl) : jO P ann c Q g w :=
 atY o c g w h (arR ha hb hd)
theorem Od {T : Type} (proj : Env -> T) (F : (T -> aDs -> Prop) -> T -> aDs -> Prop) {c : Code} {Q : Exit -> Env -> aDs -> Prop} {g : Env} {w : aDs}
 (h : kO F (proj g) w)
 (hF : ∀ (X : T -> aDs -> Prop) g' w', rR (Ui (bI c)) g g' -> F X (proj g') w' -> jO P ann (bI c) (EZ (fun g'' w'' => X (proj g'') w'') Q) g' w') (hl : apI c = true := by kernel_rfl) : jO P ann c Q g w := amH proj F c hl h hF
theorem rG {l : List Nat} {g g' : Env} (s : Nat) (h : rR l g g') (hs : vH s l = false := by kernel_rfl) : g' s = g s := asK h hs
theorem yX {ann : FA} (fn : Func) (c : Code) (args : List aDt) (rs : List ResultVar) (N : Nat) {f : FuncId} {w : aDs} {R : aDt -> aDs -> Prop} (hm : P.follows .mixedOrders = true)
 (hf : P.funcs[f]? = some fn) (h : jO P ann c (azT P rs R) (YY args) w) (hAf : ann.f = f := by kernel_rfl) (hb : fn.body = some c := by kernel_rfl) (hrs : fn.results = rs.toArray := by kernel_rfl) (hN : fn.ntmps = N := by kernel_rfl) (hle : Nat.ble args.length N = true := by kernel_rfl)
 (hok : codeOk P N ann c = true := by kernel_rfl) (hro : rs.all acM = true := by kernel_rfl) (hND : Nat.ble N DS = true := by kernel_rfl) (hfl : yH c = true := by kernel_rfl) : jE P f args.toArray w R :=
 ahJ hm hAf hf hb hrs hN (aCu hle) hok hro hND hfl h
def abB : Code -> Option (Operand × Array Tmp × Code × Code)
 | .rangeFunc g ps aA5 bd => some (g, ps, aA5, bd)
 | .seq a b => (match abB a with | some r => some r | none => abB b)
 | .cond _ a b => (match abB a with | some r => some r | none => abB b)
 | .block _ c => abB c
 | .loop c => abB c
 | .scope c => abB c
 | _ => none
def asZ (c : Code) : Array Tmp := match abB c with | some (_, ps, _) => ps | none => #[]
def amB (c : Code) : Code := match abB c with | some (_, _, aA5, _) => aA5 | none => .skip
def aiQ (c : Code) : Code := match abB c with | some (_, _, _, bd) => bd | none => .skip
def Rdy (l : Nat) (w : aDs) (K : aDs -> Prop) : Prop := ∃ r : Loop, w.heap[l]? = some (.loop r) /\ r.state = .ready /\ K (w.putObj l (.loop { r with state := .busy }))
def jSt : Option Code -> LoopState
 | none => .ready
 | some _ => .done
def afT (l : Nat) (j : Option Code) (R : aDt -> aDs -> Prop) (w : aDs) : Prop :=
 ∃ r : Loop, w.heap[l]? = some (.loop r) /\ R (.bool j.isNone) (w.putObj l (.loop { r with state := jSt j, pending := j }))
def awS : List ResultVar := []
theorem dsF {ann : FA} (fn : Func) (c : Code) (args : List aDt) (rs : List ResultVar) (N : Nat) {f : FuncId} {w : aDs} {R : aDt -> aDs -> Prop} (hm : P.follows .mixedOrders = true)
 (hf : P.funcs[f]? = some fn) (h : jO P ann c (ayP P rs R) (YY args) w) (hAf : ann.f = f := by kernel_rfl) (hb : fn.body = some c := by kernel_rfl) (hrs : fn.results = rs.toArray := by kernel_rfl) (hN : fn.ntmps = N := by kernel_rfl) (hle : Nat.ble args.length N = true := by kernel_rfl)
 (hok : codeOk P N ann c = true := by kernel_rfl) (hro : rs.all acM = true := by kernel_rfl) (hND : Nat.ble N DS = true := by kernel_rfl) : jE P f args.toArray w R :=
 Xl hm hAf hf hb hrs hN (aCu hle) hok hro hND h
theorem dsR {ann : FA} (N : Nat) {f : FuncId} {l : Nat} {tmps : Array aDt} {aA5 bd : Code} {w : aDs} {R : aDt -> aDs -> Prop} (hm : P.follows .mixedOrders = true) (hsz : tmps.size = N)
 (h : jO P ann aA5 (asQ P ann l bd R) (Ro tmps) w) (hN : X8 P f = N) (hok1 : codeOk P N ann aA5 = true) (hok2 : codeOk P N ann bd = true) (hAf : ann.f = f := by kernel_rfl) (hND : Nat.ble N DS = true := by kernel_rfl)
 (hf1 : yH aA5 = true := by kernel_rfl) (hf2 : yH bd = true := by kernel_rfl) : adB P l f tmps aA5 bd w R :=
 adX hm hAf hN hND hsz hok1 hf1 hok2 hf2 h
end
end Go.En
namespace Go.Proofs.YtoecppploooloaaGreatDoor
open Go Go.En
noncomputable abbrev pg : Program := Tryz.prog
theorem TryzM.mixed : pg.follows .mixedOrders = true := Tryz.checked.mixed
abbrev K0 := aDs -> Prop
abbrev K1 := aDt -> K0
abbrev K2 := aDt -> K1
abbrev K3 := aDt -> K2
abbrev K4 := aDt -> K3
abbrev K5 := aDt -> K4
abbrev K6 := aDt -> K5
abbrev K7 := aDt -> K6
abbrev K8 := aDt -> K7
abbrev K9 := aDt -> K8
abbrev K10 := aDt -> K9
abbrev HR (rs : List ResultVar) (R : K1) (Q : Exit -> Env -> aDs -> Prop) : Prop := ∀ g w, (vV pg rs g w fun vs => R (tup vs) w) -> Q .ret g w
abbrev HRF (rs : List ResultVar) (R : K1) (Q : Exit -> Env -> aDs -> Prop) : Prop := ∀ g w, (GR (g DS) w fun w => vV pg rs g w fun vs => R (tup vs) w) -> Q .ret g w
abbrev no : Env -> aDs -> Prop := fun _ _ => False
theorem lW {Q : Env -> aDs -> Prop} : ∀ g w, no g w -> Q g w := fun _ _ h => h.elim
abbrev Eh : FuncId := 4
abbrev Ik : FuncId := 8
abbrev tH : FuncId := 9
abbrev FB : FuncId := 10
abbrev AM : FuncId := 12
abbrev Iy : FuncId := 20
abbrev vL : FuncId := 21
abbrev FP : FuncId := 22
abbrev Om : FuncId := 23
abbrev JE : FuncId := 24
abbrev rN : FuncId := 25
abbrev oY : FuncId := 27
abbrev jR : FuncId := 28
abbrev oA : FuncId := 29
abbrev Cd : FuncId := 30
abbrev Ef : FuncId := 31
abbrev zD : FuncId := 32
abbrev TB : FuncId := 33
abbrev Ct : FuncId := 34
abbrev Gt : FuncId := 35
abbrev pX : FuncId := 36
abbrev oR : FuncId := 37
abbrev lA : FuncId := 38
abbrev lY : FuncId := 39
abbrev wH : FuncId := 40
abbrev wV : FuncId := 41
abbrev uH : FuncId := 42
abbrev yD : FuncId := 43
abbrev Gk : FuncId := 44
abbrev ZX : FuncId := 45
abbrev Cs : FuncId := 46
abbrev BU : FuncId := 47
abbrev wB : FuncId := 48
abbrev Ff : FuncId := 49
abbrev CB : FuncId := 50
abbrev BD : FuncId := 51
abbrev mS : FuncId := 52
abbrev sR : FuncId := 53
abbrev qK : FuncId := 54
abbrev JF : FuncId := 55
abbrev vR : FuncId := 56
abbrev rV : FuncId := 57
abbrev yF : FuncId := 58
abbrev pG : FuncId := 59
abbrev tN : FuncId := 60
abbrev Gy : FuncId := 63
abbrev qQ : FuncId := 64
abbrev BV : FuncId := 65
abbrev Ec : FuncId := 66
abbrev JP : FuncId := 67
abbrev Bx : FuncId := 68
abbrev Wy : FuncId := 69
abbrev Z3 : FuncId := 70
abbrev VF : FuncId := 71
abbrev pK : FuncId := 72
abbrev Ar : FuncId := 73
abbrev FX : FuncId := 74
abbrev qZ : FuncId := 75
abbrev BH : FuncId := 76
abbrev vP : FuncId := 77
abbrev Y7 : FuncId := 78
abbrev sU : FuncId := 79
abbrev xB : FuncId := 80
abbrev xR : FuncId := 81
abbrev A4 : FuncId := 82
abbrev xJ : FuncId := 83
abbrev BJ : FuncId := 84
abbrev BA : FuncId := 85
abbrev AN : FuncId := 86
abbrev xC : FuncId := 87
abbrev CL : FuncId := 97
abbrev rP : FuncId := 100
abbrev vN : FuncId := 102
abbrev Ee : FuncId := 103
abbrev wD : FuncId := 107
abbrev AL : FuncId := 108
abbrev Is : FuncId := 109
abbrev Gv : FuncId := 110
abbrev VU : FuncId := 112
abbrev D7 : FuncId := 115
abbrev WG : FuncId := 119
abbrev BN : FuncId := 120
abbrev Ea : FuncId := 132
abbrev uS : FuncId := 133
abbrev vJ : FuncId := 134
abbrev oH : FuncId := 135
abbrev JH : FuncId := 136
abbrev zL : FuncId := 145
abbrev pU : FuncId := 151
abbrev N0 (Q : Exit -> Env -> aDs -> Prop) (k : K0) : Prop := ∀ g w, k w -> Q .normal g w
abbrev E0 (Q : Exit -> Env -> aDs -> Prop) (k : K0) (x0 : Nat) : Prop := ∀ g w, k w -> Q (.exit x0) g w
abbrev N1 (Q : Exit -> Env -> aDs -> Prop) (k : K1) (a_ : Nat) : Prop := ∀ g w, k (g a_) w -> Q .normal g w
abbrev E1 (Q : Exit -> Env -> aDs -> Prop) (k : K1) (x0 : Nat) (a_ : Nat) : Prop := ∀ g w, k (g a_) w -> Q (.exit x0) g w
abbrev N2 (Q : Exit -> Env -> aDs -> Prop) (k : K2) (a_ b_ : Nat) : Prop := ∀ g w, k (g a_) (g b_) w -> Q .normal g w
abbrev E2 (Q : Exit -> Env -> aDs -> Prop) (k : K2) (x0 : Nat) (a_ b_ : Nat) : Prop := ∀ g w, k (g a_) (g b_) w -> Q (.exit x0) g w
abbrev N3 (Q : Exit -> Env -> aDs -> Prop) (k : K3) (a_ b_ c_ : Nat) : Prop := ∀ g w, k (g a_) (g b_) (g c_) w -> Q .normal g w
abbrev E3 (Q : Exit -> Env -> aDs -> Prop) (k : K3) (x0 : Nat) (a_ b_ c_ : Nat) : Prop := ∀ g w, k (g a_) (g b_) (g c_) w -> Q (.exit x0) g w
abbrev N4 (Q : Exit -> Env -> aDs -> Prop) (k : K4) (a_ b_ c_ d_ : Nat) : Prop := ∀ g w, k (g a_) (g b_) (g c_) (g d_) w -> Q .normal g w
abbrev E4 (Q : Exit -> Env -> aDs -> Prop) (k : K4) (x0 : Nat) (a_ b_ c_ d_ : Nat) : Prop := ∀ g w, k (g a_) (g b_) (g c_) (g d_) w -> Q (.exit x0) g w
abbrev N5 (Q : Exit -> Env -> aDs -> Prop) (k : K5) (a_ b_ c_ d_ e_ : Nat) : Prop := ∀ g w, k (g a_) (g b_) (g c_) (g d_) (g e_) w -> Q .normal g w
abbrev E5 (Q : Exit -> Env -> aDs -> Prop) (k : K5) (x0 : Nat) (a_ b_ c_ d_ e_ : Nat) : Prop := ∀ g w, k (g a_) (g b_) (g c_) (g d_) (g e_) w -> Q (.exit x0) g w
abbrev N6 (Q : Exit -> Env -> aDs -> Prop) (k : K6) (a_ b_ c_ d_ e_ f_ : Nat) : Prop := ∀ g w, k (g a_) (g b_) (g c_) (g d_) (g e_) (g f_) w -> Q .normal g w
abbrev E6 (Q : Exit -> Env -> aDs -> Prop) (k : K6) (x0 : Nat) (a_ b_ c_ d_ e_ f_ : Nat) : Prop := ∀ g w, k (g a_) (g b_) (g c_) (g d_) (g e_) (g f_) w -> Q (.exit x0) g w
abbrev N7 (Q : Exit -> Env -> aDs -> Prop) (k : K7) (a_ b_ c_ d_ e_ f_ g_ : Nat) : Prop := ∀ g w, k (g a_) (g b_) (g c_) (g d_) (g e_) (g f_) (g g_) w -> Q .normal g w
abbrev E7 (Q : Exit -> Env -> aDs -> Prop) (k : K7) (x0 : Nat) (a_ b_ c_ d_ e_ f_ g_ : Nat) : Prop := ∀ g w, k (g a_) (g b_) (g c_) (g d_) (g e_) (g f_) (g g_) w -> Q (.exit x0) g w
abbrev N8 (Q : Exit -> Env -> aDs -> Prop) (k : K8) (a_ b_ c_ d_ e_ f_ g_ h_ : Nat) : Prop := ∀ g w, k (g a_) (g b_) (g c_) (g d_) (g e_) (g f_) (g g_) (g h_) w -> Q .normal g w
abbrev N10 (Q : Exit -> Env -> aDs -> Prop) (k : K10) (a_ b_ c_ d_ e_ f_ g_ h_ i_ j_ : Nat) : Prop := ∀ g w, k (g a_) (g b_) (g c_) (g d_) (g e_) (g f_) (g g_) (g h_) (g i_) (g j_) w -> Q .normal g w
abbrev aDu (n_ : Int) : aDt := .int .i64 n_
end Go.Proofs.YtoecppploooloaaGreatDoor
namespace Go.Proofs.YtoecppploooloaaGreatDoor
open Go Go.En
set_option maxRecDepth 20000
attribute [local irreducible] Go.En.jO
variable (Q : Exit -> Env -> aDs -> Prop) (g : Env) (w : aDs)
def oS : FA := ⟨Eh, fun i => .leaf ([], []) []⟩
def wS : List ResultVar := [.tmp 6]
noncomputable def nU : Code := kA Tryz.f4
def xM (R : K1) (pC XI M0 : aDt) (w : aDs) : Prop :=
 gI pg (hZ .rem 5 jC jC pC (.int .u8 9)) w fun e6 w =>
 gI pg (nI 5 3 e6) w fun e7 w =>
 gI pg (hZ .add 3 jC jC e7 (aDu 1)) w fun e8 w =>
 jE pg tH #[M0, e8, (.bool true)] w fun e9 w =>
 gI pg (jZ e9 0) w fun f0 w =>
 gI pg (jZ e9 1) w fun f1 w =>
 jE pg AM #[f0, (aDu 22), XI] w fun f5 w =>
 gI pg (jZ f5 0) w fun f6 w =>
 gI pg (jZ f5 1) w fun f7 w =>
 gI pg (hZ .eql 24 (.tmp 48) (.const (aDu 0)) f1 (aDu 0)) w fun f9 w =>
 Gd (kR f9 true) (fun K => K f0 w) w fun i1 w =>
 Gd (kR f9 true) (fun K => gI pg (oF .len #[22] 3 [i1]) w K) w fun i2 w =>
 Gd (kR f9 true) (fun K => gI pg (hZ .lss 3 jC jC i2 (aDu 96)) w K) w fun i3 w =>
 gI pg (nD f9 i3 (.bool false)) w fun i4 w =>
 Gd (kR i4 true) (fun K => K f7 w) w fun i6 w =>
 Gd (kR i4 true) (fun K => gI pg (hZ .eql 24 (.tmp 56) (.const (aDu 0)) i6 (aDu 0)) w K) w fun i7 w =>
 gI pg (nD i4 i7 (.bool false)) w fun i8 w =>
 Gd (kR i8 true) (fun K => K f6 w) w fun j0 w =>
 Gd (kR i8 true) (fun K => gI pg (nI 22 9 j0) w K) w fun j1 w =>
 Gd (kR i8 true) (fun K => K M0 w) w fun j2 w =>
 Gd (kR i8 true) (fun K => gI pg (nI 22 9 j2) w K) w fun j3 w =>
 Gd (kR i8 true) (fun K => gI pg (hZ .eql 9 (.tmp 61) (.tmp 63) j1 j3) w K) w fun j4 w =>
 gI pg (nD i8 j4 (.bool false)) w fun j5 w =>
 R j5 w
theorem Qs (R : K1) (hr : HR wS R Q) (h : xM R (g 2) (g 8) (g 9) w) : jO pg oS (gH 1 (gH 5 nU)) Q g w :=
 lB (kn := no) (l := []) h lW hr trivial
def wQ (kn : K5) (k0 : K3) (Xw pC XI M0 Tv : aDt) (w : aDs) : Prop :=
 gI pg (hZ .lss 3 jC jC Tv XI) w fun d6 w =>
 mK d6
  (gI pg (jS 22 M0 Tv) w fun e2 w =>
  gI pg (jQ 5 e2 Xw) w fun _u w =>
  gI pg (hZ .add 3 jC jC Tv (aDu 1)) w fun d8 w =>
  kn Xw pC XI M0 d8 w)
  (k0 pC XI M0 w)
theorem Qg (kn : K5) (k0 : K3) (hn : N5 Q kn 0 2 8 9 10) (h0 : E3 Q k0 0 2 8 9) (h : wQ kn k0 (g 0) (g 2) (g 8) (g 9) (g 10) w) : jO pg oS (bI (bI (gH 1 (hU 1 (gH 5 nU))))) Q g w :=
 lB (kr := no) (l := [(0, fun g w => k0 (g 2) (g 8) (g 9) w)]) h hn lW ⟨h0, trivial⟩
def DF (k0 : K3) (Xw pC XI M0 Tv : aDt) (w : aDs) : Prop :=
 kO (fun (X : aDt -> K0) (t : aDt) (w : aDs) => wQ (fun _ _ _ _ Tv w => X Tv w) k0 Xw pC XI M0 t w) Tv w
theorem PS (k0 : K3) (h0 : E3 Q k0 0 2 8 9) (h : DF k0 (g 0) (g 2) (g 8) (g 9) (g 10) w) : jO pg oS (bI (gH 1 (hU 1 (gH 5 nU)))) Q g w := by
 refine Od (fun g : Env => g 10) (fun X t w => wQ (fun _ _ _ _ Tv w => X Tv w) k0 (g 0) (g 2) (g 8) (g 9) t w) h (fun X g1 w1 ha hL => ?_)
 rw [<- rG 0 ha, <- rG 2 ha, <- rG 8 ha, <- rG 9 ha] at hL
 exact (Qg _ g1 w1 (fun _ _ _ _ Tv w => X Tv w) k0 (fun _ _ h => h) h0 hL)
def Dv (kn : K3) (Xw pC XI M0 Tv : aDt) (w : aDs) : Prop :=
 DF kn Xw pC XI M0 Tv w
def Dm (kn : K5) (Xw pC XI M0 : aDt) (w : aDs) : Prop :=
 kn Xw pC XI M0 (aDu 0) w
theorem Qm (kn : K5) (hn : N5 Q kn 0 2 8 9 10) (h : Dm kn (g 0) (g 2) (g 8) (g 9) w) : jO pg oS (hU 1 (hU 1 (gH 5 nU))) Q g w :=
 lB (kr := no) (l := []) h hn lW trivial
def Dn (kn : K3) (Xw pC XI M0 : aDt) (w : aDs) : Prop :=
 Dm (fun Xw pC XI M0 Tv w => Dv kn Xw pC XI M0 Tv w) Xw pC XI M0 w
def C7 (R : K1) (Xw pC XI M0 : aDt) (w : aDs) : Prop :=
 Dn (fun pC XI M0 w => xM R pC XI M0 w) Xw pC XI M0 w
theorem QD (kn : K3) (hn : N3 Q kn 2 8 9) (h : Dn kn (g 0) (g 2) (g 8) (g 9) w) : jO pg oS (hU 1 (gH 5 nU)) Q g w :=
 nP 1 (Qm _ g w (Dv kn) (fun g w h => iZ (Iu 0 (PS _ g w kn hn h))) h)
def Dq (kn : K4) (R : K1) (Xw G2 pC : aDt) (w : aDs) : Prop :=
 jE pg Ik #[] w fun c5 w =>
 gI pg (sUn .not c5) w fun c7 w =>
 mK c7
  (R (.bool false) w)
  (gI pg (hZ .rem 29 jC jC G2 (.int .u16 5000)) w fun c9 w =>
  gI pg (nI 29 3 c9) w fun d0 w =>
  gI pg (hZ .add 3 jC jC d0 (aDu 64)) w fun d1 w =>
  gI pg (sS 22 d1 d1) w fun d3 w =>
  kn Xw pC d1 d3 w)
theorem Pz (kn : K4) (R : K1) (hn : N4 Q kn 0 2 8 9) (hr : HR wS R Q) (h : Dq kn R (g 0) (g 1) (g 2) w) : jO pg oS (hU 5 nU) Q g w :=
 lB (l := []) h hn hr trivial
def Dh (R : K1) (Xw G2 pC : aDt) (w : aDs) : Prop :=
 Dq (fun Xw pC XI M0 w => C7 R Xw pC XI M0 w) R Xw G2 pC w
theorem PK (R : K1) (hr : HR wS R Q) (h : Dh R (g 0) (g 1) (g 2) w) : jO pg oS nU Q g w :=
 nP 5 (Pz _ g w (C7 R) R (fun g w h => iZ (nP 1 (QD _ g w (xM R) (fun g w h => iZ (Qs _ g w R hr h)) h))) hr h)
def OO (a0 a1 a2 : aDt) (w : aDs) (R : K1) : Prop :=
 Dh R a0 a1 a2 w
theorem Re {a0 a1 a2 : aDt} {w : aDs} {R : K1} (h : OO a0 a1 a2 w R) : jE pg Eh #[a0, a1, a2] w R := by
 refine yX (ann := oS) Tryz.f4 nU [a0, a1, a2] wS 66 TryzM.mixed Tryz.func4 ?_
 exact (PK _ _ _ R (fun _ _ h => h) h)
def QO : FA := ⟨Ik, fun i => .leaf ([], []) []⟩
def Sd : List ResultVar := [.tmp 0]
noncomputable def Pl : Code := kA Tryz.f8
def Lm (R : K1)  (w : aDs) : Prop :=
 gI pg (lT 22 2 [(0, (.int .u8 7)), (1, (.int .u8 8))]) w fun b8 w =>
 jE pg tH #[b8, (aDu 0), (.bool false)] w fun b9 w =>
 gI pg (jZ b9 0) w fun c0 w =>
 gI pg (jZ b9 1) w fun c1 w =>
 jE pg AM #[c0, (aDu 22), (aDu 100)] w fun c4 w =>
 gI pg (jZ c4 0) w fun c5 w =>
 gI pg (jZ c4 1) w fun c6 w =>
 jE pg tH #[(.slice none 0 0), (aDu 10), (.bool false)] w fun c8 w =>
 gI pg (jZ c8 0) w fun c9 w =>
 gI pg (jZ c8 1) w fun d0 w =>
 gI pg (hZ .eql 24 (.tmp 21) (.const (aDu 0)) c1 (aDu 0)) w fun d2 w =>
 Gd (kR d2 true) (fun K => K c0 w) w fun d4 w =>
 Gd (kR d2 true) (fun K => gI pg (oF .len #[22] 3 [d4]) w K) w fun d5 w =>
 Gd (kR d2 true) (fun K => gI pg (hZ .gtr 3 jC jC d5 (aDu 6)) w K) w fun d6 w =>
 gI pg (nD d2 d6 (.bool false)) w fun d7 w =>
 Gd (kR d7 true) (fun K => K c0 w) w fun d9 w =>
 Gd (kR d7 true) (fun K => gI pg (lP 22 d9 none (some (aDu 6)) none) w K) w fun e0 w =>
 Gd (kR d7 true) (fun K => gI pg (nI 22 9 e0) w K) w fun e1 w =>
 Gd (kR d7 true) (fun K => gI pg (hZ .eql 9 (.tmp 31) (.const (.string ⟨#[40, 181, 47, 253, 32, 2]⟩)) e1 (.string ⟨#[40, 181, 47, 253, 32, 2]⟩)) w K) w fun e2 w =>
 gI pg (nD d7 e2 (.bool false)) w fun e3 w =>
 Gd (kR e3 true) (fun K => K c5 w) w fun e5 w =>
 Gd (kR e3 true) (fun K => gI pg (nI 22 9 e5) w K) w fun e6 w =>
 Gd (kR e3 true) (fun K => gI pg (hZ .eql 9 (.tmp 36) (.const (.string ⟨#[7, 8]⟩)) e6 (.string ⟨#[7, 8]⟩)) w K) w fun e7 w =>
 gI pg (nD e3 e7 (.bool false)) w fun e8 w =>
 Gd (kR e8 true) (fun K => K c6 w) w fun f0 w =>
 Gd (kR e8 true) (fun K => gI pg (hZ .eql 24 (.tmp 40) (.const (aDu 0)) f0 (aDu 0)) w K) w fun f1 w =>
 gI pg (nD e8 f1 (.bool false)) w fun f2 w =>
 Gd (kR f2 true) (fun K => K d0 w) w fun f4 w =>
 Gd (kR f2 true) (fun K => gI pg (hZ .eql 24 (.tmp 44) (.const (aDu 1)) f4 (aDu 1)) w K) w fun f5 w =>
 gI pg (nD f2 f5 (.bool false)) w fun f6 w =>
 Gd (kR f6 true) (fun K => jE pg FB #[(aDu 5)] w K) w fun f8 w =>
 Gd (kR f6 true) (fun K => gI pg (hZ .eql 3 (.tmp 48) (.const (aDu 29)) f8 (aDu 29)) w K) w fun f9 w =>
 gI pg (nD f6 f9 (.bool false)) w fun i0 w =>
 R i0 w
theorem Xm (R : K1) (hr : HR Sd R Q) (h : Lm R w) : jO pg QO Pl Q g w :=
 lB (kn := no) (l := []) h lW hr trivial
def YL (w : aDs) (R : K1) : Prop :=
 Lm R w
theorem Yz {w : aDs} {R : K1} (h : YL w R) : jE pg Ik #[] w R := by
 refine yX (ann := QO) Tryz.f8 Pl [] Sd 51 TryzM.mixed Tryz.func8 ?_
 exact (Xm _ _ _ R (fun _ _ h => h) h)
def pL : FA := ⟨tH, fun i => match Nat.beq i 13 with | true => .leaf ([2, 5], [(2, 3)]) [(false, []), (false, []), (true, []), (false, [0]), (false, []), (true, [])] | false => .leaf ([], []) []⟩
def sG : List ResultVar := [.tmp 6, .tmp 7]
noncomputable def oZ : Code := kA Tryz.f9
def yM (R : K1) (qS : aDt) (w : aDs) : Prop :=
 R (.tuple #[qS, (aDu 0)]) w
theorem Uy (R : K1) (hr : HR sG R Q) (h : yM R (g 8) w) : jO pg pL (gH 1 (gH 1 (gH 4 oZ))) Q g w :=
 lB (kn := no) (l := []) h lW hr trivial
def Ho (kn : K1) (nQ tL qS : aDt) (w : aDs) : Prop :=
 mK tL
  (jE pg Om #[nQ] w fun j5 w =>
  gI pg (nI 32 5 j5) w fun j8 w =>
  gI pg (hZ .shr 32 jC jC j5 (.int .u64 8)) w fun l0 w =>
  gI pg (nI 32 5 l0) w fun l1 w =>
  gI pg (hZ .shr 32 jC jC j5 (.int .u64 16)) w fun l3 w =>
  gI pg (nI 32 5 l3) w fun l4 w =>
  gI pg (hZ .shr 32 jC jC j5 (.int .u64 24)) w fun l6 w =>
  gI pg (nI 32 5 l6) w fun l7 w =>
  gI pg (lT 22 4 [(0, j8), (1, l1), (2, l4), (3, l7)]) w fun l8 w =>
  gI pg (oF .append #[22, 22] 22 [qS, l8]) w fun l9 w =>
  kn l9 w)
  (kn qS w)
theorem TQ (kn : K1) (hn : N1 Q kn 8) (h : Ho kn (g 0) (g 2) (g 8) w) : jO pg pL (hU 1 (gH 1 (gH 4 oZ))) Q g w :=
 lB (kr := no) (l := []) h hn lW trivial
def CF (R : K1) (nQ tL qS : aDt) (w : aDs) : Prop :=
 Ho (fun qS w => yM R qS w) nQ tL qS w
def yA (kn : K6) (k1 : K3) (R : K1) (nQ qH tL qS BM FF : aDt) (w : aDs) : Prop :=
 gI pg (hZ .eql 3 (.tmp 32) (.const (aDu 0)) FF (aDu 0)) w fun e3 w =>
 Gd (kR e3 false) (fun K => K FF w) w fun e5 w =>
 Gd (kR e3 false) (fun K => K nQ w) w fun e6 w =>
 Gd (kR e3 false) (fun K => gI pg (oF .len #[22] 3 [e6]) w K) w fun e7 w =>
 Gd (kR e3 false) (fun K => gI pg (hZ .lss 3 jC jC e5 e7) w K) w fun e8 w =>
 gI pg (nD e3 (.bool true) e8) w fun e9 w =>
 mK e9
  (gI pg (hZ .add 3 jC jC FF (aDu 65536)) w fun f6 w =>
  gI pg (oF .len #[22] 3 [nQ]) w fun f8 w =>
  gI pg (oF .min #[3, 3] 3 [f6, f8]) w fun f9 w =>
  gI pg (jF 45 BM) w fun i1 w =>
  jE pg FP #[nQ, FF, f9, qH, i1] w fun i2 w =>
  gI pg (jZ i2 0) w fun i3 w =>
  gI pg (jZ i2 1) w fun i4 w =>
  gI pg (jZ i2 2) w fun i5 w =>
  gI pg (oM 45) w fun c2 w =>
  gI pg (jQ 45 c2 i4) w fun _u w =>
  gI pg (hZ .neq 24 (.tmp 56) (.const (aDu 0)) i5 (aDu 0)) w fun i7 w =>
  mK i7
   (R (.tuple #[(.slice none 0 0), i5]) w)
   ((dr w) = (dr w) /\
   (dr w) = (dr w) /\
   gI pg (oF .append #[22, 22] 22 [qS, i3]) (dr w) fun j1 agW =>
   gI pg (jF 45 c2) agW fun j2 w_ => w_ = agW /\
   (jD pg (jF 45 c2) j2 (dr w) /\ True) /\
   agW = agW /\
   gI pg (jQ 45 BM j2) agW fun _u5 azO =>
   gI pg (hZ .add 3 jC jC FF (aDu 65536)) azO fun f1 w =>
   kn nQ qH tL j1 BM f1 w))
  (k1 nQ tL qS w)
theorem Ud (kn : K6) (k1 : K3) (R : K1) (hn : N6 Q kn 0 1 2 8 9 10) (h1 : E3 Q k1 1 0 2 8) (hr : HR sG R Q) (h : yA kn k1 R (g 0) (g 1) (g 2) (g 8) (g 9) (g 10) w) : jO pg pL (bI (bI (gH 1 (hU 1 (gH 4 oZ))))) Q g w :=
 lB (l := [(1, fun g w => k1 (g 0) (g 2) (g 8) w)]) h hn hr ⟨h1, trivial⟩
def He (k1 : K3) (R : K1) (nQ qH tL qS BM FF : aDt) (w : aDs) : Prop :=
 kO (fun (X : (aDt × aDt) -> K0) (t : aDt × aDt) (w : aDs) => yA (fun _ _ _ qS _ FF w => X (qS, FF) w) k1 R nQ qH tL t.1 BM t.2 w) (qS, FF) w
theorem TU (k1 : K3) (R : K1) (h1 : E3 Q k1 1 0 2 8) (hr : HR sG R Q) (h : He k1 R (g 0) (g 1) (g 2) (g 8) (g 9) (g 10) w) : jO pg pL (bI (gH 1 (hU 1 (gH 4 oZ)))) Q g w := by
 refine Od (fun g : Env => (g 8, g 10)) (fun X t w => yA (fun _ _ _ qS _ FF w => X (qS, FF) w) k1 R (g 0) (g 1) (g 2) t.1 (g 9) t.2 w) h (fun X g1 w1 ha hL => ?_)
 rw [<- rG 0 ha, <- rG 1 ha, <- rG 2 ha, <- rG 9 ha] at hL
 exact (Ud _ g1 w1 (fun _ _ _ qS _ FF w => X (qS, FF) w) k1 R (fun _ _ h => h) h1 hr hL)
def Hz (kn : K3) (R : K1) (nQ qH tL qS BM FF : aDt) (w : aDs) : Prop :=
 He kn R nQ qH tL qS BM FF w
def HK (kn : K6) (nQ qH tL qS BM : aDt) (w : aDs) : Prop :=
 kn nQ qH tL qS BM (aDu 0) w
theorem Up (kn : K6) (hn : N6 Q kn 0 1 2 8 9 10) (h : HK kn (g 0) (g 1) (g 2) (g 8) (g 9) w) : jO pg pL (hU 1 (hU 1 (gH 4 oZ))) Q g w :=
 lB (kr := no) (l := []) h hn lW trivial
def Ib (kn : K3) (R : K1) (nQ qH tL qS BM : aDt) (w : aDs) : Prop :=
 HK (fun nQ qH tL qS BM FF w => Hz kn R nQ qH tL qS BM FF w) nQ qH tL qS BM w
def Hr (R : K1) (nQ qH tL qS BM : aDt) (w : aDs) : Prop :=
 Ib (fun nQ tL qS w => CF R nQ tL qS w) R nQ qH tL qS BM w
theorem TY (kn : K3) (R : K1) (hn : N3 Q kn 0 2 8) (hr : HR sG R Q) (h : Ib kn R (g 0) (g 1) (g 2) (g 8) (g 9) w) : jO pg pL (hU 1 (gH 4 oZ)) Q g w :=
 nP 1 (Up _ g w (Hz kn R) (fun g w h => iZ (Iu 1 (TU _ g w kn R hn hr h))) h)
def Bw (kn : K5) (R : K1) (nQ qH tL : aDt) (w : aDs) : Prop :=
 gI pg (hZ .lss 3 jC jC qH (aDu 0)) w fun c7 w =>
 Gd (kR c7 false) (fun K => K qH w) w fun c9 w =>
 Gd (kR c7 false) (fun K => gI pg (hZ .gtr 3 jC jC c9 (aDu 9)) w K) w fun d0 w =>
 gI pg (nD c7 (.bool true) d0) w fun d1 w =>
 mK d1
  (R (.tuple #[(.slice none 0 0), (aDu 1)]) w)
  (gI pg (oF .len #[22] 3 [nQ]) w fun d4 w =>
  gI pg (hZ .gtr 3 jC jC d4 (aDu 4194304)) w fun d5 w =>
  mK d5
   (R (.tuple #[(.slice none 0 0), (aDu 12)]) w)
   (gI pg (oF .len #[22] 3 [nQ]) w fun d7 w =>
   gI pg (nI 3 32 d7) w fun d8 w =>
   jE pg Iy #[d8, tL] w fun e0 w =>
   jE pg vL #[] w fun e1 w =>
   gI pg (oM 45) w fun BM w =>
   gI pg (jQ 45 BM e1) w fun _u w =>
   kn nQ qH tL e0 BM w))
theorem SX (kn : K5) (R : K1) (hn : N5 Q kn 0 1 2 8 9) (hr : HR sG R Q) (h : Bw kn R (g 0) (g 1) (g 2) w) : jO pg pL (hU 4 oZ) Q g w :=
 lB (l := []) h hn hr trivial
def Bv (R : K1) (nQ qH tL : aDt) (w : aDs) : Prop :=
 Bw (fun nQ qH tL qS BM w => Hr R nQ qH tL qS BM w) R nQ qH tL w
theorem Sk (R : K1) (hr : HR sG R Q) (h : Bv R (g 0) (g 1) (g 2) w) : jO pg pL oZ Q g w :=
 nP 4 (SX _ g w (Hr R) R (fun g w h => iZ (nP 1 (TY _ g w (CF R) R (fun g w h => iZ (nP 1 (TQ _ g w (yM R) (fun g w h => iZ (Uy _ g w R hr h)) h))) hr h))) hr h)
def MS (a0 a1 a2 : aDt) (w : aDs) (R : K1) : Prop :=
 Bv R a0 a1 a2 w
theorem Kl {a0 a1 a2 : aDt} {w : aDs} {R : K1} (h : MS a0 a1 a2 w R) : jE pg tH #[a0, a1, a2] w R := by
 refine yX (ann := pL) Tryz.f9 oZ [a0, a1, a2] sG 81 TryzM.mixed Tryz.func9 ?_
 exact (Sk _ _ _ R (fun _ _ h => h) h)
def OK : FA := ⟨FB, fun i => .leaf ([], []) []⟩
def QI : List ResultVar := [.tmp 2]
noncomputable def My : Code := kA Tryz.f10
def Jl (R : K1) (n_0 : aDt) (w : aDs) : Prop :=
 gI pg (hZ .lss 3 jC jC n_0 (aDu 0)) w fun b4 w =>
 mK b4
  (R (aDu 0) w)
  (gI pg (hZ .add 3 jC jC n_0 (aDu 18)) w fun b6 w =>
  gI pg (hZ .add 3 jC jC n_0 (aDu 131072)) w fun b8 w =>
  gI pg (hZ .sub 3 jC jC b8 (aDu 1)) w fun b9 w =>
  gI pg (hZ .quo 3 jC jC b9 (aDu 131072)) w fun c0 w =>
  gI pg (hZ .mul 3 jC jC (aDu 6) c0) w fun c1 w =>
  gI pg (hZ .add 3 jC jC b6 c1) w fun c2 w =>
  R c2 w)
theorem U3 (R : K1) (hr : HR QI R Q) (h : Jl R (g 0) w) : jO pg OK My Q g w :=
 lB (kn := no) (l := []) h lW hr trivial
def WZ (a0 : aDt) (w : aDs) (R : K1) : Prop :=
 Jl R a0 w
theorem Xp {a0 : aDt} {w : aDs} {R : K1} (h : WZ a0 w R) : jE pg FB #[a0] w R := by
 refine yX (ann := OK) Tryz.f10 My [a0] QI 13 TryzM.mixed Tryz.func10 ?_
 exact (U3 _ _ _ R (fun _ _ h => h) h)
def Mn : FA := ⟨AM, fun i => .leaf ([], []) []⟩
def OZ : List ResultVar := [.tmp 6, .tmp 7]
noncomputable def Kb : Code := kA Tryz.f12
def Ht (R : K1) (nQ YW XX : aDt) (w : aDs) : Prop :=
 jE pg JE #[nQ, YW, XX] w fun c4 w =>
 gI pg (jZ c4 0) w fun c5 w =>
 gI pg (jZ c4 1) w fun c6 w =>
 gI pg (hZ .neq 24 (.tmp 17) (.const (aDu 0)) c6 (aDu 0)) w fun c8 w =>
 mK c8
  (R (.tuple #[(.slice none 0 0), c6]) w)
  (gI pg (nO c5) w fun d1 w =>
  gI pg (jH 56 d1 3) w fun d2 w =>
  gI pg (jF 22 d2) w fun d3 w =>
  R (.tuple #[d3, (aDu 0)]) w)
theorem Uw (R : K1) (hr : HR OZ R Q) (h : Ht R (g 0) (g 1) (g 2) w) : jO pg Mn Kb Q g w :=
 lB (kn := no) (l := []) h lW hr trivial
def UX (a0 a1 a2 : aDt) (w : aDs) (R : K1) : Prop :=
 Ht R a0 a1 a2 w
theorem VH {a0 a1 a2 : aDt} {w : aDs} {R : K1} (h : UX a0 a1 a2 w R) : jE pg AM #[a0, a1, a2] w R := by
 refine yX (ann := Mn) Tryz.f12 Kb [a0, a1, a2] OZ 24 TryzM.mixed Tryz.func12 ?_
 exact (Uw _ _ _ R (fun _ _ h => h) h)
def AK : FA := ⟨Iy, fun i => .leaf ([], []) []⟩
def Kz : List ResultVar := [.tmp 4]
noncomputable def xY : Code := kA Tryz.f20
def B7 (R : K1) (uC d_5 n_6 Gu : aDt) (w : aDs) : Prop :=
 jE pg oY #[] w fun d7 w =>
 jE pg jR #[d7, (.int .u64 4247762216), (aDu 4)] w fun d9 w =>
 jE pg jR #[d7, d_5, (aDu 1)] w fun e2 w =>
 gI pg (hZ .sub 32 jC jC uC Gu) w fun e6 w =>
 jE pg jR #[d7, e6, n_6] w fun e8 w =>
 jE pg oA #[d7] w fun f0 w =>
 R f0 w
theorem WY (R : K1) (hr : HR Kz R Q) (h : B7 R (g 0) (g 5) (g 6) (g 7) w) : jO pg AK (gH 1 (gH 3 xY)) Q g w :=
 lB (kn := no) (l := []) h lW hr trivial
def Li (kn : K4) (uC pM d_5 n_6 Gu : aDt) (w : aDs) : Prop :=
 mK pM
  (gI pg (hZ .or 32 jC jC d_5 (.int .u64 4)) w fun d6 w =>
  kn uC d6 n_6 Gu w)
  (kn uC d_5 n_6 Gu w)
theorem VZ (kn : K4) (hn : N4 Q kn 0 5 6 7) (h : Li kn (g 0) (g 1) (g 5) (g 6) (g 7) w) : jO pg AK (hU 1 (gH 3 xY)) Q g w :=
 lB (kr := no) (l := []) h hn lW trivial
def J4 (R : K1) (uC pM d_5 n_6 Gu : aDt) (w : aDs) : Prop :=
 Li (fun uC d_5 n_6 Gu w => B7 R uC d_5 n_6 Gu w) uC pM d_5 n_6 Gu w
def KO (kn : K5) (uC pM : aDt) (w : aDs) : Prop :=
 gI pg (hZ .lss 32 jC jC uC (.int .u64 256)) w fun c3 w =>
 mK c3
  (kn uC pM (.int .u64 32) (aDu 1) (.int .u64 0) w)
  (gI pg (hZ .lss 32 jC jC uC (.int .u64 65792)) w fun c6 w =>
  mK c6
   (gI pg (hZ .or 32 jC jC (.int .u64 32) (.int .u64 64)) w fun c8 w =>
   kn uC pM c8 (aDu 2) (.int .u64 256) w)
   (gI pg (hZ .lss 32 jC jC uC (.int .u64 4294967296)) w fun d1 w =>
   mK d1
    (gI pg (hZ .or 32 jC jC (.int .u64 32) (.int .u64 128)) w fun d3 w =>
    kn uC pM d3 (aDu 4) (.int .u64 0) w)
    (gI pg (hZ .or 32 jC jC (.int .u64 32) (.int .u64 192)) w fun c0 w =>
    kn uC pM c0 (aDu 8) (.int .u64 0) w)))
theorem V0 (kn : K5) (hn : N5 Q kn 0 1 5 6 7) (h : KO kn (g 0) (g 1) w) : jO pg AK (hU 3 xY) Q g w :=
 lB (kr := no) (l := []) h hn lW trivial
def KR (R : K1) (uC pM : aDt) (w : aDs) : Prop :=
 KO (fun uC pM d_5 n_6 Gu w => J4 R uC pM d_5 n_6 Gu w) uC pM w
theorem Wz (R : K1) (hr : HR Kz R Q) (h : KR R (g 0) (g 1) w) : jO pg AK xY Q g w :=
 nP 3 (V0 _ g w (J4 R) (fun g w h => iZ (nP 1 (VZ _ g w (B7 R) (fun g w h => iZ (WY _ g w R hr h)) h))) h)
def YS (a0 a1 : aDt) (w : aDs) (R : K1) : Prop :=
 KR R a0 a1 w
theorem Yn {a0 a1 : aDt} {w : aDs} {R : K1} (h : YS a0 a1 w R) : jE pg Iy #[a0, a1] w R := by
 refine yX (ann := AK) Tryz.f20 xY [a0, a1] Kz 41 TryzM.mixed Tryz.func20 ?_
 exact (Wz _ _ _ R (fun _ _ h => h) h)
def ME : FA := ⟨vL, fun i => .leaf ([], []) []⟩
def O2 : List ResultVar := [.cell 0 45]
noncomputable def Ls : Code := kA Tryz.f21
def Hm (R : K1)  (w : aDs) : Prop :=
 gI pg (oM 45) w fun b0 w =>
 gI pg (kY 45 [(0, (.int .u32 1)), (1, (.int .u32 4)), (2, (.int .u32 8))]) w fun b1 w =>
 gI pg (jQ 45 b0 b1) w fun _u w =>
 MO pg 45 b0 w fun r0 => R r0 w
theorem TL (R : K1) (hr : HR O2 R Q) (h : Hm R w) : jO pg ME Ls Q g w :=
 lB (kn := no) (l := []) h lW hr trivial
def UO (w : aDs) (R : K1) : Prop :=
 Hm R w
theorem VB {w : aDs} {R : K1} (h : UO w R) : jE pg vL #[] w R := by
 refine yX (ann := ME) Tryz.f21 Ls [] O2 2 TryzM.mixed Tryz.func21 ?_
 exact (TL _ _ _ R (fun _ _ h => h) h)
def CM : FA := ⟨FP, fun i => match Nat.beq i 5 with | true => .leaf ([3], [(1, 3)]) [(false, []), (false, []), (false, []), (true, [1]), (false, [])] | false => match Nat.beq i 8 with | true => .leaf ([5, 7, 9], [(1, 5), (3, 5), (3, 7)]) [(false, []), (false, []), (false, []), (false, []), (false, []), (true, [1, 3]), (false, []), (true, [3]), (false, []), (true, [])] | false => match Nat.beq i 11 with | true => .leaf ([3], []) [(false, []), (false, []), (false, []), (true, []), (false, [])] | false => match Nat.beq i 12 with | true => .leaf ([2, 5], [(2, 3)]) [(false, []), (false, []), (true, []), (false, [0]), (false, []), (true, []), (false, [])] | false => .leaf ([], []) []⟩
def Jg : List ResultVar := [.tmp 10, .cell 11 45, .tmp 12]
noncomputable def BC : Code := kA Tryz.f22
def vK (R : K1) (BM c1 Xz VT : aDt) (w : aDs) : Prop :=
 gI pg (jF 65 Xz) w fun j4 w =>
 jE pg zD #[j4] w fun j5 w =>
 gI pg (jZ j5 0) w fun j6 w =>
 gI pg (jZ j5 1) w fun j7 w =>
 gI pg (hZ .neq 24 (.tmp 68) (.const (aDu 0)) j7 (aDu 0)) w fun j9 w =>
 mK j9
  (gI pg (jF 45 BM) (dr w) fun l0 w_ => w_ = (dr w) /\
  (dr w) = (dr w) /\
  (dr w) = (dr w) /\
  gI pg (jQ 45 c1 l0) (dr w) fun _u3 akU =>
  akU = akU /\
  MO pg 45 c1 akU fun r1 => R (.tuple #[(.slice none 0 0), r1, j7]) akU)
  ((dr w) = (dr w) /\
  (dr w) = (dr w) /\
  gI pg (oF .append #[22, 22] 22 [j6, VT]) (dr w) fun l4 afY =>
  gI pg (jF 45 BM) afY fun l5 w_ => w_ = afY /\
  (jD pg (jF 45 BM) l5 (dr w) /\ True) /\
  afY = afY /\
  gI pg (jQ 45 c1 l5) afY fun _u5 alB =>
  alB = alB /\
  MO pg 45 c1 alB fun r1 => R (.tuple #[l4, r1, (aDu 0)]) alB)
theorem Vx (R : K1) (hr : HR Jg R Q) (h : vK R (g 9) (g 11) (g 14) (g 15) w) : jO pg CM (gH 5 BC) Q g w :=
 lB (kn := no) (l := []) h lW hr trivial
def Jc (kn : K4) (nQ lQ b2 jL r_4 : aDt) (w : aDs) : Prop :=
 gI pg (Ru 45 r_4) w fun BM w =>
 gI pg (oM 45) w fun c1 w =>
 gI pg (lP 22 nQ (some lQ) (some b2) none) w fun d4 w =>
 gI pg (oF .len #[22] 3 [nQ]) w fun d7 w =>
 gI pg (hZ .eql 3 (.tmp 25) (.tmp 27) b2 d7) w fun d8 w =>
 gI pg (oF .len #[22] 3 [d4]) w fun e0 w =>
 gI pg (kY 65 [(0, d8), (1, (aDu 0)), (2, e0)]) w fun e1 w =>
 gI pg (oM 65) w fun Xz w =>
 gI pg (jQ 65 Xz e1) w fun _u w =>
 jE pg Cd #[d4] w fun e4 w =>
 mK e4
  ((dr w) = (dr w) /\
  gI pg (lP 22 d4 none (some (aDu 1)) none) (dr w) fun e6 w_ => w_ = (dr w) /\
  gI pg (jH 65 Xz 1) (dr w) fun e7 w_ => w_ = (dr w) /\
  gI pg (jQ 3 e7 (aDu 1)) (dr w) fun _u3 ajX =>
  (jD pg (lP 22 d4 none (some (aDu 1)) none) e6 ajX /\ True) /\
  ajX = ajX /\
  kn BM c1 Xz e6 ajX)
  (gI pg (jF 45 BM) w fun f3 w =>
  jE pg Ef #[nQ, lQ, b2, jL, f3] w fun f4 w =>
  gI pg (jZ f4 0) w fun f5 w =>
  gI pg (jZ f4 1) w fun f6 w =>
  gI pg (jZ f4 2) w fun f7 w =>
  gI pg (oM 45) w fun c7 w =>
  gI pg (jQ 45 c7 f6) w fun _u w =>
  gI pg (hZ .eql 24 (.tmp 48) (.const (aDu 0)) f7 (aDu 0)) w fun f9 w =>
  Gd (kR f9 true) (fun K => K f5 w) w fun i1 w =>
  Gd (kR f9 true) (fun K => gI pg (oF .len #[22] 3 [i1]) w K) w fun i2 w =>
  Gd (kR f9 true) (fun K => K d4 w) w fun i3 w =>
  Gd (kR f9 true) (fun K => gI pg (oF .len #[22] 3 [i3]) w K) w fun i4 w =>
  Gd (kR f9 true) (fun K => gI pg (hZ .lss 3 jC jC i2 i4) w K) w fun i5 w =>
  gI pg (nD f9 i5 (.bool false)) w fun i6 w =>
  mK i6
   ((dr w) = (dr w) /\
   gI pg (oF .len #[22] 3 [f5]) (dr w) fun i8 w_ => w_ = (dr w) /\
   (dr w) = (dr w) /\
   gI pg (jF 45 c7) (dr w) fun j0 w_ => w_ = (dr w) /\
   gI pg (jH 65 Xz 1) (dr w) fun j1 w_ => w_ = (dr w) /\
   gI pg (jQ 3 j1 (aDu 2)) (dr w) fun _u5 apY =>
   (jD pg (jF 45 c7) j0 apY /\ jD pg (oF .len #[22] 3 [f5]) i8 apY /\ True) /\
   gI pg (jH 65 Xz 2) apY fun j2 w_ => w_ = apY /\
   gI pg (jQ 3 j2 i8) apY fun _u7 avT =>
   (jD pg (jF 45 c7) j0 avT /\ True) /\
   avT = avT /\
   gI pg (jQ 45 BM j0) avT fun _u9 aAC =>
   kn BM c1 Xz f5 aAC)
   (kn BM c1 Xz d4 w))
theorem Vm (kn : K4) (hn : N4 Q kn 9 11 14 15) (h : Jc kn (g 0) (g 1) (g 2) (g 3) (g 4) w) : jO pg CM (hU 5 BC) Q g w :=
 lB (kr := no) (l := []) h hn lW trivial
def I7 (R : K1) (nQ lQ b2 jL r_4 : aDt) (w : aDs) : Prop :=
 Jc (fun BM c1 Xz VT w => vK R BM c1 Xz VT w) nQ lQ b2 jL r_4 w
theorem Vz (R : K1) (hr : HR Jg R Q) (h : I7 R (g 0) (g 1) (g 2) (g 3) (g 4) w) : jO pg CM BC Q g w :=
 nP 5 (Vm _ g w (vK R) (fun g w h => iZ (Vx _ g w R hr h)) h)
def WV (a0 a1 a2 a3 a4 : aDt) (w : aDs) (R : K1) : Prop :=
 I7 R a0 a1 a2 a3 a4 w
theorem Ww {a0 a1 a2 a3 a4 : aDt} {w : aDs} {R : K1} (h : WV a0 a1 a2 a3 a4 w R) : jE pg FP #[a0, a1, a2, a3, a4] w R := by
 refine yX (ann := CM) Tryz.f22 BC [a0, a1, a2, a3, a4] Jg 76 TryzM.mixed Tryz.func22 ?_
 exact (Vz _ _ _ R (fun _ _ h => h) h)
def ZW : FA := ⟨Om, fun i => .leaf ([], []) []⟩
def acD : List ResultVar := [.tmp 2]
noncomputable def YG : Code := kA Tryz.f23
def Yk (R : K1) (nQ : aDt) (w : aDs) : Prop :=
 jE pg TB #[] w fun b4 w =>
 jE pg Ct #[b4, nQ] w fun b7 w =>
 jE pg Gt #[b4] w fun b9 w =>
 R b9 w
theorem aeN (R : K1) (hr : HR acD R Q) (h : Yk R (g 0) w) : jO pg ZW YG Q g w :=
 lB (kn := no) (l := []) h lW hr trivial
def arL (a0 : aDt) (w : aDs) (R : K1) : Prop :=
 Yk R a0 w
theorem agU {a0 : aDt} {w : aDs} {R : K1} (h : arL a0 w R) : jE pg Om #[a0] w R := by
 refine yX (ann := ZW) Tryz.f23 YG [a0] acD 10 TryzM.mixed Tryz.func23 ?_
 exact (aeN _ _ _ R (fun _ _ h => h) h)
def qM : FA := ⟨JE, fun i => match Nat.beq i 3 with | true => .leaf ([1, 6], [(1, 3)]) [(false, []), (true, []), (false, []), (false, [1]), (false, []), (false, []), (true, []), (false, [])] | false => .leaf ([], []) []⟩
def sH : List ResultVar := [.tmp 6, .tmp 7]
noncomputable def pZ : Code := kA Tryz.f24
def Iv (R : K1) (ID : aDt) (w : aDs) : Prop :=
 R (.tuple #[ID, (aDu 0)]) w
theorem Xx (R : K1) (hr : HR sH R Q) (h : Iv R (g 8) w) : jO pg qM (gH 1 (gH 3 pZ)) Q g w :=
 lB (kn := no) (l := []) h lW hr trivial
def AP (kn : K1) (R : K1) (ID aoM : aDt) (w : aDs) : Prop :=
 gI pg (hZ .neq 24 (.tmp 64) (.const (aDu 0)) aoM (aDu 0)) w fun j5 w =>
 mK j5
  (R (.tuple #[(.pointer none), aoM]) w)
  (kn ID w)
theorem X7 (kn : K1) (R : K1) (hn : N1 Q kn 8) (hr : HR sH R Q) (h : AP kn R (g 8) (g 10) w) : jO pg qM (gH 4 (bI (gH 1 (bI (bI (hU 1 (gH 3 pZ))))))) Q g w :=
 lB (l := []) h hn hr trivial
def NK (kn : K2) (R : K1) (ID : aDt) (w : aDs) : Prop :=
 gI pg (nO ID) w fun e5 w =>
 gI pg (jH 56 e5 0) w fun e6 w =>
 gI pg (jF 54 e6) w fun e7 w =>
 jE pg lA #[e7, (aDu 4)] w fun e8 w =>
 gI pg (nO ID) w fun f0 w =>
 gI pg (jH 56 f0 0) w fun f1 w =>
 gI pg (jF 54 f1) w fun f2 w =>
 jE pg lY #[f2] w fun f3 w =>
 gI pg (hZ .neq 24 (.tmp 43) (.const (aDu 0)) f3 (aDu 0)) w fun f4 w =>
 mK f4
  (gI pg (nO ID) w fun f6 w =>
  gI pg (jH 56 f6 0) w fun f7 w =>
  gI pg (jF 54 f7) w fun f8 w =>
  jE pg lY #[f8] w fun f9 w =>
  R (.tuple #[(.pointer none), f9]) w)
  (gI pg (hZ .eql 32 (.tmp 51) (.const (.int .u64 4247762216)) e8 (.int .u64 4247762216)) w fun i2 w =>
  mK i2
   (jE pg wH #[ID] w fun i4 w =>
   kn ID i4 w)
   (gI pg (hZ .geq 32 jC jC e8 (.int .u64 407710288)) w fun i7 w =>
   Gd (kR i7 true) (fun K => K e8 w) w fun i9 w =>
   Gd (kR i7 true) (fun K => gI pg (hZ .lss 32 jC jC i9 (.int .u64 407710304)) w K) w fun j0 w =>
   gI pg (nD i7 j0 (.bool false)) w fun j1 w =>
   mK j1
    (jE pg wV #[ID] w fun j3 w =>
    kn ID j3 w)
    (kn ID (aDu 11) w)))
theorem X6 (kn : K2) (R : K1) (hn : N2 Q kn 8 10) (hr : HR sH R Q) (h : NK kn R (g 8) w) : jO pg qM (hU 4 (bI (gH 1 (bI (bI (hU 1 (gH 3 pZ))))))) Q g w :=
 lB (l := []) h hn hr trivial
def UI (kn : K1) (R : K1) (ID : aDt) (w : aDs) : Prop :=
 NK (fun ID aoM w => AP kn R ID aoM w) R ID w
def Ns (kn : K1) (R : K1) (ID : aDt) (w : aDs) : Prop :=
 UI kn R ID w
def NS (kn : K1) (k0 : K1) (ID : aDt) (w : aDs) : Prop :=
 gI pg (nO ID) w fun d9 w =>
 gI pg (jH 56 d9 0) w fun e0 w =>
 gI pg (jF 54 e0) w fun e1 w =>
 jE pg oR #[e1] w fun e2 w =>
 gI pg (hZ .gtr 3 jC jC e2 (aDu 0)) w fun e3 w =>
 mK e3
  (kn ID w)
  (k0 ID w)
theorem XP (kn : K1) (k0 : K1) (hn : N1 Q kn 8) (h0 : E1 Q k0 0 8) (h : NS kn k0 (g 8) w) : jO pg qM (hU 1 (bI (bI (hU 1 (gH 3 pZ))))) Q g w :=
 lB (kr := no) (l := [(0, fun g w => k0 (g 8) w)]) h hn lW ⟨h0, trivial⟩
def Iq (kn : K1) (k0 : K1) (R : K1) (ID : aDt) (w : aDs) : Prop :=
 NS (fun ID w => Ns kn R ID w) k0 ID w
def NB (k0 : K1) (R : K1) (ID : aDt) (w : aDs) : Prop :=
 kO (fun (X : Unit -> K0) (t : Unit) (w : aDs) => Iq (fun _ w => X () w) k0 R ID w) () w
theorem X4 (kn : K1) (k0 : K1) (R : K1) (hn : N1 Q kn 8) (h0 : E1 Q k0 0 8) (hr : HR sH R Q) (h : Iq kn k0 R (g 8) w) : jO pg qM (bI (bI (hU 1 (gH 3 pZ)))) Q g w :=
 nP 1 (XP _ g w (Ns kn R) k0 (fun g w h => iZ (Iu 1 (nP 4 (X6 _ g w (AP kn R) R (fun g w h => iZ (X7 _ g w kn R hn hr h)) hr h)))) h0 h)
theorem Yj (k0 : K1) (R : K1) (h0 : E1 Q k0 0 8) (hr : HR sH R Q) (h : NB k0 R (g 8) w) : jO pg qM (bI (hU 1 (gH 3 pZ))) Q g w := by
 refine Od (fun _ : Env => ()) (fun X t w => Iq (fun _ w => X () w) k0 R (g 8) w) h (fun X g1 w1 ha hL => ?_)
 rw [<- rG 8 ha] at hL
 exact (X4 _ g1 w1 (fun _ w => X () w) k0 R (fun _ _ h => h) h0 hr hL)
def NL (kn : K1) (R : K1) (ID : aDt) (w : aDs) : Prop :=
 NB kn R ID w
def F4 (R : K1) (ID : aDt) (w : aDs) : Prop :=
 NL (fun ID w => Iv R ID w) R ID w
theorem YF (kn : K1) (R : K1) (hn : N1 Q kn 8) (hr : HR sH R Q) (h : NL kn R (g 8) w) : jO pg qM (hU 1 (gH 3 pZ)) Q g w :=
 Iu 0 (Yj _ g w kn R hn hr h)
def Kp (kn : K1) (R : K1) (nQ YW XX : aDt) (w : aDs) : Prop :=
 gI pg (hZ .lss 3 jC jC YW (aDu 10)) w fun c2 w =>
 Gd (kR c2 false) (fun K => K YW w) w fun c4 w =>
 Gd (kR c2 false) (fun K => gI pg (hZ .gtr 3 jC jC c4 (aDu 22)) w K) w fun c5 w =>
 gI pg (nD c2 (.bool true) c5) w fun c6 w =>
 Gd (kR c6 false) (fun K => K XX w) w fun c8 w =>
 Gd (kR c6 false) (fun K => gI pg (hZ .lss 3 jC jC c8 (aDu 0)) w K) w fun c9 w =>
 gI pg (nD c6 (.bool true) c9) w fun d0 w =>
 mK d0
  (R (.tuple #[(.pointer none), (aDu 1)]) w)
  ((dr w) = (dr w) /\
  jE pg pX #[nQ] (dr w) fun d2 yI =>
  yI = yI /\
  gI pg (hZ .shl 32 jC jC (.int .u64 1) YW) yI fun d4 w_ => w_ = yI /\
  (jD pg (hZ .shl 32 jC jC (.int .u64 1) YW) d4 (dr w) /\ True) /\
  yI = yI /\
  gI pg (kY 56 [(0, d2), (1, d4), (2, XX)]) yI fun d6 w_ => w_ = yI /\
  gI pg (Ru 56 d6) yI fun d7 ayG =>
  ayG = ayG /\
  kn d7 ayG)
theorem W8 (kn : K1) (R : K1) (hn : N1 Q kn 8) (hr : HR sH R Q) (h : Kp kn R (g 0) (g 1) (g 2) w) : jO pg qM (hU 3 pZ) Q g w :=
 lB (l := []) h hn hr trivial
def Lk (R : K1) (nQ YW XX : aDt) (w : aDs) : Prop :=
 Kp (fun ID w => F4 R ID w) R nQ YW XX w
theorem V1 (R : K1) (hr : HR sH R Q) (h : Lk R (g 0) (g 1) (g 2) w) : jO pg qM pZ Q g w :=
 nP 3 (W8 _ g w (F4 R) R (fun g w h => iZ (nP 1 (YF _ g w (Iv R) R (fun g w h => iZ (Xx _ g w R hr h)) hr h))) hr h)
def aaS (a0 a1 a2 : aDt) (w : aDs) (R : K1) : Prop :=
 Lk R a0 a1 a2 w
theorem Zl {a0 a1 a2 : aDt} {w : aDs} {R : K1} (h : aaS a0 a1 a2 w R) : jE pg JE #[a0, a1, a2] w R := by
 refine yX (ann := qM) Tryz.f24 pZ [a0, a1, a2] sH 68 TryzM.mixed Tryz.func24 ?_
 exact (V1 _ _ _ R (fun _ _ h => h) h)
def Ha : FA := ⟨rN, fun i => .leaf ([], []) []⟩
def IF : List ResultVar := [.tmp 2]
noncomputable def Gl : Code := kA Tryz.f25
def Cm (R : K1) (pN : aDt) (w : aDs) : Prop :=
 gI pg (hZ .eql 22 (.tmp 3) (.const (.slice none 0 0)) pN (.slice none 0 0)) w fun b4 w =>
 mK b4
  (R (.slice none 0 0) w)
  (gI pg (lT 22 0 []) w fun b5 w =>
  gI pg (oF .append #[22, 22] 22 [b5, pN]) w fun b7 w =>
  R b7 w)
theorem Po (R : K1) (hr : HR IF R Q) (h : Cm R (g 0) w) : jO pg Ha Gl Q g w :=
 lB (kn := no) (l := []) h lW hr trivial
def Ms (a0 : aDt) (w : aDs) (R : K1) : Prop :=
 Cm R a0 w
theorem QG {a0 : aDt} {w : aDs} {R : K1} (h : Ms a0 w R) : jE pg rN #[a0] w R := by
 refine yX (ann := Ha) Tryz.f25 Gl [a0] IF 8 TryzM.mixed Tryz.func25 ?_
 exact (Po _ _ _ R (fun _ _ h => h) h)
def IN : FA := ⟨oY, fun i => .leaf ([], []) []⟩
def Jn : List ResultVar := [.tmp 0]
noncomputable def GY : Code := kA Tryz.f27
def Ds (R : K1)  (w : aDs) : Prop :=
 gI pg (kY 77 []) w fun b1 w =>
 gI pg (Ru 77 b1) w fun b2 w =>
 R b2 w
theorem Qa (R : K1) (hr : HR Jn R Q) (h : Ds R w) : jO pg IN GY Q g w :=
 lB (kn := no) (l := []) h lW hr trivial
def OU (w : aDs) (R : K1) : Prop :=
 Ds R w
theorem Rn {w : aDs} {R : K1} (h : OU w R) : jE pg oY #[] w R := by
 refine yX (ann := IN) Tryz.f27 GY [] Jn 3 TryzM.mixed Tryz.func27 ?_
 exact (Qa _ _ _ R (fun _ _ h => h) h)
def qL : FA := ⟨jR, fun i => .leaf ([], []) []⟩
def xX : List ResultVar := []
noncomputable def qE : Code := kA Tryz.f28
def tE (kn : K4) (k0 : K0) (yY DJ c7 c8 : aDt) (w : aDs) : Prop :=
 gI pg (hZ .lss 3 jC jC c8 c7) w fun c9 w =>
 mK c9
  (gI pg (nO yY) w fun d3 w =>
  gI pg (jH 77 d3 0) w fun d4 w =>
  gI pg (jF 22 d4) w fun d5 w =>
  gI pg (hZ .mul 3 jC jC (aDu 8) c8) w fun d8 w =>
  gI pg (nI 3 50 d8) w fun d9 w =>
  gI pg (hZ .shr 32 jC jC DJ d9) w fun e0 w =>
  gI pg (nI 32 5 e0) w fun e1 w =>
  gI pg (lT 22 1 [(0, e1)]) w fun e2 w =>
  gI pg (oF .append #[22, 22] 22 [d5, e2]) w fun e3 w =>
  gI pg (nO yY) w fun e4 w =>
  gI pg (jH 77 e4 0) w fun e5 w =>
  gI pg (jQ 22 e5 e3) w fun _u w =>
  gI pg (hZ .add 3 jC jC c8 (aDu 1)) w fun e6 w =>
  kn yY DJ c7 e6 w)
  (k0 w)
theorem KV (kn : K4) (k0 : K0) (hn : N4 Q kn 0 1 17 18) (h0 : E0 Q k0 0) (h : tE kn k0 (g 0) (g 1) (g 17) (g 18) w) : jO pg qL (bI (bI (gH 2 qE))) Q g w :=
 lB (kr := no) (l := [(0, fun g w => k0 w)]) h hn lW ⟨h0, trivial⟩
def yL (k0 : K0) (yY DJ c7 c8 : aDt) (w : aDs) : Prop :=
 kO (fun (X : aDt -> K0) (t : aDt) (w : aDs) => tE (fun _ _ _ c8 w => X c8 w) k0 yY DJ c7 t w) c8 w
theorem KM (k0 : K0) (h0 : E0 Q k0 0) (h : yL k0 (g 0) (g 1) (g 17) (g 18) w) : jO pg qL (bI (gH 2 qE)) Q g w := by
 refine Od (fun g : Env => g 18) (fun X t w => tE (fun _ _ _ c8 w => X c8 w) k0 (g 0) (g 1) (g 17) t w) h (fun X g1 w1 ha hL => ?_)
 rw [<- rG 0 ha, <- rG 1 ha, <- rG 17 ha] at hL
 exact (KV _ g1 w1 (fun _ _ _ c8 w => X c8 w) k0 (fun _ _ h => h) h0 hL)
def xU (kn : K0) (yY DJ c7 c8 : aDt) (w : aDs) : Prop :=
 yL kn yY DJ c7 c8 w
def yS (kn : K4) (R : K1) (yY DJ SI : aDt) (w : aDs) : Prop :=
 gI pg (hZ .eql 60 (.tmp 7) (.const (.pointer none)) yY (.pointer none)) w fun b8 w =>
 Gd (kR b8 false) (fun K => K SI w) w fun c0 w =>
 Gd (kR b8 false) (fun K => gI pg (hZ .lss 3 jC jC c0 (aDu 1)) w K) w fun c1 w =>
 gI pg (nD b8 (.bool true) c1) w fun c2 w =>
 Gd (kR c2 false) (fun K => K SI w) w fun c4 w =>
 Gd (kR c2 false) (fun K => gI pg (hZ .gtr 3 jC jC c4 (aDu 8)) w K) w fun c5 w =>
 gI pg (nD c2 (.bool true) c5) w fun c6 w =>
 mK c6
  (R (.tuple #[]) w)
  (kn yY DJ SI (aDu 0) w)
theorem J8 (kn : K4) (R : K1) (hn : N4 Q kn 0 1 17 18) (hr : HR xX R Q) (h : yS kn R (g 0) (g 1) (g 2) w) : jO pg qL (hU 2 qE) Q g w :=
 lB (l := []) h hn hr trivial
def xN (kn : K0) (R : K1) (yY DJ SI : aDt) (w : aDs) : Prop :=
 yS (fun yY DJ c7 c8 w => xU kn yY DJ c7 c8 w) R yY DJ SI w
theorem Kg (kn : K0) (R : K1) (hn : N0 Q kn) (hr : HR xX R Q) (h : xN kn R (g 0) (g 1) (g 2) w) : jO pg qL qE Q g w :=
 nP 2 (J8 _ g w (xU kn) R (fun g w h => iZ (Iu 0 (KM _ g w kn hn h))) hr h)
def IP (a0 a1 a2 : aDt) (w : aDs) (R : K1) : Prop :=
 xN (fun  w => R (.tuple #[]) w) R a0 a1 a2 w
theorem L7 {a0 a1 a2 : aDt} {w : aDs} {R : K1} (h : IP a0 a1 a2 w R) : jE pg jR #[a0, a1, a2] w R := by
 refine yX (ann := qL) Tryz.f28 qE [a0, a1, a2] xX 37 TryzM.mixed Tryz.func28 ?_
 exact (Kg _ _ _ (fun  w => R (.tuple #[]) w) R (fun _ _ h => h) (fun _ _ h => h) h)
def G6 : FA := ⟨oA, fun i => .leaf ([], []) []⟩
def IJ : List ResultVar := [.tmp 2]
noncomputable def FY : Code := kA Tryz.f29
def Ca (R : K1) (yY : aDt) (w : aDs) : Prop :=
 gI pg (hZ .eql 60 (.tmp 3) (.const (.pointer none)) yY (.pointer none)) w fun b4 w =>
 mK b4
  (R (.slice none 0 0) w)
  (gI pg (nO yY) w fun b6 w =>
  gI pg (jH 77 b6 0) w fun b7 w =>
  gI pg (jF 22 b7) w fun b8 w =>
  jE pg rN #[b8] w fun b9 w =>
  R b9 w)
theorem OP (R : K1) (hr : HR IJ R Q) (h : Ca R (g 0) w) : jO pg G6 FY Q g w :=
 lB (kn := no) (l := []) h lW hr trivial
def Mt (a0 : aDt) (w : aDs) (R : K1) : Prop :=
 Ca R a0 w
theorem PX {a0 : aDt} {w : aDs} {R : K1} (h : Mt a0 w R) : jE pg oA #[a0] w R := by
 refine yX (ann := G6) Tryz.f29 FY [a0] IJ 10 TryzM.mixed Tryz.func29 ?_
 exact (OP _ _ _ R (fun _ _ h => h) h)
def OS : FA := ⟨Cd, fun i => .leaf ([], []) []⟩
def QV : List ResultVar := [.tmp 2]
noncomputable def Mq : Code := kA Tryz.f30
def I4 (R : K1) (nQ : aDt) (w : aDs) : Prop :=
 gI pg (Ru 22 nQ) w fun BG w =>
 gI pg (jF 22 BG) w fun b3 w =>
 gI pg (oF .len #[22] 3 [b3]) w fun b4 w =>
 gI pg (hZ .gtr 3 jC jC b4 (aDu 0)) w fun b5 w =>
 Gd (kR b5 true) (fun K => gI pg (jF 22 BG) w K) w fun b7 w =>
 Gd (kR b5 true) (fun K => gI pg (aaG (.func 43) [] [BG]) w K) w fun b8 w =>
 Gd (kR b5 true) (fun K => jE pg uH #[b7, b8] w K) w fun b9 w =>
 Gd (kR b5 true) (fun K => gI pg (sUn .not b9) w K) w fun c0 w =>
 gI pg (nD b5 c0 (.bool false)) w fun c1 w =>
 R c1 w
theorem U7 (R : K1) (hr : HR QV R Q) (h : I4 R (g 0) w) : jO pg OS Mq Q g w :=
 lB (kn := no) (l := []) h lW hr trivial
def Wl (a0 : aDt) (w : aDs) (R : K1) : Prop :=
 I4 R a0 w
theorem WW {a0 : aDt} {w : aDs} {R : K1} (h : Wl a0 w R) : jE pg Cd #[a0] w R := by
 refine yX (ann := OS) Tryz.f30 Mq [a0] QV 12 TryzM.mixed Tryz.func30 ?_
 exact (U7 _ _ _ R (fun _ _ h => h) h)
def qF : FA := ⟨Ef, fun i => match Nat.beq i 3 with | true => .leaf ([3], []) [(false, []), (false, []), (false, []), (true, []), (false, [])] | false => match Nat.beq i 16 with | true => .leaf ([3], []) [(false, []), (false, []), (false, []), (true, []), (false, [])] | false => match Nat.beq i 19 with | true => .leaf ([3], []) [(false, []), (false, []), (false, []), (true, []), (false, [])] | false => match Nat.beq i 20 with | true => .leaf ([2, 3, 6], [(2, 4), (3, 4)]) [(false, []), (false, []), (true, []), (true, []), (false, [0, 1]), (false, []), (true, []), (false, [])] | false => .leaf ([], []) []⟩
def CK : List ResultVar := [.tmp 10, .cell 11 45, .tmp 12]
noncomputable def pS : Code := kA Tryz.f31
def CR (R : K1) (nQ b2 BM c1 Gf mT sZ : aDt) (w : aDs) : Prop :=
 gI pg (lP 22 nQ (some sZ) (some b2) none) w fun m0 w =>
 gI pg (oF .append #[22, 22] 22 [mT, m0]) w fun m1 w =>
 jE pg Cs #[m1] w fun m4 w =>
 gI pg (jZ m4 0) w fun m5 w =>
 gI pg (jZ m4 1) w fun m6 w =>
 gI pg (hZ .neq 24 (.tmp 87) (.const (aDu 0)) m6 (aDu 0)) w fun m8 w =>
 mK m8
  (gI pg (jF 45 BM) (dr w) fun m9 w_ => w_ = (dr w) /\
  (dr w) = (dr w) /\
  (dr w) = (dr w) /\
  gI pg (jQ 45 c1 m9) (dr w) fun _u3 akT =>
  akT = akT /\
  MO pg 45 c1 akT fun r1 => R (.tuple #[(.slice none 0 0), r1, m6]) akT)
  (jE pg BU #[Gf] w fun n3 w =>
  gI pg (jZ n3 0) w fun n4 w =>
  gI pg (jZ n3 1) w fun n5 w =>
  gI pg (hZ .neq 24 (.tmp 96) (.const (aDu 0)) n5 (aDu 0)) w fun n7 w =>
  mK n7
   (gI pg (jF 45 BM) (dr w) fun n8 w_ => w_ = (dr w) /\
   (dr w) = (dr w) /\
   (dr w) = (dr w) /\
   gI pg (jQ 45 c1 n8) (dr w) fun _u3 akJ =>
   akJ = akJ /\
   MO pg 45 c1 akJ fun r1 => R (.tuple #[(.slice none 0 0), r1, n5]) akJ)
   ((dr w) = (dr w) /\
   (dr w) = (dr w) /\
   gI pg (lT 137 2 [(0, m5), (1, n4)]) (dr w) fun o2 avZ =>
   jE pg wB #[o2] avZ fun o3 agB =>
   gI pg (jF 45 BM) agB fun o4 w_ => w_ = agB /\
   (jD pg (jF 45 BM) o4 avZ /\ jD pg (jF 45 BM) o4 (dr w) /\ True) /\
   agB = agB /\
   gI pg (jQ 45 c1 o4) agB fun _u6 alI =>
   alI = alI /\
   MO pg 45 c1 alI fun r1 => R (.tuple #[o3, r1, (aDu 0)]) alI))
theorem TR (R : K1) (hr : HR CK R Q) (h : CR R (g 0) (g 2) (g 9) (g 11) (g 13) (g 16) (g 17) w) : jO pg qF (gH 1 (gH 5 pS)) Q g w :=
 lB (kn := no) (l := []) h lW hr trivial
def CS (kn : K10) (k0 : K7) (nQ b2 BM c1 Gf mT sZ e6 e7 e8 : aDt) (w : aDs) : Prop :=
 gI pg (hZ .lss 3 jC jC e8 e7) w fun e9 w =>
 mK e9
  (gI pg (jS 80 e6 e8) w fun f1 w =>
  gI pg (jF 84 f1) w fun f2 w =>
  gI pg (oM 84) w fun anQ w =>
  gI pg (jQ 84 anQ f2) w fun _u w =>
  gI pg (jH 84 anQ 0) w fun f7 w =>
  gI pg (jF 38 f7) w fun f8 w =>
  gI pg (nI 38 3 f8) w fun f9 w =>
  gI pg (hZ .add 3 jC jC sZ f9) w fun i0 w =>
  gI pg (lP 22 nQ (some sZ) (some i0) none) w fun i1 w =>
  gI pg (oF .append #[22, 22] 22 [mT, i1]) w fun i2 w =>
  gI pg (jH 84 anQ 0) w fun i4 w =>
  gI pg (jF 38 i4) w fun i5 w =>
  gI pg (nI 38 3 i5) w fun i6 w =>
  gI pg (jH 84 anQ 1) w fun i7 w =>
  gI pg (jF 38 i7) w fun i8 w =>
  gI pg (nI 38 3 i8) w fun i9 w =>
  gI pg (hZ .add 3 jC jC i6 i9) w fun j0 w =>
  gI pg (hZ .add 3 jC jC sZ j0) w fun j1 w =>
  gI pg (jF 45 BM) w fun j5 w =>
  gI pg (jH 84 anQ 0) w fun j6 w =>
  gI pg (jF 38 j6) w fun j7 w =>
  gI pg (jH 84 anQ 2) w fun j8 w =>
  gI pg (jF 38 j8) w fun j9 w =>
  jE pg ZX #[j5, j7, j9] w fun l0 w =>
  gI pg (jZ l0 0) w fun l1 w =>
  gI pg (jZ l0 1) w fun l2 w =>
  gI pg (jS 80 Gf e8) w fun l3 w =>
  gI pg (jH 84 l3 2) w fun l4 w =>
  gI pg (jQ 38 l4 l1) w fun _u w =>
  gI pg (jQ 45 BM l2) w fun _u w =>
  gI pg (hZ .add 3 jC jC e8 (aDu 1)) w fun l5 w =>
  kn nQ b2 BM c1 Gf i2 j1 e6 e7 l5 w)
  (k0 nQ b2 BM c1 Gf mT sZ w)
theorem Ul (kn : K10) (k0 : K7) (hn : N10 Q kn 0 2 9 11 13 16 17 36 37 38) (h0 : E7 Q k0 0 0 2 9 11 13 16 17) (h : CS kn k0 (g 0) (g 2) (g 9) (g 11) (g 13) (g 16) (g 17) (g 36) (g 37) (g 38) w) : jO pg qF (bI (bI (gH 1 (hU 1 (gH 5 pS))))) Q g w :=
 lB (kr := no) (l := [(0, fun g w => k0 (g 0) (g 2) (g 9) (g 11) (g 13) (g 16) (g 17) w)]) h hn lW ⟨h0, trivial⟩
def Hf (k0 : K7) (nQ b2 BM c1 Gf mT sZ e6 e7 e8 : aDt) (w : aDs) : Prop :=
 kO (fun (X : (aDt × aDt × aDt) -> K0) (t : aDt × aDt × aDt) (w : aDs) => CS (fun _ _ _ _ _ mT sZ _ _ e8 w => X (mT, sZ, e8) w) k0 nQ b2 BM c1 Gf t.1 t.2.1 e6 e7 t.2.2 w) (mT, sZ, e8) w
theorem TW (k0 : K7) (h0 : E7 Q k0 0 0 2 9 11 13 16 17) (h : Hf k0 (g 0) (g 2) (g 9) (g 11) (g 13) (g 16) (g 17) (g 36) (g 37) (g 38) w) : jO pg qF (bI (gH 1 (hU 1 (gH 5 pS)))) Q g w := by
 refine Od (fun g : Env => (g 16, g 17, g 38)) (fun X t w => CS (fun _ _ _ _ _ mT sZ _ _ e8 w => X (mT, sZ, e8) w) k0 (g 0) (g 2) (g 9) (g 11) (g 13) t.1 t.2.1 (g 36) (g 37) t.2.2 w) h (fun X g1 w1 ha hL => ?_)
 rw [<- rG 0 ha, <- rG 2 ha, <- rG 9 ha, <- rG 11 ha, <- rG 13 ha, <- rG 36 ha, <- rG 37 ha] at hL
 exact (Ul _ g1 w1 (fun _ _ _ _ _ mT sZ _ _ e8 w => X (mT, sZ, e8) w) k0 (fun _ _ h => h) h0 hL)
def HB (kn : K7) (nQ b2 BM c1 Gf mT sZ e6 e7 e8 : aDt) (w : aDs) : Prop :=
 Hf kn nQ b2 BM c1 Gf mT sZ e6 e7 e8 w
def H6 (kn : K10) (nQ b2 BM c1 Gf mT sZ : aDt) (w : aDs) : Prop :=
 gI pg (oF .len #[80] 3 [Gf]) w fun e7 w =>
 kn nQ b2 BM c1 Gf mT sZ Gf e7 (aDu 0) w
theorem UB (kn : K10) (hn : N10 Q kn 0 2 9 11 13 16 17 36 37 38) (h : H6 kn (g 0) (g 2) (g 9) (g 11) (g 13) (g 16) (g 17) w) : jO pg qF (hU 1 (hU 1 (gH 5 pS))) Q g w :=
 lB (kr := no) (l := []) h hn lW trivial
def HP (kn : K7) (nQ b2 BM c1 Gf mT sZ : aDt) (w : aDs) : Prop :=
 H6 (fun nQ b2 BM c1 Gf mT sZ e6 e7 e8 w => HB kn nQ b2 BM c1 Gf mT sZ e6 e7 e8 w) nQ b2 BM c1 Gf mT sZ w
def HM (R : K1) (nQ b2 BM c1 Gf mT sZ : aDt) (w : aDs) : Prop :=
 HP (fun nQ b2 BM c1 Gf mT sZ w => CR R nQ b2 BM c1 Gf mT sZ w) nQ b2 BM c1 Gf mT sZ w
theorem Ug (kn : K7) (hn : N7 Q kn 0 2 9 11 13 16 17) (h : HP kn (g 0) (g 2) (g 9) (g 11) (g 13) (g 16) (g 17) w) : jO pg qF (hU 1 (gH 5 pS)) Q g w :=
 nP 1 (UB _ g w (HB kn) (fun g w h => iZ (Iu 0 (TW _ g w kn hn h))) h)
def Hj (kn : K7) (R : K1) (nQ lQ b2 jL r_4 : aDt) (w : aDs) : Prop :=
 gI pg (Ru 45 r_4) w fun BM w =>
 gI pg (oM 45) w fun c1 w =>
 jE pg Gk #[nQ, lQ, b2, jL] w fun d7 w =>
 gI pg (jZ d7 0) w fun d8 w =>
 gI pg (jZ d7 1) w fun d9 w =>
 gI pg (jZ d7 2) w fun e0 w =>
 gI pg (hZ .neq 24 (.tmp 31) (.const (aDu 0)) e0 (aDu 0)) w fun e2 w =>
 mK e2
  (gI pg (jF 45 BM) (dr w) fun e3 w_ => w_ = (dr w) /\
  (dr w) = (dr w) /\
  (dr w) = (dr w) /\
  gI pg (jQ 45 c1 e3) (dr w) fun _u3 avW =>
  avW = avW /\
  MO pg 45 c1 avW fun r1 => R (.tuple #[(.slice none 0 0), r1, e0]) avW)
  (kn nQ b2 BM c1 d8 (.slice none 0 0) lQ w)
theorem T7 (kn : K7) (R : K1) (hn : N7 Q kn 0 2 9 11 13 16 17) (hr : HR CK R Q) (h : Hj kn R (g 0) (g 1) (g 2) (g 3) (g 4) w) : jO pg qF (hU 5 pS) Q g w :=
 lB (l := []) h hn hr trivial
def HH (R : K1) (nQ lQ b2 jL r_4 : aDt) (w : aDs) : Prop :=
 Hj (fun nQ b2 BM c1 Gf mT sZ w => HM R nQ b2 BM c1 Gf mT sZ w) R nQ lQ b2 jL r_4 w
theorem TM (R : K1) (hr : HR CK R Q) (h : HH R (g 0) (g 1) (g 2) (g 3) (g 4) w) : jO pg qF pS Q g w :=
 nP 5 (T7 _ g w (HM R) R (fun g w h => iZ (nP 1 (Ug _ g w (CR R) (fun g w h => iZ (TR _ g w R hr h)) h))) hr h)
def US (a0 a1 a2 a3 a4 : aDt) (w : aDs) (R : K1) : Prop :=
 HH R a0 a1 a2 a3 a4 w
theorem Vj {a0 a1 a2 a3 a4 : aDt} {w : aDs} {R : K1} (h : US a0 a1 a2 a3 a4 w R) : jE pg Ef #[a0, a1, a2, a3, a4] w R := by
 refine yX (ann := qF) Tryz.f31 pS [a0, a1, a2, a3, a4] CK 105 TryzM.mixed Tryz.func31 ?_
 exact (TM _ _ _ R (fun _ _ h => h) h)
def vQ : FA := ⟨zD, fun i => .leaf ([], []) []⟩
def xD : List ResultVar := [.tmp 2, .tmp 3]
noncomputable def uT : Code := kA Tryz.f32
def tO (R : K1) (IA : aDt) (w : aDs) : Prop :=
 jE pg oY #[] w fun e5 w =>
 gI pg (nI 3 32 IA) w fun e8 w =>
 jE pg jR #[e5, e8, (aDu 3)] w fun e9 w =>
 jE pg oA #[e5] w fun f1 w =>
 R (.tuple #[f1, (aDu 0)]) w
theorem P5 (R : K1) (hr : HR xD R Q) (h : tO R (g 4) w) : jO pg vQ (gH 4 uT) Q g w :=
 lB (kn := no) (l := []) h lW hr trivial
def Db (kn : K1) (R : K1) (mZ : aDt) (w : aDs) : Prop :=
 gI pg (Ru 65 mZ) w fun DJ w =>
 gI pg (jH 65 DJ 1) w fun b6 w =>
 gI pg (jF 3 b6) w fun b7 w =>
 gI pg (hZ .lss 3 jC jC b7 (aDu 0)) w fun b8 w =>
 Gd (kR b8 false) (fun K => gI pg (jH 65 DJ 1) w K) w fun c0 w =>
 Gd (kR b8 false) (fun K => gI pg (jF 3 c0) w K) w fun c1 w =>
 Gd (kR b8 false) (fun K => gI pg (hZ .gtr 3 jC jC c1 (aDu 2)) w K) w fun c2 w =>
 gI pg (nD b8 (.bool true) c2) w fun c3 w =>
 Gd (kR c3 false) (fun K => gI pg (jH 65 DJ 2) w K) w fun c5 w =>
 Gd (kR c3 false) (fun K => gI pg (jF 3 c5) w K) w fun c6 w =>
 Gd (kR c3 false) (fun K => gI pg (hZ .lss 3 jC jC c6 (aDu 0)) w K) w fun c7 w =>
 gI pg (nD c3 (.bool true) c7) w fun c8 w =>
 Gd (kR c8 false) (fun K => gI pg (jH 65 DJ 2) w K) w fun d0 w =>
 Gd (kR c8 false) (fun K => gI pg (jF 3 d0) w K) w fun d1 w =>
 Gd (kR c8 false) (fun K => gI pg (hZ .geq 3 jC jC d1 (aDu 2097152)) w K) w fun d2 w =>
 gI pg (nD c8 (.bool true) d2) w fun d3 w =>
 mK d3
  (R (.tuple #[(.slice none 0 0), (aDu 1)]) w)
  (gI pg (jH 65 DJ 2) w fun d4 w =>
  gI pg (jF 3 d4) w fun d5 w =>
  gI pg (hZ .shl 3 jC jC d5 (.int .u64 3)) w fun d6 w =>
  gI pg (jH 65 DJ 1) w fun d7 w =>
  gI pg (jF 3 d7) w fun d8 w =>
  gI pg (hZ .shl 3 jC jC d8 (.int .u64 1)) w fun d9 w =>
  gI pg (hZ .or 3 jC jC d6 d9) w fun e0 w =>
  gI pg (jH 65 DJ 0) w fun e1 w =>
  gI pg (jF 4 e1) w fun e2 w =>
  mK e2
   (gI pg (hZ .or 3 jC jC e0 (aDu 1)) w fun e4 w =>
   kn e4 w)
   (kn e0 w))
theorem PU (kn : K1) (R : K1) (hn : N1 Q kn 4) (hr : HR xD R Q) (h : Db kn R (g 0) w) : jO pg vQ (hU 4 uT) Q g w :=
 lB (l := []) h hn hr trivial
def DH (R : K1) (mZ : aDt) (w : aDs) : Prop :=
 Db (fun IA w => tO R IA w) R mZ w
theorem PG (R : K1) (hr : HR xD R Q) (h : DH R (g 0) w) : jO pg vQ uT Q g w :=
 nP 4 (PU _ g w (tO R) R (fun g w h => iZ (P5 _ g w R hr h)) hr h)
def O7 (a0 : aDt) (w : aDs) (R : K1) : Prop :=
 DH R a0 w
theorem R2 {a0 : aDt} {w : aDs} {R : K1} (h : O7 a0 w R) : jE pg zD #[a0] w R := by
 refine yX (ann := vQ) Tryz.f32 uT [a0] xD 42 TryzM.mixed Tryz.func32 ?_
 exact (PG _ _ _ R (fun _ _ h => h) h)
def YN : FA := ⟨TB, fun i => .leaf ([], []) []⟩
def ZC : List ResultVar := [.tmp 0]
noncomputable def WR : Code := kA Tryz.f33
def VI (R : K1)  (w : aDs) : Prop :=
 gI pg (hZ .add 32 jC jC (.int .u64 11400714785074694791) (.int .u64 14029467366897019727)) w fun b3 w =>
 gI pg (sUn .neg (.int .u64 11400714785074694791)) w fun b5 w =>
 gI pg (kY 90 [(0, b3), (1, (.int .u64 14029467366897019727)), (2, (.int .u64 0)), (3, b5)]) w fun b6 w =>
 gI pg (kY 93 [(0, b6)]) w fun b7 w =>
 gI pg (Ru 93 b7) w fun b8 w =>
 R b8 w
theorem aaZ (R : K1) (hr : HR ZC R Q) (h : VI R w) : jO pg YN WR Q g w :=
 lB (kn := no) (l := []) h lW hr trivial
def alS (w : aDs) (R : K1) : Prop :=
 VI R w
theorem adK {w : aDs} {R : K1} (h : alS w R) : jE pg TB #[] w R := by
 refine yX (ann := YN) Tryz.f33 WR [] ZC 9 TryzM.mixed Tryz.func33 ?_
 exact (aaZ _ _ _ R (fun _ _ h => h) h)
def lU : FA := ⟨Ct, fun i => match Nat.beq i 3 with | true => .leaf ([9], []) [(false, []), (false, []), (false, []), (false, []), (false, []), (false, []), (false, []), (false, []), (false, []), (true, []), (false, [])] | false => match Nat.beq i 10 with | true => .leaf ([17, 18, 22], [(4, 17), (5, 17), (6, 17), (7, 17), (17, 19), (17, 20), (18, 19), (18, 20)]) [(false, []), (false, []), (false, []), (false, []), (false, []), (false, []), (false, []), (false, []), (false, []), (false, []), (false, []), (false, []), (false, []), (false, []), (false, []), (false, []), (false, []), (true, [9, 10, 11, 12]), (true, []), (false, [0, 1]), (false, [1, 2]), (false, []), (true, [])] | false => .leaf ([], []) []⟩
def Fu : List ResultVar := []
noncomputable def lO : Code := kA Tryz.f34
def tD (kn : K2) (rM BG : aDt) (w : aDs) : Prop :=
 gI pg (nO rM) w fun l4 w =>
 gI pg (jH 93 l4 2) w fun l5 w =>
 gI pg (jQ 3 l5 (aDu 0)) w fun _u w =>
 kn rM BG w
theorem Tf (kn : K2) (hn : N2 Q kn 0 1) (h : tD kn (g 0) (g 1) w) : jO pg lU (gH 1 (cT (gH 4 (bI (gH 1 (bI (bI (gH 2 lO)))))))) Q g w :=
 lB (kr := no) (l := []) h hn lW trivial
def wE (kn : K3) (k2 : K2) (rM BG f7 : aDt) (w : aDs) : Prop :=
 gI pg (hZ .lss 3 jC jC f7 (aDu 4)) w fun f8 w =>
 mK f8
  ((dr w) = (dr w) /\
  (dr w) = (dr w) /\
  (dr w) = (dr w) /\
  (dr w) = (dr w) /\
  gI pg (nO rM) (dr w) fun i4 w_ => w_ = (dr w) /\
  gI pg (jH 93 i4 0) (dr w) fun i5 w_ => w_ = (dr w) /\
  gI pg (jS 90 i5 f7) (dr w) fun i6 w_ => w_ = (dr w) /\
  gI pg (jF 32 i6) (dr w) fun i7 w_ => w_ = (dr w) /\
  (dr w) = (dr w) /\
  gI pg (nO rM) (dr w) fun i9 w_ => w_ = (dr w) /\
  gI pg (jH 93 i9 1) (dr w) fun j0 w_ => w_ = (dr w) /\
  (dr w) = (dr w) /\
  gI pg (hZ .mul 3 jC jC (aDu 8) f7) (dr w) fun j2 w_ => w_ = (dr w) /\
  (dr w) = (dr w) /\
  gI pg (hZ .mul 3 jC jC (aDu 8) f7) (dr w) fun j4 w_ => w_ = (dr w) /\
  gI pg (hZ .add 3 jC jC j4 (aDu 8)) (dr w) fun j5 w_ => w_ = (dr w) /\
  gI pg (lP 91 j0 (some j2) (some j5) none) (dr w) fun j6 w_ => w_ = (dr w) /\
  jE pg CB #[j6] (dr w) fun j7 VA =>
  (jD pg (jF 32 i6) i7 VA /\ jD pg (jS 90 i5 f7) i6 VA /\ jD pg (jH 93 i4 0) i5 VA /\ jD pg (nO rM) i4 VA /\ True) /\
  jE pg Ff #[i7, j7] VA fun j8 Vp =>
  gI pg (nO rM) Vp fun j9 w_ => w_ = Vp /\
  (jD pg (nO rM) j9 VA /\ jD pg (nO rM) j9 (dr w) /\ True) /\
  gI pg (jH 93 j9 0) Vp fun l0 w_ => w_ = Vp /\
  (jD pg (jH 93 j9 0) l0 VA /\ jD pg (jH 93 j9 0) l0 (dr w) /\ True) /\
  gI pg (jS 90 l0 f7) Vp fun l1 w_ => w_ = Vp /\
  gI pg (jQ 32 l1 j8) Vp fun _u22 ayC =>
  gI pg (hZ .add 3 jC jC f7 (aDu 1)) ayC fun l2 w =>
  kn rM BG l2 w)
  (k2 rM BG w)
theorem R8 (kn : K3) (k2 : K2) (hn : N3 Q kn 0 1 47) (h2 : E2 Q k2 2 0 1) (h : wE kn k2 (g 0) (g 1) (g 47) w) : jO pg lU (bI (bI (gH 1 (hU 1 (cT (gH 4 (bI (gH 1 (bI (bI (gH 2 lO))))))))))) Q g w :=
 lB (kr := no) (l := [(2, fun g w => k2 (g 0) (g 1) w)]) h hn lW ⟨h2, trivial⟩
def FZ (k2 : K2) (rM BG f7 : aDt) (w : aDs) : Prop :=
 kO (fun (X : aDt -> K0) (t : aDt) (w : aDs) => wE (fun _ _ f7 w => X f7 w) k2 rM BG t w) f7 w
theorem SV (k2 : K2) (h2 : E2 Q k2 2 0 1) (h : FZ k2 (g 0) (g 1) (g 47) w) : jO pg lU (bI (gH 1 (hU 1 (cT (gH 4 (bI (gH 1 (bI (bI (gH 2 lO)))))))))) Q g w := by
 refine Od (fun g : Env => g 47) (fun X t w => wE (fun _ _ f7 w => X f7 w) k2 (g 0) (g 1) t w) h (fun X g1 w1 ha hL => ?_)
 rw [<- rG 0 ha, <- rG 1 ha] at hL
 exact (R8 _ g1 w1 (fun _ _ f7 w => X f7 w) k2 (fun _ _ h => h) h2 hL)
def Gz (kn : K2) (rM BG f7 : aDt) (w : aDs) : Prop :=
 FZ kn rM BG f7 w
def FG (kn : K3) (rM BG : aDt) (w : aDs) : Prop :=
 kn rM BG (aDu 0) w
theorem SG (kn : K3) (hn : N3 Q kn 0 1 47) (h : FG kn (g 0) (g 1) w) : jO pg lU (hU 1 (hU 1 (cT (gH 4 (bI (gH 1 (bI (bI (gH 2 lO))))))))) Q g w :=
 lB (kr := no) (l := []) h hn lW trivial
def BL (kn : K2) (rM BG : aDt) (w : aDs) : Prop :=
 FG (fun rM BG f7 w => Gz kn rM BG f7 w) rM BG w
def BB (kn : K2) (rM BG : aDt) (w : aDs) : Prop :=
 BL (fun rM BG w => tD kn rM BG w) rM BG w
theorem Sh (kn : K2) (hn : N2 Q kn 0 1) (h : BL kn (g 0) (g 1) w) : jO pg lU (hU 1 (cT (gH 4 (bI (gH 1 (bI (bI (gH 2 lO)))))))) Q g w :=
 nP 1 (SG _ g w (Gz kn) (fun g w h => iZ (Iu 2 (SV _ g w kn hn h))) h)
def vW (kn : K2) (rM BG : aDt) (w : aDs) : Prop :=
 kn rM BG w
theorem Su (kn : K2) (hn : N2 Q kn 0 1) (h : vW kn (g 0) (g 1) w) : jO pg lU (cE (gH 4 (bI (gH 1 (bI (bI (gH 2 lO))))))) Q g w :=
 lB (kr := no) (l := []) h hn lW trivial
def wG (kn : K2) (rM BG f6 : aDt) (w : aDs) : Prop :=
 mK f6 (BB kn rM BG w) (vW kn rM BG w)
def uJ (kn : K3) (rM BG : aDt) (w : aDs) : Prop :=
 (dr w) = (dr w) /\
 gI pg (nO rM) (dr w) fun d2 w_ => w_ = (dr w) /\
 gI pg (jH 93 d2 1) (dr w) fun d3 w_ => w_ = (dr w) /\
 (dr w) = (dr w) /\
 gI pg (nO rM) (dr w) fun d5 w_ => w_ = (dr w) /\
 gI pg (jH 93 d5 2) (dr w) fun d6 w_ => w_ = (dr w) /\
 gI pg (jF 3 d6) (dr w) fun d7 w_ => w_ = (dr w) /\
 gI pg (lP 91 d3 (some d7) none none) (dr w) fun d8 w_ => w_ = (dr w) /\
 (dr w) = (dr w) /\
 gI pg (oF .copy #[22, 22] 3 [d8, BG]) (dr w) fun e0 axX =>
 axX = axX /\
 gI pg (nO rM) axX fun e2 w =>
 gI pg (jH 93 e2 2) w fun e3 w =>
 gI pg (jF 3 e3) w fun e4 w =>
 gI pg (hZ .add 3 jC jC e4 e0) w fun e6 w =>
 gI pg (nO rM) w fun e7 w =>
 gI pg (jH 93 e7 2) w fun e8 w =>
 gI pg (jQ 3 e8 e6) w fun _u w =>
 gI pg (lP 22 BG (some e0) none none) w fun f1 w =>
 gI pg (nO rM) w fun f3 w =>
 gI pg (jH 93 f3 2) w fun f4 w =>
 gI pg (jF 3 f4) w fun f5 w =>
 gI pg (hZ .eql 3 (.tmp 45) (.const (aDu 32)) f5 (aDu 32)) w fun f6 w =>
 kn rM f1 f6 w
theorem Rk (kn : K3) (hn : N3 Q kn 0 1 46) (h : uJ kn (g 0) (g 1) w) : jO pg lU (hU 4 (bI (gH 1 (bI (bI (gH 2 lO)))))) Q g w :=
 lB (kr := no) (l := []) h hn lW trivial
def Ap (kn : K2) (rM BG : aDt) (w : aDs) : Prop :=
 uJ (fun rM BG f6 w => wG kn rM BG f6 w) rM BG w
def uK (kn : K2) (rM BG : aDt) (w : aDs) : Prop :=
 Ap kn rM BG w
def uM (kn : K2) (k0 : K0) (rM BG : aDt) (w : aDs) : Prop :=
 gI pg (oF .len #[22] 3 [BG]) w fun c9 w =>
 gI pg (hZ .gtr 3 jC jC c9 (aDu 0)) w fun d0 w =>
 mK d0
  (kn rM BG w)
  (k0 w)
theorem Rh (kn : K2) (k0 : K0) (hn : N2 Q kn 0 1) (h0 : E0 Q k0 0) (h : uM kn k0 (g 0) (g 1) w) : jO pg lU (hU 1 (bI (bI (gH 2 lO)))) Q g w :=
 lB (kr := no) (l := [(0, fun g w => k0 w)]) h hn lW ⟨h0, trivial⟩
def sD (kn : K2) (k0 : K0) (rM BG : aDt) (w : aDs) : Prop :=
 uM (fun rM BG w => uK kn rM BG w) k0 rM BG w
def Ax (k0 : K0) (rM BG : aDt) (w : aDs) : Prop :=
 kO (fun (X : aDt -> K0) (t : aDt) (w : aDs) => sD (fun _ BG w => X BG w) k0 rM t w) BG w
theorem Q8 (kn : K2) (k0 : K0) (hn : N2 Q kn 0 1) (h0 : E0 Q k0 0) (h : sD kn k0 (g 0) (g 1) w) : jO pg lU (bI (bI (gH 2 lO))) Q g w :=
 nP 1 (Rh _ g w (uK kn) k0 (fun g w h => iZ (Iu 1 (nP 4 (Rk _ g w (wG kn) (fun g w h => iZ (cdD (.tmp 46) (fun h => (nP 1 (Sh _ g w (tD kn) (fun g w h => iZ (Tf _ g w kn hn h)) h))) (fun h => (Su _ g w kn hn h)) h)) h)))) h0 h)
theorem RH (k0 : K0) (h0 : E0 Q k0 0) (h : Ax k0 (g 0) (g 1) w) : jO pg lU (bI (gH 2 lO)) Q g w := by
 refine Od (fun g : Env => g 1) (fun X t w => sD (fun _ BG w => X BG w) k0 (g 0) t w) h (fun X g1 w1 ha hL => ?_)
 rw [<- rG 0 ha] at hL
 exact (Q8 _ g1 w1 (fun _ BG w => X BG w) k0 (fun _ _ h => h) h0 hL)
def ER (kn : K0) (rM BG : aDt) (w : aDs) : Prop :=
 Ax kn rM BG w
def Ey (kn : K2) (R : K1) (rM BG : aDt) (w : aDs) : Prop :=
 gI pg (hZ .eql 68 (.tmp 6) (.const (.pointer none)) rM (.pointer none)) w fun b7 w =>
 mK b7
  (R (.tuple #[]) w)
  (gI pg (nO rM) w fun b9 w =>
  gI pg (jH 93 b9 3) w fun c0 w =>
  gI pg (jF 32 c0) w fun c1 w =>
  gI pg (oF .len #[22] 3 [BG]) w fun c3 w =>
  gI pg (nI 3 32 c3) w fun c4 w =>
  gI pg (hZ .add 32 jC jC c1 c4) w fun c5 w =>
  gI pg (nO rM) w fun c6 w =>
  gI pg (jH 93 c6 3) w fun c7 w =>
  gI pg (jQ 32 c7 c5) w fun _u w =>
  kn rM BG w)
theorem RE (kn : K2) (R : K1) (hn : N2 Q kn 0 1) (hr : HR Fu R Q) (h : Ey kn R (g 0) (g 1) w) : jO pg lU (hU 2 lO) Q g w :=
 lB (l := []) h hn hr trivial
def Ew (kn : K0) (R : K1) (rM BG : aDt) (w : aDs) : Prop :=
 Ey (fun rM BG w => ER kn rM BG w) R rM BG w
theorem RG (kn : K0) (R : K1) (hn : N0 Q kn) (hr : HR Fu R Q) (h : Ew kn R (g 0) (g 1) w) : jO pg lU lO Q g w :=
 nP 2 (RE _ g w (ER kn) R (fun g w h => iZ (Iu 0 (RH _ g w kn hn h))) hr h)
def Sp (a0 a1 : aDt) (w : aDs) (R : K1) : Prop :=
 Ew (fun  w => R (.tuple #[]) w) R a0 a1 w
theorem Un {a0 a1 : aDt} {w : aDs} {R : K1} (h : Sp a0 a1 w R) : jE pg Ct #[a0, a1] w R := by
 refine yX (ann := lU) Tryz.f34 lO [a0, a1] Fu 76 TryzM.mixed Tryz.func34 ?_
 exact (RG _ _ _ (fun  w => R (.tuple #[]) w) R (fun _ _ h => h) (fun _ _ h => h) h)
def nF : FA := ⟨Gt, fun i => match Nat.beq i 3 with | true => .leaf ([1], [(1, 3), (1, 4), (1, 5)]) [(false, []), (true, []), (false, []), (false, [1]), (false, [2]), (false, [3]), (false, []), (false, [])] | false => match Nat.beq i 4 with | true => .leaf ([], []) [(false, []), (false, []), (false, []), (false, []), (false, []), (false, []), (false, []), (false, []), (false, [])] | false => .leaf ([], []) []⟩
def Ed : List ResultVar := [.tmp 2]
noncomputable def mY : Code := kA Tryz.f35
def D5 (R : K1) (pE : aDt) (w : aDs) : Prop :=
 gI pg (hZ .shr 32 jC jC pE (.int .u64 33)) w fun j9 w =>
 gI pg (hZ .xor 32 jC jC pE j9) w fun l0 w =>
 gI pg (hZ .mul 32 jC jC l0 (.int .u64 14029467366897019727)) w fun l1 w =>
 gI pg (hZ .shr 32 jC jC l1 (.int .u64 29)) w fun l4 w =>
 gI pg (hZ .xor 32 jC jC l1 l4) w fun l5 w =>
 gI pg (hZ .mul 32 jC jC l5 (.int .u64 1609587929392839161)) w fun l6 w =>
 gI pg (hZ .shr 32 jC jC l6 (.int .u64 32)) w fun l9 w =>
 gI pg (hZ .xor 32 jC jC l6 l9) w fun m0 w =>
 R m0 w
theorem U2 (R : K1) (hr : HR Ed R Q) (h : D5 R (g 3) w) : jO pg nF (gH 1 (gH 1 (gH 1 (gH 4 mY)))) Q g w :=
 lB (kn := no) (l := []) h lW hr trivial
def AJ (kn : K4) (k2 : K1) (pE i3 i4 i5 : aDt) (w : aDs) : Prop :=
 gI pg (hZ .lss 3 jC jC i5 i4) w fun i6 w =>
 mK i6
  (gI pg (jS 22 i3 i5) w fun i7 w =>
  gI pg (jF 5 i7) w fun i8 w =>
  gI pg (nI 5 32 i8) w fun j1 w =>
  gI pg (hZ .mul 32 jC jC j1 (.int .u64 2870177450012600261)) w fun j2 w =>
  gI pg (hZ .xor 32 jC jC pE j2) w fun j3 w =>
  jE pg mS #[j3, (aDu 11)] w fun j4 w =>
  gI pg (hZ .mul 32 jC jC j4 (.int .u64 11400714785074694791)) w fun j5 w =>
  gI pg (hZ .add 3 jC jC i5 (aDu 1)) w fun j6 w =>
  kn j5 i3 i4 j6 w)
  (k2 pE w)
theorem Vg (kn : K4) (k2 : K1) (hn : N4 Q kn 3 53 54 55) (h2 : E1 Q k2 2 3) (h : AJ kn k2 (g 3) (g 53) (g 54) (g 55) w) : jO pg nF (bI (bI (gH 1 (hU 1 (gH 1 (gH 1 (gH 4 mY))))))) Q g w :=
 lB (kr := no) (l := [(2, fun g w => k2 (g 3) w)]) h hn lW ⟨h2, trivial⟩
def I9 (k2 : K1) (pE i3 i4 i5 : aDt) (w : aDs) : Prop :=
 kO (fun (X : (aDt × aDt) -> K0) (t : aDt × aDt) (w : aDs) => AJ (fun pE _ _ i5 w => X (pE, i5) w) k2 t.1 i3 i4 t.2 w) (pE, i5) w
theorem VE (k2 : K1) (h2 : E1 Q k2 2 3) (h : I9 k2 (g 3) (g 53) (g 54) (g 55) w) : jO pg nF (bI (gH 1 (hU 1 (gH 1 (gH 1 (gH 4 mY)))))) Q g w := by
 refine Od (fun g : Env => (g 3, g 55)) (fun X t w => AJ (fun pE _ _ i5 w => X (pE, i5) w) k2 t.1 (g 53) (g 54) t.2 w) h (fun X g1 w1 ha hL => ?_)
 rw [<- rG 53 ha, <- rG 54 ha] at hL
 exact (Vg _ g1 w1 (fun pE _ _ i5 w => X (pE, i5) w) k2 (fun _ _ h => h) h2 hL)
def I6 (kn : K1) (pE i3 i4 i5 : aDt) (w : aDs) : Prop :=
 I9 kn pE i3 i4 i5 w
def Jk (kn : K4) (pE Oe : aDt) (w : aDs) : Prop :=
 gI pg (oF .len #[22] 3 [Oe]) w fun i4 w =>
 kn pE Oe i4 (aDu 0) w
theorem Vu (kn : K4) (hn : N4 Q kn 3 53 54 55) (h : Jk kn (g 3) (g 4) w) : jO pg nF (hU 1 (hU 1 (gH 1 (gH 1 (gH 4 mY))))) Q g w :=
 lB (kr := no) (l := []) h hn lW trivial
def Jf (kn : K1) (pE Oe : aDt) (w : aDs) : Prop :=
 Jk (fun pE i3 i4 i5 w => I6 kn pE i3 i4 i5 w) pE Oe w
def D9 (R : K1) (pE Oe : aDt) (w : aDs) : Prop :=
 Jf (fun pE w => D5 R pE w) pE Oe w
theorem Vl (kn : K1) (hn : N1 Q kn 3) (h : Jf kn (g 3) (g 4) w) : jO pg nF (hU 1 (gH 1 (gH 1 (gH 4 mY)))) Q g w :=
 nP 1 (Vu _ g w (I6 kn) (fun g w h => iZ (Iu 2 (VE _ g w kn hn h))) h)
def D8 (kn : K2) (pE Oe : aDt) (w : aDs) : Prop :=
 gI pg (oF .len #[22] 3 [Oe]) w fun f0 w =>
 gI pg (hZ .geq 3 jC jC f0 (aDu 4)) w fun f1 w =>
 mK f1
  (gI pg (lP 22 Oe none (some (aDu 4)) none) w fun f4 w =>
  jE pg CB #[f4] w fun f5 w =>
  gI pg (hZ .mul 32 jC jC f5 (.int .u64 11400714785074694791)) w fun f6 w =>
  gI pg (hZ .xor 32 jC jC pE f6) w fun f7 w =>
  jE pg mS #[f7, (aDu 23)] w fun f8 w =>
  gI pg (hZ .mul 32 jC jC f8 (.int .u64 14029467366897019727)) w fun f9 w =>
  gI pg (hZ .add 32 jC jC f9 (.int .u64 1609587929392839161)) w fun i0 w =>
  gI pg (lP 22 Oe (some (aDu 4)) none none) w fun i2 w =>
  kn i0 i2 w)
  (kn pE Oe w)
theorem VG (kn : K2) (hn : N2 Q kn 3 4) (h : D8 kn (g 3) (g 4) w) : jO pg nF (hU 1 (gH 1 (gH 4 mY))) Q g w :=
 lB (kr := no) (l := []) h hn lW trivial
def D6 (R : K1) (pE Oe : aDt) (w : aDs) : Prop :=
 D8 (fun pE Oe w => D9 R pE Oe w) pE Oe w
def yU (kn : K2) (k0 : K2) (pE Oe : aDt) (w : aDs) : Prop :=
 gI pg (oF .len #[22] 3 [Oe]) w fun d6 w =>
 gI pg (hZ .geq 3 jC jC d6 (aDu 8)) w fun d7 w =>
 mK d7
  (gI pg (lP 22 Oe none (some (aDu 8)) none) w fun e0 w =>
  jE pg CB #[e0] w fun e1 w =>
  jE pg Ff #[(.int .u64 0), e1] w fun e2 w =>
  gI pg (hZ .xor 32 jC jC pE e2) w fun e3 w =>
  jE pg mS #[e3, (aDu 27)] w fun e4 w =>
  gI pg (hZ .mul 32 jC jC e4 (.int .u64 11400714785074694791)) w fun e5 w =>
  gI pg (hZ .add 32 jC jC e5 (.int .u64 9650029242287828579)) w fun e6 w =>
  gI pg (lP 22 Oe (some (aDu 8)) none none) w fun e8 w =>
  kn e6 e8 w)
  (k0 pE Oe w)
theorem Uf (kn : K2) (k0 : K2) (hn : N2 Q kn 3 4) (h0 : E2 Q k0 0 3 4) (h : yU kn k0 (g 3) (g 4) w) : jO pg nF (bI (bI (hU 1 (gH 4 mY)))) Q g w :=
 lB (kr := no) (l := [(0, fun g w => k0 (g 3) (g 4) w)]) h hn lW ⟨h0, trivial⟩
def HD (k0 : K2) (pE Oe : aDt) (w : aDs) : Prop :=
 kO (fun (X : (aDt × aDt) -> K0) (t : aDt × aDt) (w : aDs) => yU (fun pE Oe w => X (pE, Oe) w) k0 t.1 t.2 w) (pE, Oe) w
theorem UA (k0 : K2) (h0 : E2 Q k0 0 3 4) (h : HD k0 (g 3) (g 4) w) : jO pg nF (bI (hU 1 (gH 4 mY))) Q g w := by
 refine Od (fun g : Env => (g 3, g 4)) (fun X t w => yU (fun pE Oe w => X (pE, Oe) w) k0 t.1 t.2 w) h (fun X g1 w1 ha hL => ?_)
 exact (Uf _ g1 w1 (fun pE Oe w => X (pE, Oe) w) k0 (fun _ _ h => h) h0 hL)
def H0 (kn : K2) (pE Oe : aDt) (w : aDs) : Prop :=
 HD kn pE Oe w
def Cx (R : K1) (pE Oe : aDt) (w : aDs) : Prop :=
 H0 (fun pE Oe w => D6 R pE Oe w) pE Oe w
theorem Uv (kn : K2) (hn : N2 Q kn 3 4) (h : H0 kn (g 3) (g 4) w) : jO pg nF (hU 1 (gH 4 mY)) Q g w :=
 Iu 0 (UA _ g w kn hn h)
def Hs (kn : K2) (R : K1) (rM : aDt) (w : aDs) : Prop :=
 gI pg (hZ .eql 68 (.tmp 7) (.const (.pointer none)) rM (.pointer none)) w fun b8 w =>
 mK b8
  (jE pg Om #[(.slice none 0 0)] w fun b9 w =>
  R b9 w)
  ((dr w) = (dr w) /\
  jE pg BD #[rM] (dr w) fun c1 yI =>
  yI = yI /\
  gI pg (nO rM) yI fun c3 w_ => w_ = yI /\
  (jD pg (nO rM) c3 (dr w) /\ True) /\
  gI pg (jH 93 c3 3) yI fun c4 w_ => w_ = yI /\
  (jD pg (jH 93 c3 3) c4 (dr w) /\ True) /\
  gI pg (jF 32 c4) yI fun c5 w_ => w_ = yI /\
  (jD pg (jF 32 c4) c5 (dr w) /\ True) /\
  gI pg (hZ .add 32 jC jC c1 c5) yI fun c6 w_ => w_ = yI /\
  yI = yI /\
  (dr yI) = (dr yI) /\
  gI pg (nO rM) (dr yI) fun c8 w_ => w_ = (dr yI) /\
  gI pg (jH 93 c8 1) (dr yI) fun c9 w_ => w_ = (dr yI) /\
  (dr yI) = (dr yI) /\
  gI pg (nO rM) (dr yI) fun d1 w_ => w_ = (dr yI) /\
  gI pg (jH 93 d1 2) (dr yI) fun d2 w_ => w_ = (dr yI) /\
  gI pg (jF 3 d2) (dr yI) fun d3 w_ => w_ = (dr yI) /\
  gI pg (lP 91 c9 none (some d3) none) (dr yI) fun d4 w_ => w_ = (dr yI) /\
  (dr yI) = (dr yI) /\
  kn c6 d4 (dr yI))
theorem Ua (kn : K2) (R : K1) (hn : N2 Q kn 3 4) (hr : HR Ed R Q) (h : Hs kn R (g 0) w) : jO pg nF (hU 4 mY) Q g w :=
 lB (l := []) h hn hr trivial
def HU (R : K1) (rM : aDt) (w : aDs) : Prop :=
 Hs (fun pE Oe w => Cx R pE Oe w) R rM w
theorem UC (R : K1) (hr : HR Ed R Q) (h : HU R (g 0) w) : jO pg nF mY Q g w :=
 nP 4 (Ua _ g w (Cx R) R (fun g w h => iZ (nP 1 (Uv _ g w (D6 R) (fun g w h => iZ (nP 1 (VG _ g w (D9 R) (fun g w h => iZ (nP 1 (Vl _ g w (D5 R) (fun g w h => iZ (U2 _ g w R hr h)) h))) h))) h))) hr h)
def Xr (a0 : aDt) (w : aDs) (R : K1) : Prop :=
 HU R a0 w
theorem VY {a0 : aDt} {w : aDs} {R : K1} (h : Xr a0 w R) : jE pg Gt #[a0] w R := by
 refine yX (ann := nF) Tryz.f35 mY [a0] Ed 81 TryzM.mixed Tryz.func35 ?_
 exact (UC _ _ _ R (fun _ _ h => h) h)
def IQ : FA := ⟨pX, fun i => .leaf ([], []) []⟩
def Jw : List ResultVar := [.tmp 2]
noncomputable def G9 : Code := kA Tryz.f36
def CY (R : K1) (nQ : aDt) (w : aDs) : Prop :=
 jE pg rN #[nQ] w fun b4 w =>
 gI pg (kY 97 [(0, b4)]) w fun b5 w =>
 gI pg (Ru 97 b5) w fun b6 w =>
 R b6 w
theorem P4 (R : K1) (hr : HR Jw R Q) (h : CY R (g 0) w) : jO pg IQ G9 Q g w :=
 lB (kn := no) (l := []) h lW hr trivial
def O5 (a0 : aDt) (w : aDs) (R : K1) : Prop :=
 CY R a0 w
theorem Rz {a0 : aDt} {w : aDs} {R : K1} (h : O5 a0 w R) : jE pg pX #[a0] w R := by
 refine yX (ann := IQ) Tryz.f36 G9 [a0] Jw 7 TryzM.mixed Tryz.func36 ?_
 exact (P4 _ _ _ R (fun _ _ h => h) h)
def FC : FA := ⟨oR, fun i => .leaf ([], []) []⟩
def Hd : List ResultVar := [.tmp 2]
noncomputable def Fj : Code := kA Tryz.f37
def Bt (R : K1) (Vf : aDt) (w : aDs) : Prop :=
 gI pg (hZ .eql 54 (.tmp 3) (.const (.pointer none)) Vf (.pointer none)) w fun b4 w =>
 mK b4
  (R (aDu 0) w)
  (gI pg (nO Vf) w fun b6 w =>
  gI pg (jH 97 b6 0) w fun b7 w =>
  gI pg (jF 22 b7) w fun b8 w =>
  gI pg (oF .len #[22] 3 [b8]) w fun b9 w =>
  R b9 w)
theorem Nv (R : K1) (hr : HR Hd R Q) (h : Bt R (g 0) w) : jO pg FC Fj Q g w :=
 lB (kn := no) (l := []) h lW hr trivial
def KL (a0 : aDt) (w : aDs) (R : K1) : Prop :=
 Bt R a0 w
theorem Pn {a0 : aDt} {w : aDs} {R : K1} (h : KL a0 w R) : jE pg oR #[a0] w R := by
 refine yX (ann := FC) Tryz.f37 Fj [a0] Hd 10 TryzM.mixed Tryz.func37 ?_
 exact (Nv _ _ _ R (fun _ _ h => h) h)
def mR : FA := ⟨lA, fun i => .leaf ([], []) []⟩
def tF : List ResultVar := [.tmp 4]
noncomputable def mM : Code := kA Tryz.f38
def tC (R : K1) (UN : aDt) (w : aDs) : Prop :=
 R UN w
theorem KB (R : K1) (hr : HR tF R Q) (h : tC R (g 5) w) : jO pg mR (gH 1 (gH 3 mM)) Q g w :=
 lB (kn := no) (l := []) h lW hr trivial
def tA (kn : K4) (k0 : K1) (UN c8 c9 d0 : aDt) (w : aDs) : Prop :=
 gI pg (hZ .lss 3 jC jC d0 c9) w fun d1 w =>
 mK d1
  (gI pg (jS 22 c8 d0) w fun d3 w =>
  gI pg (jF 5 d3) w fun d4 w =>
  gI pg (nI 5 32 d4) w fun d7 w =>
  gI pg (hZ .mul 3 jC jC (aDu 8) d0) w fun d9 w =>
  gI pg (nI 3 50 d9) w fun e0 w =>
  gI pg (hZ .shl 32 jC jC d7 e0) w fun e1 w =>
  gI pg (hZ .or 32 jC jC UN e1) w fun e2 w =>
  gI pg (hZ .add 3 jC jC d0 (aDu 1)) w fun e3 w =>
  kn e2 c8 c9 e3 w)
  (k0 UN w)
theorem Kn (kn : K4) (k0 : K1) (hn : N4 Q kn 5 18 19 20) (h0 : E1 Q k0 0 5) (h : tA kn k0 (g 5) (g 18) (g 19) (g 20) w) : jO pg mR (bI (bI (gH 1 (hU 1 (gH 3 mM))))) Q g w :=
 lB (kr := no) (l := [(0, fun g w => k0 (g 5) w)]) h hn lW ⟨h0, trivial⟩
def xT (k0 : K1) (UN c8 c9 d0 : aDt) (w : aDs) : Prop :=
 kO (fun (X : (aDt × aDt) -> K0) (t : aDt × aDt) (w : aDs) => tA (fun UN _ _ d0 w => X (UN, d0) w) k0 t.1 c8 c9 t.2 w) (UN, d0) w
theorem Lh (k0 : K1) (h0 : E1 Q k0 0 5) (h : xT k0 (g 5) (g 18) (g 19) (g 20) w) : jO pg mR (bI (gH 1 (hU 1 (gH 3 mM)))) Q g w := by
 refine Od (fun g : Env => (g 5, g 20)) (fun X t w => tA (fun UN _ _ d0 w => X (UN, d0) w) k0 t.1 (g 18) (g 19) t.2 w) h (fun X g1 w1 ha hL => ?_)
 rw [<- rG 18 ha, <- rG 19 ha] at hL
 exact (Kn _ g1 w1 (fun UN _ _ d0 w => X (UN, d0) w) k0 (fun _ _ h => h) h0 hL)
def xS (kn : K1) (UN c8 c9 d0 : aDt) (w : aDs) : Prop :=
 xT kn UN c8 c9 d0 w
def yV (kn : K4) (Vf G2 UN : aDt) (w : aDs) : Prop :=
 gI pg (hZ .geq 3 jC jC G2 (aDu 1)) w fun c3 w =>
 Gd (kR c3 true) (fun K => K G2 w) w fun c5 w =>
 Gd (kR c3 true) (fun K => gI pg (hZ .leq 3 jC jC c5 (aDu 8)) w K) w fun c6 w =>
 gI pg (nD c3 c6 (.bool false)) w fun c7 w =>
 jE pg sR #[Vf, G2, c7] w fun c8 w =>
 gI pg (oF .len #[22] 3 [c8]) w fun c9 w =>
 kn UN c8 c9 (aDu 0) w
theorem J2 (kn : K4) (hn : N4 Q kn 5 18 19 20) (h : yV kn (g 0) (g 1) (g 5) w) : jO pg mR (hU 1 (hU 1 (gH 3 mM))) Q g w :=
 lB (kr := no) (l := []) h hn lW trivial
def xP (kn : K1) (Vf G2 UN : aDt) (w : aDs) : Prop :=
 yV (fun UN c8 c9 d0 w => xS kn UN c8 c9 d0 w) Vf G2 UN w
def yK (R : K1) (Vf G2 UN : aDt) (w : aDs) : Prop :=
 xP (fun UN w => tC R UN w) Vf G2 UN w
theorem Lv (kn : K1) (hn : N1 Q kn 5) (h : xP kn (g 0) (g 1) (g 5) w) : jO pg mR (hU 1 (gH 3 mM)) Q g w :=
 nP 1 (J2 _ g w (xS kn) (fun g w h => iZ (Iu 0 (Lh _ g w kn hn h))) h)
def yR (kn : K3) (R : K1) (Vf G2 : aDt) (w : aDs) : Prop :=
 gI pg (hZ .eql 54 (.tmp 8) (.const (.pointer none)) Vf (.pointer none)) w fun b9 w =>
 mK b9
  (R (.int .u64 0) w)
  (kn Vf G2 (.int .u64 0) w)
theorem Lp (kn : K3) (R : K1) (hn : N3 Q kn 0 1 5) (hr : HR tF R Q) (h : yR kn R (g 0) (g 1) w) : jO pg mR (hU 3 mM) Q g w :=
 lB (l := []) h hn hr trivial
def yJ (R : K1) (Vf G2 : aDt) (w : aDs) : Prop :=
 yR (fun Vf G2 UN w => yK R Vf G2 UN w) R Vf G2 w
theorem Kk (R : K1) (hr : HR tF R Q) (h : yJ R (g 0) (g 1) w) : jO pg mR mM Q g w :=
 nP 3 (Lp _ g w (yK R) R (fun g w h => iZ (nP 1 (Lv _ g w (tC R) (fun g w h => iZ (KB _ g w R hr h)) h))) hr h)
def IT (a0 a1 : aDt) (w : aDs) (R : K1) : Prop :=
 yJ R a0 a1 w
theorem Mg {a0 a1 : aDt} {w : aDs} {R : K1} (h : IT a0 a1 w R) : jE pg lA #[a0, a1] w R := by
 refine yX (ann := mR) Tryz.f38 mM [a0, a1] tF 35 TryzM.mixed Tryz.func38 ?_
 exact (Kk _ _ _ R (fun _ _ h => h) h)
def Hc : FA := ⟨lY, fun i => .leaf ([], []) []⟩
def IG : List ResultVar := [.tmp 2]
noncomputable def Fy : Code := kA Tryz.f39
def B2 (R : K1) (Vf : aDt) (w : aDs) : Prop :=
 gI pg (hZ .eql 54 (.tmp 3) (.const (.pointer none)) Vf (.pointer none)) w fun b4 w =>
 mK b4
  (R (aDu 1) w)
  (gI pg (nO Vf) w fun b6 w =>
  gI pg (jH 97 b6 1) w fun b7 w =>
  gI pg (jF 24 b7) w fun b8 w =>
  R b8 w)
theorem O0 (R : K1) (hr : HR IG R Q) (h : B2 R (g 0) w) : jO pg Hc Fy Q g w :=
 lB (kn := no) (l := []) h lW hr trivial
def Mi (a0 : aDt) (w : aDs) (R : K1) : Prop :=
 B2 R a0 w
theorem Px {a0 : aDt} {w : aDs} {R : K1} (h : Mi a0 w R) : jE pg lY #[a0] w R := by
 refine yX (ann := Hc) Tryz.f39 Fy [a0] IG 9 TryzM.mixed Tryz.func39 ?_
 exact (O0 _ _ _ R (fun _ _ h => h) h)
def mO : FA := ⟨wH, fun i => match Nat.beq i 1 with | true => .leaf ([8, 9], [(1, 8), (2, 8), (3, 8)]) [(false, []), (false, []), (false, []), (false, []), (false, []), (false, []), (false, []), (false, []), (true, [4, 5, 6]), (true, []), (false, [])] | false => match Nat.beq i 6 with | true => .leaf ([], []) [(false, []), (false, []), (false, []), (false, []), (false, []), (false, []), (false, []), (false, []), (false, []), (false, []), (false, []), (false, []), (false, []), (false, []), (false, []), (false, []), (false, []), (false, []), (false, []), (false, []), (false, []), (false, []), (false, []), (false, []), (false, []), (false, []), (false, [])] | false => .leaf ([], []) []⟩
def nV : List ResultVar := [.tmp 2]
noncomputable def mI : Code := kA Tryz.f40
def pJ (R : K1) (pN sY : aDt) (w : aDs) : Prop :=
 gI pg (nO pN) w fun p1 w =>
 gI pg (jH 56 p1 3) w fun p2 w =>
 gI pg (jF 22 p2) w fun p3 w =>
 gI pg (oF .append #[22, 22] 22 [p3, sY]) w fun p5 w =>
 gI pg (nO pN) w fun p6 w =>
 gI pg (jH 56 p6 3) w fun p7 w =>
 gI pg (jQ 22 p7 p5) w fun _u w =>
 gI pg (nO pN) w fun p9 w =>
 gI pg (jH 56 p9 4) w fun q0 w =>
 gI pg (jF 3 q0) w fun q1 w =>
 gI pg (hZ .add 3 jC jC q1 (aDu 1)) w fun q2 w =>
 gI pg (nO pN) w fun q3 w =>
 gI pg (jH 56 q3 4) w fun q4 w =>
 gI pg (jQ 3 q4 q2) w fun _u w =>
 R (aDu 0) w
theorem NV (R : K1) (hr : HR nV R Q) (h : pJ R (g 0) (g 8) w) : jO pg mO (gH 2 (gH 1 (gH 8 (bI (gH 1 mI))))) Q g w :=
 lB (kn := no) (l := []) h lW hr trivial
def AV (kn : K2) (R : K1) (pN VD sY : aDt) (w : aDs) : Prop :=
 gI pg (jH 101 VD 2) w fun n1 w =>
 gI pg (jF 4 n1) w fun n2 w =>
 Gd (kR n2 true) (fun K => K sY w) w fun n4 w =>
 Gd (kR n2 true) (fun K => gI pg (oF .len #[22] 3 [n4]) w K) w fun n5 w =>
 Gd (kR n2 true) (fun K => gI pg (nI 3 32 n5) w K) w fun n6 w =>
 Gd (kR n2 true) (fun K => gI pg (jH 101 VD 1) w K) w fun n7 w =>
 Gd (kR n2 true) (fun K => gI pg (jF 32 n7) w K) w fun n8 w =>
 Gd (kR n2 true) (fun K => gI pg (hZ .neq 32 (.tmp 96) (.tmp 98) n6 n8) w K) w fun n9 w =>
 gI pg (nD n2 n9 (.bool false)) w fun o0 w =>
 mK o0
  (R (aDu 11) w)
  (gI pg (jH 101 VD 3) w fun o1 w =>
  gI pg (jF 4 o1) w fun o2 w =>
  mK o2
   (jE pg rV #[pN, sY] w fun o5 w =>
   gI pg (hZ .neq 24 (.tmp 106) (.const (aDu 0)) o5 (aDu 0)) w fun o7 w =>
   mK o7
    (R o5 w)
    (kn pN sY w))
   (kn pN sY w))
theorem MW (kn : K2) (R : K1) (hn : N2 Q kn 0 8) (hr : HR nV R Q) (h : AV kn R (g 0) (g 4) (g 8) w) : jO pg mO (hU 2 (gH 1 (gH 8 (bI (gH 1 mI))))) Q g w :=
 lB (l := []) h hn hr trivial
def rX (R : K1) (pN VD sY : aDt) (w : aDs) : Prop :=
 AV (fun pN sY w => pJ R pN sY w) R pN VD sY w
def uX (kn : K4) (k0 : K3) (R : K1) (pN VD g_7 sY : aDt) (w : aDs) : Prop :=
 gI pg (jF 110 g_7) w fun j9 w =>
 gI pg (jH 101 VD 0) w fun l0 w =>
 gI pg (jF 32 l0) w fun l1 w =>
 jE pg vR #[pN, sY, j9, l1] w fun l2 w =>
 gI pg (jZ l2 0) w fun l3 w =>
 gI pg (jZ l2 1) w fun l4 w =>
 gI pg (jZ l2 2) w fun l5 w =>
 gI pg (jZ l2 3) w fun l6 w =>
 gI pg (jQ 110 g_7 l4) w fun _u w =>
 gI pg (hZ .neq 24 (.tmp 77) (.const (aDu 0)) l6 (aDu 0)) w fun l8 w =>
 mK l8
  (R l6 w)
  (gI pg (jH 101 VD 2) w fun m0 w =>
  gI pg (jF 4 m0) w fun m1 w =>
  Gd (kR m1 true) (fun K => K l3 w) w fun m3 w =>
  Gd (kR m1 true) (fun K => gI pg (oF .len #[22] 3 [m3]) w K) w fun m4 w =>
  Gd (kR m1 true) (fun K => gI pg (nI 3 32 m4) w K) w fun m5 w =>
  Gd (kR m1 true) (fun K => gI pg (jH 101 VD 1) w K) w fun m6 w =>
  Gd (kR m1 true) (fun K => gI pg (jF 32 m6) w K) w fun m7 w =>
  Gd (kR m1 true) (fun K => gI pg (hZ .gtr 32 jC jC m5 m7) w K) w fun m8 w =>
  gI pg (nD m1 m8 (.bool false)) w fun m9 w =>
  mK m9
   (R (aDu 11) w)
   (mK l5
    (k0 pN VD l3 w)
    (kn pN VD g_7 l3 w)))
theorem No (kn : K4) (k0 : K3) (R : K1) (hn : N4 Q kn 0 4 7 8) (h0 : E3 Q k0 0 0 4 8) (hr : HR nV R Q) (h : uX kn k0 R (g 0) (g 4) (g 7) (g 8) w) : jO pg mO (bI (bI (hU 1 (gH 8 (bI (gH 1 mI)))))) Q g w :=
 lB (l := [(0, fun g w => k0 (g 0) (g 4) (g 8) w)]) h hn hr ⟨h0, trivial⟩
def AT (k0 : K3) (R : K1) (pN VD g_7 sY : aDt) (w : aDs) : Prop :=
 kO (fun (X : aDt -> K0) (t : aDt) (w : aDs) => uX (fun _ _ _ sY w => X sY w) k0 R pN VD g_7 t w) sY w
theorem NT (k0 : K3) (R : K1) (h0 : E3 Q k0 0 0 4 8) (hr : HR nV R Q) (h : AT k0 R (g 0) (g 4) (g 7) (g 8) w) : jO pg mO (bI (hU 1 (gH 8 (bI (gH 1 mI))))) Q g w := by
 refine Od (fun g : Env => g 8) (fun X t w => uX (fun _ _ _ sY w => X sY w) k0 R (g 0) (g 4) (g 7) t w) h (fun X g1 w1 ha hL => ?_)
 rw [<- rG 0 ha, <- rG 4 ha, <- rG 7 ha] at hL
 exact (No _ g1 w1 (fun _ _ _ sY w => X sY w) k0 R (fun _ _ h => h) h0 hr hL)
def AR (kn : K3) (R : K1) (pN VD g_7 sY : aDt) (w : aDs) : Prop :=
 AT kn R pN VD g_7 sY w
def sC (R : K1) (pN VD g_7 sY : aDt) (w : aDs) : Prop :=
 AR (fun pN VD sY w => rX R pN VD sY w) R pN VD g_7 sY w
theorem Nc (kn : K3) (R : K1) (hn : N3 Q kn 0 4 8) (hr : HR nV R Q) (h : AR kn R (g 0) (g 4) (g 7) (g 8) w) : jO pg mO (hU 1 (gH 8 (bI (gH 1 mI)))) Q g w :=
 Iu 0 (NT _ g w kn R hn hr h)
def Bo (kn : K4) (R : K1) (pN : aDt) (w : aDs) : Prop :=
 (dr w) = (dr w) /\
 gI pg (nO pN) (dr w) fun c2 w_ => w_ = (dr w) /\
 gI pg (jH 56 c2 0) (dr w) fun c3 w_ => w_ = (dr w) /\
 gI pg (jF 54 c3) (dr w) fun c4 w_ => w_ = (dr w) /\
 (dr w) = (dr w) /\
 gI pg (nO pN) (dr w) fun c6 w_ => w_ = (dr w) /\
 gI pg (jH 56 c6 0) (dr w) fun c7 w_ => w_ = (dr w) /\
 gI pg (jF 54 c7) (dr w) fun c8 w_ => w_ = (dr w) /\
 jE pg oR #[c8] (dr w) fun c9 avG =>
 (jD pg (jF 54 c3) c4 avG /\ jD pg (jH 56 c2 0) c3 avG /\ jD pg (nO pN) c2 avG /\ True) /\
 jE pg qK #[c4, c9] avG fun d0 axS =>
 axS = axS /\
 jE pg JF #[d0] axS fun d3 w =>
 gI pg (jZ d3 0) w fun d4 w =>
 gI pg (jZ d3 1) w fun d5 w =>
 gI pg (jZ d3 2) w fun d6 w =>
 gI pg (oM 101) w fun VD w =>
 gI pg (jQ 101 VD d4) w fun _u w =>
 gI pg (hZ .neq 24 (.tmp 27) (.const (aDu 0)) d6 (aDu 0)) w fun d8 w =>
 mK d8
  (R d6 w)
  (gI pg (lP 22 d0 (some d5) none none) w fun e3 w =>
  jE pg pX #[e3] w fun e4 w =>
  gI pg (nO pN) w fun e5 w =>
  gI pg (jH 56 e5 0) w fun e6 w =>
  gI pg (jQ 54 e6 e4) w fun _u w =>
  gI pg (jH 101 VD 0) (dr w) fun e7 w_ => w_ = (dr w) /\
  gI pg (jF 32 e7) (dr w) fun e8 w_ => w_ = (dr w) /\
  (dr w) = (dr w) /\
  gI pg (nO pN) (dr w) fun f0 w_ => w_ = (dr w) /\
  gI pg (jH 56 f0 1) (dr w) fun f1 w_ => w_ = (dr w) /\
  gI pg (jF 32 f1) (dr w) fun f2 w_ => w_ = (dr w) /\
  gI pg (hZ .gtr 32 jC jC e8 f2) (dr w) fun f3 w_ => w_ = (dr w) /\
  (dr w) = (dr w) /\
  Gd (kR f3 false) (fun K => gI pg (jH 101 VD 2) (dr w) K) (dr w) fun f5 w_ => w_ = (dr w) /\
  Gd (kR f3 false) (fun K => gI pg (jF 4 f5) (dr w) K) (dr w) fun f6 w_ => w_ = (dr w) /\
  Gd (kR f3 false) (fun K => K f6 (dr w)) (dr w) fun f7 w_ => w_ = (dr w) /\
  Gd (kR f7 true) (fun K => gI pg (jH 101 VD 1) (dr w) K) (dr w) fun f8 w_ => w_ = (dr w) /\
  Gd (kR f7 true) (fun K => gI pg (jF 32 f8) (dr w) K) (dr w) fun f9 w_ => w_ = (dr w) /\
  Gd (kR f7 true) (fun K => K pN (dr w)) (dr w) fun i0 w_ => w_ = (dr w) /\
  Gd (kR f7 true) (fun K => gI pg (nO i0) (dr w) K) (dr w) fun i1 w_ => w_ = (dr w) /\
  Gd (kR f7 true) (fun K => gI pg (jH 56 i1 2) (dr w) K) (dr w) fun i2 w_ => w_ = (dr w) /\
  Gd (kR f7 true) (fun K => gI pg (jF 3 i2) (dr w) K) (dr w) fun i3 w_ => w_ = (dr w) /\
  Gd (kR f7 true) (fun K => K pN (dr w)) (dr w) fun i4 w_ => w_ = (dr w) /\
  Gd (kR f7 true) (fun K => gI pg (nO i4) (dr w) K) (dr w) fun i5 w_ => w_ = (dr w) /\
  Gd (kR f7 true) (fun K => gI pg (jH 56 i5 3) (dr w) K) (dr w) fun i6 w_ => w_ = (dr w) /\
  Gd (kR f7 true) (fun K => gI pg (jF 22 i6) (dr w) K) (dr w) fun i7 w_ => w_ = (dr w) /\
  Gd (kR f7 true) (fun K => gI pg (oF .len #[22] 3 [i7]) (dr w) K) (dr w) fun i8 w_ => w_ = (dr w) /\
  Gd (kR f7 true) (fun K => gI pg (hZ .sub 3 jC jC i3 i8) (dr w) K) (dr w) fun i9 w_ => w_ = (dr w) /\
  Gd (kR f7 true) (fun K => gI pg (nI 3 32 i9) (dr w) K) (dr w) fun j0 w_ => w_ = (dr w) /\
  Gd (kR f7 true) (fun K => gI pg (hZ .gtr 32 jC jC f9 j0) (dr w) K) (dr w) fun j1 w_ => w_ = (dr w) /\
  Gd (kR f3 false) (fun K => gI pg (nD f7 j1 (.bool false)) (dr w) K) (dr w) fun j2 w_ => w_ = (dr w) /\
  gI pg (nD f3 (.bool true) j2) (dr w) fun j3 w_ => w_ = (dr w) /\
  mK j3
   (R (aDu 12) (dr w))
   (jE pg vL #[] (dr w) fun j4 w =>
   gI pg (kY 110 [(2, j4)]) w fun j5 w =>
   gI pg (oM 110) w fun g_7 w =>
   gI pg (jQ 110 g_7 j5) w fun _u w =>
   kn pN VD g_7 (.slice none 0 0) w))
theorem M5 (kn : K4) (R : K1) (hn : N4 Q kn 0 4 7 8) (hr : HR nV R Q) (h : Bo kn R (g 0) w) : jO pg mO (hU 8 (bI (gH 1 mI))) Q g w :=
 lB (l := []) h hn hr trivial
def GU (R : K1) (pN : aDt) (w : aDs) : Prop :=
 Bo (fun pN VD g_7 sY w => sC R pN VD g_7 sY w) R pN w
def Ab (R : K1) (pN : aDt) (w : aDs) : Prop :=
 GU R pN w
def zQ (kn : K1) (pN : aDt) (w : aDs) : Prop :=
 kn pN w
theorem LU (kn : K1) (hn : N1 Q kn 0) (h : zQ kn (g 0) w) : jO pg mO (hU 1 mI) Q g w :=
 lB (kr := no) (l := []) h hn lW trivial
def zO (R : K1) (pN : aDt) (w : aDs) : Prop :=
 zQ (fun pN w => Ab R pN w) pN w
theorem LV (R : K1) (hr : HR nV R Q) (h : zO R (g 0) w) : jO pg mO mI Q g w :=
 nP 1 (LU _ g w (Ab R) (fun g w h => iZ (scD (nP 8 (M5 _ g w (sC R) R (fun g w h => iZ (nP 1 (Nc _ g w (rX R) R (fun g w h => iZ (nP 2 (MW _ g w (pJ R) R (fun g w h => iZ (NV _ g w R hr h)) hr h))) hr h))) hr h)))) h)
def La (a0 : aDt) (w : aDs) (R : K1) : Prop :=
 zO R a0 w
theorem Ox {a0 : aDt} {w : aDs} {R : K1} (h : La a0 w R) : jE pg wH #[a0] w R := by
 refine yX (ann := mO) Tryz.f40 mI [a0] nV 125 TryzM.mixed Tryz.func40 ?_
 exact (LV _ _ _ R (fun _ _ h => h) h)
def Hb : FA := ⟨wV, fun i => .leaf ([], []) []⟩
def I1 : List ResultVar := [.tmp 2]
noncomputable def F2 : Code := kA Tryz.f41
def BW (R : K1) (pN : aDt) (w : aDs) : Prop :=
 gI pg (nO pN) w fun b5 w =>
 gI pg (jH 56 b5 0) w fun b6 w =>
 gI pg (jF 54 b6) w fun b7 w =>
 jE pg lA #[b7, (aDu 4)] w fun b8 w =>
 gI pg (nO pN) w fun c0 w =>
 gI pg (jH 56 c0 0) w fun c1 w =>
 gI pg (jF 54 c1) w fun c2 w =>
 jE pg lY #[c2] w fun c3 w =>
 gI pg (hZ .neq 24 (.tmp 13) (.const (aDu 0)) c3 (aDu 0)) w fun c4 w =>
 Gd (kR c4 false) (fun K => K b8 w) w fun c6 w =>
 Gd (kR c4 false) (fun K => K pN w) w fun c7 w =>
 Gd (kR c4 false) (fun K => gI pg (nO c7) w K) w fun c8 w =>
 Gd (kR c4 false) (fun K => gI pg (jH 56 c8 0) w K) w fun c9 w =>
 Gd (kR c4 false) (fun K => gI pg (jF 54 c9) w K) w fun d0 w =>
 Gd (kR c4 false) (fun K => jE pg oR #[d0] w K) w fun d1 w =>
 Gd (kR c4 false) (fun K => gI pg (nI 3 32 d1) w K) w fun d2 w =>
 Gd (kR c4 false) (fun K => gI pg (hZ .gtr 32 jC jC c6 d2) w K) w fun d3 w =>
 gI pg (nD c4 (.bool true) d3) w fun d4 w =>
 mK d4
  (R (aDu 10) w)
  (gI pg (nO pN) w fun d6 w =>
  gI pg (jH 56 d6 0) w fun d7 w =>
  gI pg (jF 54 d7) w fun d8 w =>
  gI pg (nI 32 3 b8) w fun e0 w =>
  jE pg qK #[d8, e0] w fun e1 w =>
  gI pg (nO pN) w fun e3 w =>
  gI pg (jH 56 e3 5) w fun e4 w =>
  gI pg (jF 3 e4) w fun e5 w =>
  gI pg (hZ .add 3 jC jC e5 (aDu 1)) w fun e6 w =>
  gI pg (nO pN) w fun e7 w =>
  gI pg (jH 56 e7 5) w fun e8 w =>
  gI pg (jQ 3 e8 e6) w fun _u w =>
  R (aDu 0) w)
theorem Ph (R : K1) (hr : HR I1 R Q) (h : BW R (g 0) w) : jO pg Hb F2 Q g w :=
 lB (kn := no) (l := []) h lW hr trivial
def Mx (a0 : aDt) (w : aDs) (R : K1) : Prop :=
 BW R a0 w
theorem Pt {a0 : aDt} {w : aDs} {R : K1} (h : Mx a0 w R) : jE pg wV #[a0] w R := by
 refine yX (ann := Hb) Tryz.f41 F2 [a0] I1 39 TryzM.mixed Tryz.func41 ?_
 exact (Ph _ _ _ R (fun _ _ h => h) h)
def AI : FA := ⟨uH, fun i => .leaf ([], []) []⟩
def BT : List ResultVar := [.tmp 4]
noncomputable def yZ : Code := kA Tryz.f42
def tX (R : K1) (pN YI : aDt) (w : aDs) : Prop :=
 jE pg yF #[pN, YI] w fun b7 w =>
 gI pg (hZ .geq 3 jC jC b7 (aDu 0)) w fun b8 w =>
 R b8 w
theorem Hu (R : K1) (hr : HR BT R Q) (h : tX R (g 0) (g 1) w) : jO pg AI yZ Q g w :=
 lB (kn := no) (l := []) h lW hr trivial
def DV (a0 a1 : aDt) (w : aDs) (R : K1) : Prop :=
 tX R a0 a1 w
theorem IK {a0 a1 : aDt} {w : aDs} {R : K1} (h : DV a0 a1 w R) : jE pg uH #[a0, a1] w R := by
 refine yX (ann := AI) Tryz.f42 yZ [a0, a1] BT 9 TryzM.mixed Tryz.func42 ?_
 exact (Hu _ _ _ R (fun _ _ h => h) h)
def Kv : FA := ⟨yD, fun i => .leaf ([], []) []⟩
def Ml : List ResultVar := [.tmp 3]
noncomputable def Jy : Code := kA Tryz.f43
def GL (R : K1) (Xw b1 : aDt) (w : aDs) : Prop :=
 gI pg (jF 22 b1) w fun b5 w =>
 gI pg (jS 22 b5 (aDu 0)) w fun b6 w =>
 gI pg (jF 5 b6) w fun b7 w =>
 gI pg (hZ .neq 5 (.tmp 4) (.tmp 7) Xw b7) w fun b8 w =>
 R b8 w
theorem Sw (R : K1) (hr : HR Ml R Q) (h : GL R (g 0) (g 1) w) : jO pg Kv Jy Q g w :=
 lB (kn := no) (l := []) h lW hr trivial
def Sy (a0 a1 : aDt) (w : aDs) (R : K1) : Prop :=
 GL R a0 a1 w
theorem Uh {a0 a1 : aDt} {w : aDs} {R : K1} (h : Sy a0 a1 w R) : jE pg yD #[a0, a1] w R := by
 refine yX (ann := Kv) Tryz.f43 Jy [a0, a1] Ml 9 TryzM.mixed Tryz.func43 ?_
 exact (Sw _ _ _ R (fun _ _ h => h) h)
def kU : FA := ⟨Gk, fun i => match Nat.beq i 5 with | true => .split 2 4 (.perm [0, 1, 2, 3, 4, 5, 6, 7, 8, 9] [(2, 4)] ([2, 4, 8], [(2, 6), (4, 6)]) [(false, []), (false, []), (true, []), (false, []), (true, []), (false, []), (false, [1, 3]), (false, []), (true, []), (false, [])]) (.perm [0, 1, 3, 4, 2, 5, 6, 7, 8, 9] [(4, 2)] ([3, 4, 8], [(3, 6), (4, 6)]) [(false, []), (false, []), (false, []), (true, []), (true, []), (false, []), (false, [1, 2]), (false, []), (true, []), (false, [])]) | false => .leaf ([], []) []⟩
def Il : List ResultVar := [.tmp 8, .tmp 9, .tmp 10]
noncomputable def kN : Code := kA Tryz.f44
def Io (R : K1) (b2 jX jU : aDt) (w : aDs) : Prop :=
 gI pg (hZ .sub 3 jC jC b2 jU) w fun s5 w =>
 R (.tuple #[jX, s5, (aDu 0)]) w
theorem XH (R : K1) (hr : HR Il R Q) (h : Io R (g 2) (g 13) (g 14) w) : jO pg kU (gH 1 (gH 2 (gH 1 (gH 4 kN)))) Q g w :=
 lB (kn := no) (l := []) h lW hr trivial
def Ip (kn : K6) (b2 jL mF jX lD : aDt) (w : aDs) : Prop :=
 kn b2 jL mF jX lD lD w
theorem Yf (kn : K6) (hn : N6 Q kn 2 3 11 13 14 15) (h : Ip kn (g 2) (g 3) (g 11) (g 13) (g 15) w) : jO pg kU (gH 1 (gH 1 (gH 3 (bI (gH 1 (bI (bI (gH 1 (hU 1 (gH 2 (gH 1 (gH 4 kN)))))))))))) Q g w :=
 lB (kr := no) (l := []) h hn lW trivial
def DP (kn : K6) (k4 : K5) (b2 jL mF jX lD Nm : aDt) (w : aDs) : Prop :=
 gI pg (hZ .lss 3 jC jC lD Nm) w fun q5 w =>
 mK q5
  (jE pg pG #[mF, lD] w fun s0 w =>
  gI pg (hZ .add 3 jC jC lD (aDu 1)) w fun q7 w =>
  kn b2 jL mF jX q7 Nm w)
  (k4 b2 jL mF jX lD w)
theorem YE (kn : K6) (k4 : K5) (hn : N6 Q kn 2 3 11 13 15 20) (h4 : E5 Q k4 4 2 3 11 13 15) (h : DP kn k4 (g 2) (g 3) (g 11) (g 13) (g 15) (g 20) w) : jO pg kU (bI (bI (gH 1 (hU 1 (gH 1 (gH 3 (bI (gH 1 (bI (bI (gH 1 (hU 1 (gH 2 (gH 1 (gH 4 kN))))))))))))))) Q g w :=
 lB (kr := no) (l := [(4, fun g w => k4 (g 2) (g 3) (g 11) (g 13) (g 15) w)]) h hn lW ⟨h4, trivial⟩
def Ij (k4 : K5) (b2 jL mF jX lD Nm : aDt) (w : aDs) : Prop :=
 kO (fun (X : aDt -> K0) (t : aDt) (w : aDs) => DP (fun _ _ _ _ lD _ w => X lD w) k4 b2 jL mF jX t Nm w) lD w
theorem XV (k4 : K5) (h4 : E5 Q k4 4 2 3 11 13 15) (h : Ij k4 (g 2) (g 3) (g 11) (g 13) (g 15) (g 20) w) : jO pg kU (bI (gH 1 (hU 1 (gH 1 (gH 3 (bI (gH 1 (bI (bI (gH 1 (hU 1 (gH 2 (gH 1 (gH 4 kN)))))))))))))) Q g w := by
 refine Od (fun g : Env => g 15) (fun X t w => DP (fun _ _ _ _ lD _ w => X lD w) k4 (g 2) (g 3) (g 11) (g 13) t (g 20) w) h (fun X g1 w1 ha hL => ?_)
 rw [<- rG 2 ha, <- rG 3 ha, <- rG 11 ha, <- rG 13 ha, <- rG 20 ha] at hL
 exact (YE _ g1 w1 (fun _ _ _ _ lD _ w => X lD w) k4 (fun _ _ h => h) h4 hL)
def Ng (kn : K5) (b2 jL mF jX lD Nm : aDt) (w : aDs) : Prop :=
 Ij kn b2 jL mF jX lD Nm w
def MR (kn : K6) (b2 jL mF jX lD IS : aDt) (w : aDs) : Prop :=
 gI pg (hZ .add 3 jC jC lD IS) w fun q2 w =>
 kn b2 jL mF jX lD q2 w
theorem XT (kn : K6) (hn : N6 Q kn 2 3 11 13 15 20) (h : MR kn (g 2) (g 3) (g 11) (g 13) (g 15) (g 16) w) : jO pg kU (hU 1 (hU 1 (gH 1 (gH 3 (bI (gH 1 (bI (bI (gH 1 (hU 1 (gH 2 (gH 1 (gH 4 kN))))))))))))) Q g w :=
 lB (kr := no) (l := []) h hn lW trivial
def Nk (kn : K5) (b2 jL mF jX lD IS : aDt) (w : aDs) : Prop :=
 MR (fun b2 jL mF jX lD Nm w => Ng kn b2 jL mF jX lD Nm w) b2 jL mF jX lD IS w
def Nr (kn : K6) (b2 jL mF jX lD IS : aDt) (w : aDs) : Prop :=
 Nk (fun b2 jL mF jX lD w => Ip kn b2 jL mF jX lD w) b2 jL mF jX lD IS w
theorem XQ (kn : K5) (hn : N5 Q kn 2 3 11 13 15) (h : Nk kn (g 2) (g 3) (g 11) (g 13) (g 15) (g 16) w) : jO pg kU (hU 1 (gH 1 (gH 3 (bI (gH 1 (bI (bI (gH 1 (hU 1 (gH 2 (gH 1 (gH 4 kN)))))))))))) Q g w :=
 nP 1 (XT _ g w (Ng kn) (fun g w h => iZ (Iu 4 (XV _ g w kn hn h))) h)
def NH (kn : K6) (b2 jL mF jX jU lD IS Vc : aDt) (w : aDs) : Prop :=
 gI pg (hZ .sub 3 jC jC lD jU) w fun p1 w =>
 gI pg (nI 3 38 p1) w fun p2 w =>
 gI pg (nI 3 38 IS) w fun p4 w =>
 gI pg (nI 3 38 Vc) w fun p6 w =>
 gI pg (kY 84 [(0, p2), (1, p4), (2, p6)]) w fun p7 w =>
 gI pg (lT 80 1 [(0, p7)]) w fun p8 w =>
 gI pg (oF .append #[80, 80] 80 [jX, p8]) w fun p9 w =>
 kn b2 jL mF p9 lD IS w
theorem XW (kn : K6) (hn : N6 Q kn 2 3 11 13 15 16) (h : NH kn (g 2) (g 3) (g 11) (g 13) (g 14) (g 15) (g 16) (g 17) w) : jO pg kU (hU 1 (gH 3 (bI (gH 1 (bI (bI (gH 1 (hU 1 (gH 2 (gH 1 (gH 4 kN))))))))))) Q g w :=
 lB (kr := no) (l := []) h hn lW trivial
def Cc (kn : K6) (b2 jL mF jX jU lD IS Vc : aDt) (w : aDs) : Prop :=
 NH (fun b2 jL mF jX lD IS w => Nr kn b2 jL mF jX lD IS w) b2 jL mF jX jU lD IS Vc w
def Kh (kn : K8) (k3 : K6) (b2 jL mF jX jU lD : aDt) (w : aDs) : Prop :=
 jE pg tN #[mF, lD] w fun l2 w =>
 gI pg (jZ l2 0) w fun l3 w =>
 gI pg (jZ l2 1) w fun l4 w =>
 gI pg (hZ .lss 3 jC jC l3 (aDu 4)) w fun l6 w =>
 mK l6
  (jE pg pG #[mF, lD] w fun l9 w =>
  gI pg (hZ .add 3 jC jC lD (aDu 1)) w fun m1 w =>
  k3 b2 jL mF jX jU m1 w)
  (gI pg (hZ .gtr 3 jC jC jL (aDu 4)) w fun m3 w =>
  Gd (kR m3 true) (fun K => K lD w) w fun m5 w =>
  Gd (kR m3 true) (fun K => gI pg (hZ .add 3 jC jC m5 (aDu 1)) w K) w fun m6 w =>
  Gd (kR m3 true) (fun K => K b2 w) w fun m7 w =>
  Gd (kR m3 true) (fun K => gI pg (hZ .lss 3 jC jC m6 m7) w K) w fun m8 w =>
  gI pg (nD m3 m8 (.bool false)) w fun m9 w =>
  mK m9
   (jE pg pG #[mF, lD] w fun n2 w =>
   gI pg (hZ .add 3 jC jC lD (aDu 1)) w fun n6 w =>
   jE pg tN #[mF, n6] w fun n7 w =>
   gI pg (jZ n7 0) w fun n8 w =>
   gI pg (jZ n7 1) w fun n9 w =>
   gI pg (hZ .add 3 jC jC l3 (aDu 1)) w fun o2 w =>
   gI pg (hZ .gtr 3 jC jC n8 o2) w fun o3 w =>
   mK o3
    (gI pg (hZ .add 3 jC jC lD (aDu 1)) w fun o5 w =>
    kn b2 jL mF jX jU o5 n8 n9 w)
    (kn b2 jL mF jX jU lD l3 l4 w))
   (kn b2 jL mF jX jU lD l3 l4 w))
theorem We (kn : K8) (k3 : K6) (hn : N8 Q kn 2 3 11 13 14 15 16 17) (h3 : E6 Q k3 3 2 3 11 13 14 15) (h : Kh kn k3 (g 2) (g 3) (g 11) (g 13) (g 14) (g 15) w) : jO pg kU (hU 3 (bI (gH 1 (bI (bI (gH 1 (hU 1 (gH 2 (gH 1 (gH 4 kN)))))))))) Q g w :=
 lB (kr := no) (l := [(3, fun g w => k3 (g 2) (g 3) (g 11) (g 13) (g 14) (g 15) w)]) h hn lW ⟨h3, trivial⟩
def Td (kn : K6) (k3 : K6) (b2 jL mF jX jU lD : aDt) (w : aDs) : Prop :=
 Kh (fun b2 jL mF jX jU lD IS Vc w => Cc kn b2 jL mF jX jU lD IS Vc w) k3 b2 jL mF jX jU lD w
def J3 (kn : K6) (b2 jL mF jX jU lD : aDt) (w : aDs) : Prop :=
 Td kn kn b2 jL mF jX jU lD w
def FJ (kn : K6) (k2 : K3) (b2 jL mF jX jU lD : aDt) (w : aDs) : Prop :=
 gI pg (hZ .lss 3 jC jC lD b2) w fun j8 w =>
 mK j8
  (kn b2 jL mF jX jU lD w)
  (k2 b2 jX jU w)
theorem WC (kn : K6) (k2 : K3) (hn : N6 Q kn 2 3 11 13 14 15) (h2 : E3 Q k2 2 2 13 14) (h : FJ kn k2 (g 2) (g 3) (g 11) (g 13) (g 14) (g 15) w) : jO pg kU (hU 1 (bI (bI (gH 1 (hU 1 (gH 2 (gH 1 (gH 4 kN)))))))) Q g w :=
 lB (kr := no) (l := [(2, fun g w => k2 (g 2) (g 13) (g 14) w)]) h hn lW ⟨h2, trivial⟩
def Ch (kn : K6) (k2 : K3) (b2 jL mF jX jU lD : aDt) (w : aDs) : Prop :=
 FJ (fun b2 jL mF jX jU lD w => J3 kn b2 jL mF jX jU lD w) k2 b2 jL mF jX jU lD w
def FN (k2 : K3) (b2 jL mF jX jU lD : aDt) (w : aDs) : Prop :=
 kO (fun (X : (aDt × aDt × aDt) -> K0) (t : aDt × aDt × aDt) (w : aDs) => Ch (fun _ _ _ jX jU lD w => X (jX, jU, lD) w) k2 b2 jL mF t.1 t.2.1 t.2.2 w) (jX, jU, lD) w
theorem V5 (kn : K6) (k2 : K3) (hn : N6 Q kn 2 3 11 13 14 15) (h2 : E3 Q k2 2 2 13 14) (h : Ch kn k2 (g 2) (g 3) (g 11) (g 13) (g 14) (g 15) w) : jO pg kU (bI (bI (gH 1 (hU 1 (gH 2 (gH 1 (gH 4 kN))))))) Q g w :=
 nP 1 (WC _ g w (J3 kn) k2 (fun g w h => iZ (Iu 3 (nP 3 (We _ g w (Cc kn) kn (fun g w h => iZ (nP 1 (XW _ g w (Nr kn) (fun g w h => iZ (nP 1 (XQ _ g w (Ip kn) (fun g w h => iZ (Yf _ g w kn hn h)) h))) h))) hn h)))) h2 h)
theorem VV (k2 : K3) (h2 : E3 Q k2 2 2 13 14) (h : FN k2 (g 2) (g 3) (g 11) (g 13) (g 14) (g 15) w) : jO pg kU (bI (gH 1 (hU 1 (gH 2 (gH 1 (gH 4 kN)))))) Q g w := by
 refine Od (fun g : Env => (g 13, g 14, g 15)) (fun X t w => Ch (fun _ _ _ jX jU lD w => X (jX, jU, lD) w) k2 (g 2) (g 3) (g 11) t.1 t.2.1 t.2.2 w) h (fun X g1 w1 ha hL => ?_)
 rw [<- rG 2 ha, <- rG 3 ha, <- rG 11 ha] at hL
 exact (V5 _ g1 w1 (fun _ _ _ jX jU lD w => X (jX, jU, lD) w) k2 (fun _ _ h => h) h2 hL)
def Lt (kn : K3) (b2 jL mF jX jU lD : aDt) (w : aDs) : Prop :=
 FN kn b2 jL mF jX jU lD w
def Kf (kn : K6) (lQ b2 jL mF jX jU : aDt) (w : aDs) : Prop :=
 kn b2 jL mF jX jU lQ w
theorem V6 (kn : K6) (hn : N6 Q kn 2 3 11 13 14 15) (h : Kf kn (g 1) (g 2) (g 3) (g 11) (g 13) (g 14) w) : jO pg kU (hU 1 (hU 1 (gH 2 (gH 1 (gH 4 kN))))) Q g w :=
 lB (kr := no) (l := []) h hn lW trivial
def Lb (kn : K3) (lQ b2 jL mF jX jU : aDt) (w : aDs) : Prop :=
 Kf (fun b2 jL mF jX jU lD w => Lt kn b2 jL mF jX jU lD w) lQ b2 jL mF jX jU w
def Ku (R : K1) (lQ b2 jL mF jX jU : aDt) (w : aDs) : Prop :=
 Lb (fun b2 jX jU w => Io R b2 jX jU w) lQ b2 jL mF jX jU w
theorem WQ (kn : K3) (hn : N3 Q kn 2 13 14) (h : Lb kn (g 1) (g 2) (g 3) (g 11) (g 13) (g 14) w) : jO pg kU (hU 1 (gH 2 (gH 1 (gH 4 kN)))) Q g w :=
 nP 1 (V6 _ g w (Lt kn) (fun g w h => iZ (Iu 2 (VV _ g w kn hn h))) h)
def JY (kn : K6) (lQ b2 jL mF : aDt) (w : aDs) : Prop :=
 kn lQ b2 jL mF (.slice none 0 0) lQ w
theorem WT (kn : K6) (hn : N6 Q kn 1 2 3 11 13 14) (h : JY kn (g 1) (g 2) (g 3) (g 11) w) : jO pg kU (hU 2 (gH 1 (gH 4 kN))) Q g w :=
 lB (kr := no) (l := []) h hn lW trivial
def KU (R : K1) (lQ b2 jL mF : aDt) (w : aDs) : Prop :=
 JY (fun lQ b2 jL mF jX jU w => Ku R lQ b2 jL mF jX jU w) lQ b2 jL mF w
def Cj (kn : K6) (k0 : K4) (lQ b2 jL mF i6 i7 : aDt) (w : aDs) : Prop :=
 gI pg (hZ .lss 3 jC jC i7 i6) w fun i8 w =>
 mK i8
  (jE pg pG #[mF, i7] w fun j2 w =>
  gI pg (hZ .add 3 jC jC i7 (aDu 1)) w fun j3 w =>
  kn lQ b2 jL mF i6 j3 w)
  (k0 lQ b2 jL mF w)
theorem WN (kn : K6) (k0 : K4) (hn : N6 Q kn 1 2 3 11 56 57) (h0 : E4 Q k0 0 1 2 3 11) (h : Cj kn k0 (g 1) (g 2) (g 3) (g 11) (g 56) (g 57) w) : jO pg kU (bI (bI (gH 1 (hU 1 (gH 4 kN))))) Q g w :=
 lB (kr := no) (l := [(0, fun g w => k0 (g 1) (g 2) (g 3) (g 11) w)]) h hn lW ⟨h0, trivial⟩
def KA (k0 : K4) (lQ b2 jL mF i6 i7 : aDt) (w : aDs) : Prop :=
 kO (fun (X : aDt -> K0) (t : aDt) (w : aDs) => Cj (fun _ _ _ _ _ i7 w => X i7 w) k0 lQ b2 jL mF i6 t w) i7 w
theorem WM (k0 : K4) (h0 : E4 Q k0 0 1 2 3 11) (h : KA k0 (g 1) (g 2) (g 3) (g 11) (g 56) (g 57) w) : jO pg kU (bI (gH 1 (hU 1 (gH 4 kN)))) Q g w := by
 refine Od (fun g : Env => g 57) (fun X t w => Cj (fun _ _ _ _ _ i7 w => X i7 w) k0 (g 1) (g 2) (g 3) (g 11) (g 56) t w) h (fun X g1 w1 ha hL => ?_)
 rw [<- rG 1 ha, <- rG 2 ha, <- rG 3 ha, <- rG 11 ha, <- rG 56 ha] at hL
 exact (WN _ g1 w1 (fun _ _ _ _ _ i7 w => X i7 w) k0 (fun _ _ h => h) h0 hL)
def Kx (kn : K4) (lQ b2 jL mF i6 i7 : aDt) (w : aDs) : Prop :=
 KA kn lQ b2 jL mF i6 i7 w
def KD (kn : K6) (lQ b2 jL mF : aDt) (w : aDs) : Prop :=
 kn lQ b2 jL mF lQ (aDu 0) w
theorem Wo (kn : K6) (hn : N6 Q kn 1 2 3 11 56 57) (h : KD kn (g 1) (g 2) (g 3) (g 11) w) : jO pg kU (hU 1 (hU 1 (gH 4 kN))) Q g w :=
 lB (kr := no) (l := []) h hn lW trivial
def KC (kn : K4) (lQ b2 jL mF : aDt) (w : aDs) : Prop :=
 KD (fun lQ b2 jL mF i6 i7 w => Kx kn lQ b2 jL mF i6 i7 w) lQ b2 jL mF w
def GD (R : K1) (lQ b2 jL mF : aDt) (w : aDs) : Prop :=
 KC (fun lQ b2 jL mF w => KU R lQ b2 jL mF w) lQ b2 jL mF w
theorem Wk (kn : K4) (hn : N4 Q kn 1 2 3 11) (h : KC kn (g 1) (g 2) (g 3) (g 11) w) : jO pg kU (hU 1 (gH 4 kN)) Q g w :=
 nP 1 (Wo _ g w (Kx kn) (fun g w h => iZ (Iu 0 (WM _ g w kn hn h))) h)
def KW (kn : K4) (R : K1) (nQ lQ b2 jL : aDt) (w : aDs) : Prop :=
 gI pg (hZ .lss 3 jC jC lQ (aDu 0)) w fun d2 w =>
 Gd (kR d2 false) (fun K => K b2 w) w fun d4 w =>
 Gd (kR d2 false) (fun K => K lQ w) w fun d5 w =>
 Gd (kR d2 false) (fun K => gI pg (hZ .lss 3 jC jC d4 d5) w K) w fun d6 w =>
 gI pg (nD d2 (.bool true) d6) w fun d7 w =>
 Gd (kR d7 false) (fun K => K b2 w) w fun d9 w =>
 Gd (kR d7 false) (fun K => K nQ w) w fun e0 w =>
 Gd (kR d7 false) (fun K => gI pg (oF .len #[22] 3 [e0]) w K) w fun e1 w =>
 Gd (kR d7 false) (fun K => gI pg (hZ .gtr 3 jC jC d9 e1) w K) w fun e2 w =>
 gI pg (nD d7 (.bool true) e2) w fun e3 w =>
 Gd (kR e3 false) (fun K => K jL w) w fun e5 w =>
 Gd (kR e3 false) (fun K => gI pg (hZ .lss 3 jC jC e5 (aDu 0)) w K) w fun e6 w =>
 gI pg (nD e3 (.bool true) e6) w fun e7 w =>
 Gd (kR e7 false) (fun K => K jL w) w fun e9 w =>
 Gd (kR e7 false) (fun K => gI pg (hZ .gtr 3 jC jC e9 (aDu 9)) w K) w fun f0 w =>
 gI pg (nD e7 (.bool true) f0) w fun f1 w =>
 mK f1
  (R (.tuple #[(.slice none 0 0), (aDu 0), (aDu 1)]) w)
  (gI pg (hZ .eql 3 (.tmp 42) (.const (aDu 0)) jL (aDu 0)) w fun f3 w =>
  mK f3
   (gI pg (hZ .sub 3 jC jC b2 lQ) w fun f6 w =>
   R (.tuple #[(.slice none 0 0), f6, (aDu 0)]) w)
   (Ord (avF Gk 5 (UZ 5 kN) 2 4 w)
    ((dr w) = (dr w) /\
    (dr w) = (dr w) /\
    gI pg (XK 116 none) (dr w) fun f9 avV =>
    avV = avV /\
    gI pg (sS 117 b2 b2) avV fun i1 Vo =>
    Vo = Vo /\
    gI pg (hZ .shl 3 jC jC (aDu 1) jL) Vo fun i3 w_ => w_ = Vo /\
    (jD pg (hZ .shl 3 jC jC (aDu 1) jL) i3 avV /\ jD pg (hZ .shl 3 jC jC (aDu 1) jL) i3 (dr w) /\ True) /\
    gI pg (kY 119 [(0, nQ), (1, b2), (2, f9), (3, i1), (4, i3)]) Vo fun i4 w_ => w_ = Vo /\
    gI pg (Ru 119 i4) Vo fun i5 ajR =>
    ajR = ajR /\
    kn lQ b2 jL i5 ajR)
    ((dr w) = (dr w) /\
    (dr w) = (dr w) /\
    (dr w) = (dr w) /\
    gI pg (sS 117 b2 b2) (dr w) fun i1 ajX =>
    gI pg (XK 116 none) ajX fun f9 Vo =>
    Vo = Vo /\
    gI pg (hZ .shl 3 jC jC (aDu 1) jL) Vo fun i3 w_ => w_ = Vo /\
    (jD pg (hZ .shl 3 jC jC (aDu 1) jL) i3 ajX /\ jD pg (hZ .shl 3 jC jC (aDu 1) jL) i3 (dr w) /\ True) /\
    gI pg (kY 119 [(0, nQ), (1, b2), (2, f9), (3, i1), (4, i3)]) Vo fun i4 w_ => w_ = Vo /\
    gI pg (Ru 119 i4) Vo fun i5 ajR =>
    ajR = ajR /\
    kn lQ b2 jL i5 ajR)))
theorem VS (kn : K4) (R : K1) (hn : N4 Q kn 1 2 3 11) (hr : HR Il R Q) (h : KW kn R (g 0) (g 1) (g 2) (g 3) w) : jO pg kU (hU 4 kN) Q g w :=
 lB (l := []) h hn hr trivial
def LH (R : K1) (nQ lQ b2 jL : aDt) (w : aDs) : Prop :=
 KW (fun lQ b2 jL mF w => GD R lQ b2 jL mF w) R nQ lQ b2 jL w
theorem Wa (R : K1) (hr : HR Il R Q) (h : LH R (g 0) (g 1) (g 2) (g 3) w) : jO pg kU kN Q g w :=
 nP 4 (VS _ g w (GD R) R (fun g w h => iZ (nP 1 (Wk _ g w (KU R) (fun g w h => iZ (nP 2 (WT _ g w (Ku R) (fun g w h => iZ (nP 1 (WQ _ g w (Io R) (fun g w h => iZ (XH _ g w R hr h)) h))) h))) h))) hr h)
def ZF (a0 a1 a2 a3 : aDt) (w : aDs) (R : K1) : Prop :=
 LH R a0 a1 a2 a3 w
theorem Y8 {a0 a1 a2 a3 : aDt} {w : aDs} {R : K1} (h : ZF a0 a1 a2 a3 w R) : jE pg Gk #[a0, a1, a2, a3] w R := by
 refine yX (ann := kU) Tryz.f44 kN [a0, a1, a2, a3] Il 136 TryzM.mixed Tryz.func44 ?_
 exact (Wa _ _ _ R (fun _ _ h => h) h)
end Go.Proofs.YtoecppploooloaaGreatDoor

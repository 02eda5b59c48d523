/- The engine: a predicate over named slots for the loaded code, sound for the model's calls. It says nothing of any one program. -/
import Derived.Orders
import Derived.Below
import Derived.KernelRfl
import Derived.Eval
namespace Go.En
open Go

abbrev Env := Nat → Value

def put (g : Env) (d : Option Tmp) (v : Value) : Env :=
  match d with
  | some d => fun i => match Nat.beq i d with | true => v | false => g i
  | none => g

def ev (g : Env) : Operand → Value
  | .tmp t => g t
  | .const v => v
  | .global b => .pointer (some ⟨b, 0, none⟩)
  | .func f => .func (.func f) #[] #[]

/-- The call comes back with just this value, in just this world. -/
def Ret (P : Program) (f : FuncId) (args : Array Value) (w : World) (v : Value) (w' : World) : Prop :=
  Calls P f args w fun e w'' => e = .returned v ∧ w'' = w'

/-- The call comes back, with a value and a world of which R holds. -/
def Does (P : Program) (f : FuncId) (args : Array Value) (w : World) (R : Value → World → Prop) : Prop :=
  ∃ v w', Ret P f args w v w' ∧ R v w'

theorem Does.mono {P : Program} {f : FuncId} {args : Array Value} {w : World} {R R' : Value → World → Prop} (h : Does P f args w R)
    (hr : ∀ v w', R v w' → R' v w') : Does P f args w R' :=
  let ⟨v, w', a, b⟩ := h; ⟨v, w', a, hr _ _ b⟩

def stepR (P : Program) (r : Result Next) (K : Value → World → Prop) : Prop :=
  match r with
  | .ok (.value v) w => K v w
  | .ok .skip w => K undef w
  | .ok (.enter f args) w => Does P f args w K
  | _ => False

theorem stepR_value (P : Program) (v : Value) (w : World) (K : Value → World → Prop) : stepR P (.ok (.value v) w) K = K v w := Eq.trans rfl rfl
theorem stepR_skip (P : Program) (w : World) (K : Value → World → Prop) : stepR P (.ok .skip w) K = K undef w := Eq.trans rfl rfl
theorem stepR_enter (P : Program) (f : FuncId) (args : Array Value) (w : World) (K : Value → World → Prop) : stepR P (.ok (.enter f args) w) K = Does P f args w K := Eq.trans rfl rfl

/-- One operation. -/
def Stp (P : Program) (s : Sem Next) (w : World) (K : Value → World → Prop) : Prop := stepR P (s.run P w) K
/-- In this world too the operation gives this value, and leaves the world. -/
def Same (P : Program) (s : Sem Next) (v : Value) (w : World) : Prop := s.run P w = .ok (.value v) w

def Gd (b : Bool) (s : (Value → World → Prop) → Prop) (w : World) (K : Value → World → Prop) : Prop :=
  match b with
  | true => s K
  | false => K undef w

def asB (v : Value) : Option Bool := match v with | .bool b => some b | _ => none
def isB (v : Value) (want : Bool) : Bool := asB v == some want

def Cnd (v : Value) (A B : Prop) : Prop :=
  match v with
  | .bool b => (match b with | true => A | false => B)
  | _ => False

def slotOf (ops : Array Oper) (j : Nat) : Option Tmp := (ops[j]?).bind (·.dst)
def guardOn (g : Env) (t : Option Tmp) (want : Bool) : Bool := match t with | some t => isB (g t) want | none => false

def V (s : Sem Value) : Sem Next := do pure (.value (← s))
def U (s : Sem Unit) : Sem Next := do s; pure .skip

def isEq (op : BinOp) : Bool := match op with | .eql | .neq => true | _ => false
def sBin (op : BinOp) (t : TypeId) (ox oy : Operand) (x y : Value) : Sem Next :=
  match isEq op with
  | true => V (do eqGuard op t ox oy x y; binOp op t x y)
  | false => V (binOp op t x y)
def sBi (b : Builtin) (ats : Array TypeId) (ty : TypeId) (args : List Value) : Sem Next := builtin b ats ty #[] args.toArray
def sBuild (t : TypeId) (ps : List (Nat × Value)) : Sem Next := V (Instr.build t ps.toArray)
def sBuildSlice (t : TypeId) (n : Nat) (ps : List (Nat × Value)) : Sem Next := V (Instr.buildSlice t n ps.toArray)

/-- What an operation does, with its operands in a list. -/
def opSem (g : Env) (o : Oper) : Sem Next :=
  match o.op with
  | .binOp op t x y _ => sBin op t x y (ev g x) (ev g y)
  | .build t ps => sBuild t (ps.toList.map fun p => (p.1, ev g p.2))
  | .buildSlice t n ps => sBuildSlice t n (ps.toList.map fun p => (p.1, ev g p.2))
  | .call c => (match c.callee with
    | .builtin b => sBi b c.argTypes o.type (c.args.toList.map (ev g))
    | _ => execOp (ev g) o)
  | _ => execOp (ev g) o

def opRun (P : Program) (g : Env) (o : Oper) (w : World) (K : Value → World → Prop) : Prop :=
  match o.op with
  | .move x => K (ev g x) w
  | .assign x => K (ev g x) w
  | .call c => (match c.callee with
    | .value (.func f) => Does P f (c.args.toList.map (ev g)).toArray w K
    | _ => Stp P (opSem g o) w K)
  | _ => Stp P (opSem g o) w K

def opStep (P : Program) (ops : Array Oper) (g : Env) (o : Oper) (w : World) (K : Value → World → Prop) : Prop :=
  match o.guard with
  | none => opRun P g o w K
  | some (j, want) => Gd (guardOn g (slotOf ops j) want) (opRun P g o w) w K

def denOps (P : Program) (ops : Array Oper) : List Oper → Env → World → (Env → World → Prop) → Prop
  | [], g, w, K => K g w
  | o :: rest, g, w, K => opStep P ops g o w fun v w' => denOps P ops rest (put g o.dst v) w' K

/-- What is written down of an operation of a region that draws its order: whether it may turn the world, itself, the slots and the world ahead of it, its value. -/
structure Rec where
  heavy : Bool
  o : Oper
  g : Env
  w : World
  v : Value

/-- is a guarded operation done? -/
def gOf (ops : Array Oper) (o : Oper) (g : Env) : Bool := match o.guard with | none => true | some (j, want) => guardOn g (slotOf ops j) want
def Gs (b : Bool) (p : Prop) : Prop := match b with | true => p | false => True

/-- Two operations whose order is open: the light one, if it is done, gives the same on either side of the heavy one. -/
def chkOne (P : Program) (ops : Array Oper) (q : Rec) (o : Oper) (g : Env) (w' : World) (v : Value) : Prop :=
  match q.heavy with
  | true => Gs (gOf ops o g) (Same P (opSem g o) v q.w)
  | false => Gs (gOf ops q.o q.g) (Same P (opSem q.g q.o) q.v w')

def mem2 (i j : Nat) : List (Nat × Nat) → Bool
  | [] => false
  | (a, b) :: r => match Nat.beq a i with
    | true => (match Nat.beq b j with | true => true | false => mem2 i j r)
    | false => mem2 i j r
def mem1 (i : Nat) : List Nat → Bool
  | [] => false
  | a :: r => match Nat.beq a i with | true => true | false => mem1 i r

def nthR : List Rec → Nat → Option Rec
  | [], _ => none
  | q :: _, 0 => some q
  | _ :: r, n + 1 => nthR r n

def chkP (P : Program) (ops : Array Oper) (o : Oper) (g : Env) (w' : World) (v : Value) (hist : List Rec) : List Nat → Prop
  | [] => True
  | k :: ks => (match nthR hist k with
    | some q => chkOne P ops q o g w' v
    | none => False) ∧ chkP P ops o g w' v hist ks

/-- heavies, open pairs -/
abbrev Ann := List Nat × List (Nat × Nat)
/-- of each operation: is it heavy; how far back in the list lie those whose order with it is open -/
abbrev Plan := List (Bool × List Nat)

def denDraw (P : Program) (ops : Array Oper) : List Oper → Plan → List Rec → Env → World → (Env → World → Prop) → Prop
  | [], _, _, g, w, K => K g w
  | _ :: _, [], _, _, _, _ => False
  | o :: rest, (hv, ks) :: pl, hist, g, w, K =>
    opStep P ops g o w fun v w' =>
      match hv, ks with
      | true, [] => denDraw P ops rest pl (⟨true, o, g, w, v⟩ :: hist) (put g o.dst v) w' K
      | true, k :: ks => chkP P ops o g w' v hist (k :: ks) ∧ denDraw P ops rest pl (⟨true, o, g, w, v⟩ :: hist) (put g o.dst v) w' K
      | false, [] => w' = w ∧ denDraw P ops rest pl (⟨false, o, g, w, v⟩ :: hist) (put g o.dst v) w K
      | false, k :: ks => w' = w ∧ chkP P ops o g w v hist (k :: ks) ∧ denDraw P ops rest pl (⟨false, o, g, w, v⟩ :: hist) (put g o.dst v) w K

/-- A loop comes to an end: a relation that holds at its head, with a number that each round lowers. -/
def LoopD {α : Type} (F : (α → World → Prop) → α → World → Prop) (g : α) (w : World) : Prop :=
  ∃ I : Nat → α → World → Prop, (∃ n, I n g w) ∧ ∀ n g w, I n g w → F (fun g' w' => ∃ m, m < n ∧ I m g' w') g w

def thenE (K : Env → World → Prop) (Q : Exit → Env → World → Prop) : Exit → Env → World → Prop
  | .normal, g, w => K g w
  | e, g, w => Q e g w

def blk (id : Nat) (Q : Exit → Env → World → Prop) : Exit → Env → World → Prop
  | .exit i, g, w => (match Nat.beq i id with | true => Q .normal g w | false => Q (.exit i) g w)
  | e, g, w => Q e g w

/-- The ways of a region: in the text's order; in another one, with more edges; by which of two comes first. -/
inductive HT where
  | leaf (an : Ann) (pl : Plan)
  | perm (π : List Nat) (es : List (Nat × Nat)) (an : Ann) (pl : Plan)
  | split (a b : Nat) (x y : HT)

/-- A function, and the ways of its regions that draw their order. -/
structure FA where
  f : FuncId
  t : Nat → HT

def posOf : List Nat → Nat → Nat
  | [], _ => 0
  | a :: r, i => match Nat.beq a i with | true => 0 | false => posOf r i + 1
def pickEdges (π : List Nat) (i : Nat) : List (Nat × Nat) → List Edge
  | [] => []
  | (a, b) :: r => match Nat.beq b i with | true => ⟨posOf π a, .data⟩ :: pickEdges π i r | false => pickEdges π i r
def permOp (π : List Nat) (es : List (Nat × Nat)) (i : Nat) (o : Oper) : Oper :=
  { dst := o.dst, op := o.op, type := o.type, pos := o.pos, after := (o.after.toList.map (fun e => (⟨posOf π e.on, e.ground⟩ : Edge)) ++ pickEdges π i es).toArray,
    guard := match o.guard with | none => none | some (j, b) => some (posOf π j, b) }
def permL (π : List Nat) (es : List (Nat × Nat)) (l : List Oper) : List Nat → List Oper
  | [] => []
  | i :: r => match l[i]? with | some o => permOp π es i o :: permL π es l r | none => permL π es l r
def permOps (π : List Nat) (es : List (Nat × Nat)) (ops : Array Oper) : Array Oper := (permL π es ops.toList π).toArray

/-- In the order that this world draws, is one operation ahead of another one? -/
def ordB (f : FuncId) (id : Nat) (ops : Array Oper) (a b : Nat) (w : World) : Bool :=
  Nat.ble ((Region.schedule true ops (w.tape w.drawn (.order f id))).idxOf a) ((Region.schedule true ops (w.tape w.drawn (.order f id))).idxOf b)

def Ord (b : Bool) (A B : Prop) : Prop := match b with | true => A | false => B

def denT (P : Program) (f : FuncId) (id : Nat) (ops : Array Oper) : HT → Env → World → World → (Env → World → Prop) → Prop
  | .leaf _ pl, g, _, w, K => denDraw P ops ops.toList pl [] g w K
  | .perm π es _ pl, g, _, w, K => denDraw P (permOps π es ops) (permOps π es ops).toList pl [] g w K
  | .split a b x y, g, w0, w, K => Ord (ordB f id ops a b w0) (denT P f id ops x g w0 w K) (denT P f id ops y g w0 w K)

def den (P : Program) (ann : FA) : Code → (Exit → Env → World → Prop) → Env → World → Prop
  | .skip, Q, g, w => Q .normal g w
  | .region id ops draw, Q, g, w => match draw with
    | false => denOps P ops ops.toList g w (Q .normal)
    | true => denT P ann.f id ops (ann.t id) g w { w with drawn := w.drawn + 1 } (Q .normal)
  | .seq x y, Q, g, w => den P ann x (thenE (fun g w => den P ann y Q g w) Q) g w
  | .cond c x y, Q, g, w => Cnd (ev g c) (den P ann x Q g w) (den P ann y Q g w)
  | .block id c, Q, g, w => den P ann c (blk id Q) g w
  | .loop c, Q, g, w => LoopD (fun X g w => den P ann c (thenE X Q) g w) g w
  | .scope c, Q, g, w => den P ann c Q g w
  | .label _, Q, g, w => Q .normal g w
  | .exit id, Q, g, w => Q (.exit id) g w
  | .ret, Q, g, w => Q .ret g w
  | _, _, _, _ => False

/- THE STATIC LOOK. -/
def dstOk (N : Nat) (o : Oper) : Bool := match o.dst with | some d => Nat.blt d N | none => true

/-- i before j in every order -/
def bef (b : Array Nat) (i j : Nat) : Bool := (b.getD j 0).testBit i
def looks (ops : Array Oper) (o : Oper) : List Tmp :=
  (o.op.operands.toList.filterMap fun | .tmp t => some t | _ => none) ++ (match o.guard with | some (j, _) => (slotOf ops j).toList | none => [])
def clash (ops : Array Oper) (x y : Oper) : Bool :=
  (match x.dst with | some d => (looks ops y).contains d || y.dst == some d | none => false) ||
  (match y.dst with | some d => (looks ops x).contains d | none => false)
def isSel (o : Oper) : Bool := match o.op with | .select .. => true | _ => false
def isFn (o : Oper) : Bool := match o.op with | .call { callee := .value (.func _), .. } => true | _ => false
/-- A called function has a body, and printing is none of what is called. -/
def callOk (P : Program) (o : Oper) : Bool :=
  match o.op with
  | .call c => (match c.callee with
    | .value (.func f) => (match P.funcs[f]? with | some fn => fn.body.isSome && !(fn.name == "runtime.NumGoroutine") | none => false)
    | .builtin b => (match b with | .print | .println => false | _ => true)
    | _ => true)
  | _ => true
def isMove (o : Oper) : Bool := match o.op with | .move _ | .assign _ => true | _ => false

/-- Of operations i < j: whatever must be ordered is ordered, or told among the pairs. -/
def pairOk (ops : Array Oper) (b : Array Nat) (an : Ann) (i j : Nat) (x y : Oper) : Bool :=
  bef b i j ||
  (!clash ops x y &&
    match mem1 i an.1, mem1 j an.1 with
    | true, true => false
    | false, false => true
    | true, false => isMove y || mem2 i j an.2
    | false, true => isMove x || mem2 i j an.2)

def allPairs (ops : Array Oper) (b : Array Nat) (an : Ann) : Bool :=
  (List.range ops.size).all fun j => (List.range j).all fun i =>
    match ops[i]?, ops[j]? with
    | some x, some y => pairOk ops b an i j x y
    | _, _ => false

def edgesBack (ops : Array Oper) : Bool :=
  (List.range ops.size).all fun i => match ops[i]? with
    | some o => o.after.all fun e => !Region.binds .any e || Nat.blt e.on i
    | none => false

def befClosed (ops : Array Oper) (b : Array Nat) : Bool :=
  (List.range ops.size).all fun j => (List.range ops.size).all fun i =>
    !bef b i j || (match ops[j]? with
      | some o => o.after.any fun e => Region.binds .any e && (Nat.beq e.on i || bef b i e.on)
      | none => false)

def drawOk (ops : Array Oper) (an : Ann) : Bool :=
  edgesBack ops && befClosed ops (Region.before ops) && allPairs ops (Region.before ops) an && (ops.all fun o => !isSel o) &&
    (List.range ops.size).all fun i => match ops[i]? with | some o => !isFn o || mem1 i an.1 | none => false

def planOk (n : Nat) (an : Ann) (pl : Plan) : Bool :=
  (List.range n).all fun i => match pl[i]? with
    | some (h, ks) => h == mem1 i an.1 && an.2.all fun p => !Nat.beq p.2 i || (Nat.blt p.1 i && ks.contains (i - 1 - p.1))
    | none => false

def permOk (π : List Nat) (ops : Array Oper) : Bool :=
  Nat.beq π.length ops.size && ((List.range ops.size).all fun k => match π[k]? with | some i => Nat.beq (posOf π i) k && Nat.blt i ops.size | none => false) &&
    ((List.range ops.size).all fun i => match π[posOf π i]? with | some j => Nat.beq j i | none => false) &&
    ((List.range ops.size).all fun i => match ops[i]? with
      | some o => (o.after.all fun e => Nat.blt e.on ops.size) && (match o.guard with | some (j, _) => Nat.blt j ops.size | none => true)
      | none => false)

def treeOk (P : Program) (N : Nat) (ops : Array Oper) : List (Nat × Nat) → HT → Bool
  | _, .leaf an pl => drawOk ops an && planOk ops.size an pl
  | path, .perm π es an pl => (es.all fun p => mem2 p.1 p.2 path && Nat.blt p.1 ops.size) && permOk π ops && (permOps π es ops).all (dstOk N) && (permOps π es ops).all (callOk P) &&
      drawOk (permOps π es ops) an && planOk (permOps π es ops).size an pl
  | path, .split a b x y => !Nat.beq a b && treeOk P N ops ((a, b) :: path) x && treeOk P N ops ((b, a) :: path) y

def codeOk (P : Program) (N : Nat) (ann : FA) : Code → Bool
  | .skip | .exit _ | .ret | .label _ => true
  | .scope c => codeOk P N ann c
  | .region id ops draw => ops.all (dstOk N) && ops.all (callOk P) && (!draw || treeOk P N ops [] (ann.t id))
  | .seq x y => codeOk P N ann x && codeOk P N ann y
  | .cond _ x y => codeOk P N ann x && codeOk P N ann y
  | .block _ c => codeOk P N ann c
  | .loop c => codeOk P N ann c
  | _ => false

end Go.En

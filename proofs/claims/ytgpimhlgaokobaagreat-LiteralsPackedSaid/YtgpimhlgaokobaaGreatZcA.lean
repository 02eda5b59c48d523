/- Parts of the proof of LiteralsPacked: merged and given short names by a program of ours. -/
import Derived.Orders
import Derived.Below
import Derived.KernelRfl
import Derived.Eval
import Derived.RangeFuncRecord
import Derived.Laws.Sem
import Derived.Scope
import Derived.Test.YtgpimhlgaokobaaGreatRows
set_option linter.unusedVariables false
set_option linter.unusedSimpArgs false
open Array renaming getElem?_setIfInBounds_self_of_lt → aL4, getElem?_setIfInBounds_ne → aL8, getElem?_eq_getElem → aLL, getD_eq_getD_getElem? → aLp, getElem?_eq_none → aME, length_toList → aMm, all_eq_true' → aMo, mem_of_getElem? → aNA
open Bool renaming false_eq_true → aLb, and_eq_true → aLq, not_true → aLu, or_eq_false_iff → aM1, not_eq_true' → aMA, or_eq_true → aMt
open List renaming getElem?_cons_succ → aK8, mem_cons → aL2, length_eq_zero_iff → aLI, drop_eq_getElem_cons → aLK, map_congr_left → aLN, mem_append → aLQ, mem_range → aLR, getElem?_eq_getElem → aLg, getD_eq_getElem?_getD → aLl, getElem?_eq_none → aLo, length_cons → aLw, mem_cons_of_mem → aLx, getElem_of_mem → aMD, mem_cons_self → aML, all_eq_true → aMc, mem_of_getElem? → aMg, mem_map → aMl, map_cons → aMn, mem_append_left → aMp, mem_append_right → aNe, mem_filter → aNn, length_erase_of_mem → aNr, map_nil → aNs
open Nat renaming eq_of_beq_eq_true → aLU, zero_add → aLa, le_refl → aLm, lt_or_ge → aLv, add_assoc → aMH, lt_of_lt_of_le → aMK, le_of_ble_eq_true → aMM, le_trans → aMf, blt_eq → aNa, mod_lt → aNb, lt_trichotomy → aNw
open Option renaming map_some → aLZ, getD_some → aM6
open Option.some renaming inj → aLA
namespace Go.En
open Go
abbrev aNE := World
abbrev aNF := Value
abbrev Env := Nat -> aNF
def put (g : Env) (d : Option Tmp) (v : aNF) : Env :=
 match d with
 | some d => fun i => match Nat.beq i d with | true => v | false => g i
 | none => g
def ev (g : Env) : Operand -> aNF
 | .tmp t => g t
 | .const v => v
 | .global b => .pointer (some ⟨b, 0, none⟩)
 | .func f => .func (.func f) #[] #[]
def Ret (P : Program) (f : FuncId) (args : Array aNF) (w : aNE) (v : aNF) (w' : aNE) : Prop :=
 Calls P f args w fun e w'' => e = .returned v /\ w'' = w'
def aT (P : Program) (f : FuncId) (args : Array aNF) (w : aNE) (R : aNF -> aNE -> Prop) : Prop :=
 ∃ v w', Ret P f args w v w' /\ R v w'
theorem aT.mono {P : Program} {f : FuncId} {args : Array aNF} {w : aNE} {R R' : aNF -> aNE -> Prop} (h : aT P f args w R)
 (hr : ∀ v w', R v w' -> R' v w') : aT P f args w R' :=
 let ⟨v, w', a, b⟩ := h; ⟨v, w', a, hr _ _ b⟩
def aKw (P : Program) (l : Nat) (f : FuncId) (tmps : Array aNF) (aK6 bd : Code) (w : aNE) (v : aNF) (w' : aNE) : Prop :=
 RoundIn Fence.wide 0 P l f tmps aK6 bd w fun e w'' => e = .returned v /\ w'' = w'
def aAK (P : Program) (l : Nat) (f : FuncId) (tmps : Array aNF) (aK6 bd : Code) (w : aNE) (R : aNF -> aNE -> Prop) : Prop :=
 ∃ v w', aKw P l f tmps aK6 bd w v w' /\ R v w'
def aFk (P : Program) (r : Result Next) (K : aNF -> aNE -> Prop) : Prop :=
 match r with
 | .ok (.value v) w => K v w
 | .ok .skip w => K undef w
 | .ok (.enter f args) w => aT P f args w K
 | .ok (.round l f tmps aK6 bd) w => aAK P l f tmps aK6 bd w K
 | _ => False
theorem aA (P : Program) (v : aNF) (w : aNE) (K : aNF -> aNE -> Prop) : aFk P (.ok (.value v) w) K = K v w := Eq.trans rfl rfl
theorem stepR_skip (P : Program) (w : aNE) (K : aNF -> aNE -> Prop) : aFk P (.ok .skip w) K = K undef w := Eq.trans rfl rfl
theorem aCJ (P : Program) (l : Nat) (f : FuncId) (tmps : Array aNF) (aK6 bd : Code) (w : aNE) (K : aNF -> aNE -> Prop) :
 aFk P (.ok (.round l f tmps aK6 bd) w) K = aAK P l f tmps aK6 bd w K := Eq.trans rfl rfl
def aD (P : Program) (s : Sem Next) (w : aNE) (K : aNF -> aNE -> Prop) : Prop := aFk P (s.run P w) K
def jJ (P : Program) (s : Sem Next) (v : aNF) (w : aNE) : Prop := s.run P w = .ok (.value v) w
def Gd (b : Bool) (s : (aNF -> aNE -> Prop) -> Prop) (w : aNE) (K : aNF -> aNE -> Prop) : Prop :=
 match b with
 | true => s K
 | false => K undef w
def asB (v : aNF) : Option Bool := match v with | .bool b => some b | _ => none
def gJ (v : aNF) (want : Bool) : Bool := asB v == some want
def gZ (v : aNF) (A B : Prop) : Prop :=
 match v with
 | .bool b => (match b with | true => A | false => B)
 | _ => False
def HG (ops : Array Oper) (j : Nat) : Option Tmp := (ops[j]?).bind (·.dst)
def Di (g : Env) (t : Option Tmp) (want : Bool) : Bool := match t with | some t => gJ (g t) want | none => false
def V (s : Sem aNF) : Sem Next := do pure (.value (<- s))
def U (s : Sem Unit) : Sem Next := do s; pure .skip
def OV (op : BinOp) : Bool := match op with | .eql | .neq => true | _ => false
def aI (op : BinOp) (t : TypeId) (ox oy : Operand) (x y : aNF) : Sem Next :=
 match OV op with
 | true => V (do eqGuard op t ox oy x y; binOp op t x y)
 | false => V (binOp op t x y)
def lG (b : Builtin) (ats : Array TypeId) (ty : TypeId) (args : List aNF) : Sem Next := builtin b ats ty #[] args.toArray
def PQ (f : aNF) (args : List aNF) : Sem Next := do let d <- Deferred.ofValue f args.toArray; invoke d.target d.args
def aCs (fn : Fn) (first captured : List aNF) : Sem Next := V (Instr.makeFunc fn first.toArray captured.toArray)
def fT (t : TypeId) (ps : List (Nat × aNF)) : Sem Next := V (Instr.build t ps.toArray)
def cV (t : TypeId) (n : Nat) (ps : List (Nat × aNF)) : Sem Next := V (Instr.buildSlice t n ps.toArray)
def S5 (g : Env) (o : Oper) : Sem Next :=
 match o.op with
 | .binOp op t x y _ => aI op t x y (ev g x) (ev g y)
 | .makeFunc fn first captured => aCs fn (first.toList.map (ev g)) (captured.toList.map (ev g))
 | .build t ps => fT t (ps.toList.map fun p => (p.1, ev g p.2))
 | .buildSlice t n ps => cV t n (ps.toList.map fun p => (p.1, ev g p.2))
 | .call c => (match c.callee with
   | .builtin b => lG b c.argTypes o.type (c.args.toList.map (ev g))
   | .value f => PQ (ev g f) (c.args.toList.map (ev g))
   | _ => execOp (ev g) o)
 | _ => execOp (ev g) o
def P9 (P : Program) (g : Env) (o : Oper) (w : aNE) (K : aNF -> aNE -> Prop) : Prop :=
 match o.op with
 | .move x => K (ev g x) w
 | .assign x => K (ev g x) w
 | .call c => (match c.callee with
   | .value (.func f) => aT P f (c.args.toList.map (ev g)).toArray w K
   | _ => aD P (S5 g o) w K)
 | _ => aD P (S5 g o) w K
def PG (P : Program) (ops : Array Oper) (g : Env) (o : Oper) (w : aNE) (K : aNF -> aNE -> Prop) : Prop :=
 match o.guard with
 | none => P9 P g o w K
 | some (j, want) => Gd (Di g (HG ops j) want) (P9 P g o w) w K
def ayH (P : Program) (ops : Array Oper) : List Oper -> Env -> aNE -> (Env -> aNE -> Prop) -> Prop
 | [], g, w, K => K g w
 | o :: rest, g, w, K => PG P ops g o w fun v w' => ayH P ops rest (put g o.dst v) w' K
structure Rec where
 heavy : Bool
 o : Oper
 g : Env
 w : aNE
 v : aNF
def gOf (ops : Array Oper) (o : Oper) (g : Env) : Bool := match o.guard with | none => true | some (j, want) => Di g (HG ops j) want
def Gs (b : Bool) (p : Prop) : Prop := match b with | true => p | false => True
def abX (P : Program) (ops : Array Oper) (q : Rec) (o : Oper) (g : Env) (w' : aNE) (v : aNF) : Prop :=
 match q.heavy with
 | true => Gs (gOf ops o g) (jJ P (S5 g o) v q.w)
 | false => Gs (gOf ops q.o q.g) (jJ P (S5 q.g q.o) q.v w')
def azK (i j : Nat) : List (Nat × Nat) -> Bool
 | [] => false
 | (a, b) :: r => match Nat.beq a i with
   | true => (match Nat.beq b j with | true => true | false => azK i j r)
   | false => azK i j r
def vX (i : Nat) : List Nat -> Bool
 | [] => false
 | a :: r => match Nat.beq a i with | true => true | false => vX i r
def aDk : List Rec -> Nat -> Option Rec
 | [], _ => none
 | q :: _, 0 => some q
 | _ :: r, n + 1 => aDk r n
def aIY (P : Program) (ops : Array Oper) (o : Oper) (g : Env) (w' : aNE) (v : aNF) (hist : List Rec) : List Nat -> Prop
 | [] => True
 | k :: ks => (match aDk hist k with
   | some q => abX P ops q o g w' v
   | none => False) /\ aIY P ops o g w' v hist ks
abbrev Ann := List Nat × List (Nat × Nat)
abbrev aCL := List (Bool × List Nat)
def xL (P : Program) (ops : Array Oper) : List Oper -> aCL -> List Rec -> Env -> aNE -> (Env -> aNE -> Prop) -> Prop
 | [], _, _, g, w, K => K g w
 | _ :: _, [], _, _, _, _ => False
 | o :: rest, (hv, ks) :: pl, hist, g, w, K =>
   PG P ops g o w fun v w' =>
    match hv, ks with
    | true, [] => xL P ops rest pl (⟨true, o, g, w, v⟩ :: hist) (put g o.dst v) w' K
    | true, k :: ks => aIY P ops o g w' v hist (k :: ks) /\ xL P ops rest pl (⟨true, o, g, w, v⟩ :: hist) (put g o.dst v) w' K
    | false, [] => w' = w /\ xL P ops rest pl (⟨false, o, g, w, v⟩ :: hist) (put g o.dst v) w K
    | false, k :: ks => w' = w /\ aIY P ops o g w v hist (k :: ks) /\ xL P ops rest pl (⟨false, o, g, w, v⟩ :: hist) (put g o.dst v) w K
def cS {α : Type} (F : (α -> aNE -> Prop) -> α -> aNE -> Prop) (g : α) (w : aNE) : Prop :=
 ∃ I : Nat -> α -> aNE -> Prop, (∃ n, I n g w) /\ ∀ n g w, I n g w -> F (fun g' w' => ∃ m, m < n /\ I m g' w') g w
def Ex (K : Env -> aNE -> Prop) (Q : Exit -> Env -> aNE -> Prop) : Exit -> Env -> aNE -> Prop :=
 fun e g w => (fun (_ : Program -> Sem Next -> aNE -> (aNF -> aNE -> Prop) -> Prop) => match e with | .normal => K g w | e => Q e g w) aD
def blk (id : Nat) (Q : Exit -> Env -> aNE -> Prop) : Exit -> Env -> aNE -> Prop :=
 fun e g w => (fun (_ : Program -> Sem Next -> aNE -> (aNF -> aNE -> Prop) -> Prop) => match e with | .exit i => (match Nat.beq i id with | true => Q .normal g w | false => Q (.exit i) g w) | e => Q e g w) aD
inductive HT where
 | leaf (an : Ann) (pl : aCL)
 | perm (π : List Nat) (es : List (Nat × Nat)) (an : Ann) (pl : aCL)
 | split (a b : Nat) (x y : HT)
structure FA where
 f : FuncId
 t : Nat -> HT
def BT : List Nat -> Nat -> Nat
 | [], _ => 0
 | a :: r, i => match Nat.beq a i with | true => 0 | false => BT r i + 1
def ML (π : List Nat) (i : Nat) : List (Nat × Nat) -> List Edge
 | [] => []
 | (a, b) :: r => match Nat.beq b i with | true => ⟨BT π a, .data⟩ :: ML π i r | false => ML π i r
def R9 (π : List Nat) (es : List (Nat × Nat)) (i : Nat) (o : Oper) : Oper :=
 { dst := o.dst, op := o.op, type := o.type, pos := o.pos, after := (o.after.toList.map (fun e => (⟨BT π e.on, e.ground⟩ : Edge)) ++ ML π i es).toArray,
   guard := match o.guard with | none => none | some (j, b) => some (BT π j, b) }
def agM (π : List Nat) (es : List (Nat × Nat)) (l : List Oper) : List Nat -> List Oper
 | [] => []
 | i :: r => match l[i]? with | some o => R9 π es i o :: agM π es l r | none => agM π es l r
def vR (π : List Nat) (es : List (Nat × Nat)) (ops : Array Oper) : Array Oper := (agM π es ops.toList π).toArray
def aId (f : FuncId) (id : Nat) (ops : Array Oper) (a b : Nat) (w : aNE) : Bool :=
 Nat.ble ((Region.schedule true ops (w.tape w.drawn (.order f id))).idxOf a) ((Region.schedule true ops (w.tape w.drawn (.order f id))).idxOf b)
def Ord (b : Bool) (A B : Prop) : Prop := match b with | true => A | false => B
def aCv (P : Program) (f : FuncId) (id : Nat) (ops : Array Oper) : HT -> Env -> aNE -> aNE -> (Env -> aNE -> Prop) -> Prop
 | .leaf _ pl, g, _, w, K => xL P ops ops.toList pl [] g w K
 | .perm π es _ pl, g, _, w, K => xL P (vR π es ops) (vR π es ops).toList pl [] g w K
 | .split a b x y, g, w0, w, K => Ord (aId f id ops a b w0) (aCv P f id ops x g w0 w K) (aCv P f id ops y g w0 w K)
def DS : Nat := 1000003
def aDp : aNF -> List Deferred
 | .pointer (some a) => [{ target := .collected a.block, args := #[] }]
 | _ => []
def noMark : aNF -> Bool
 | .pointer _ => false
 | _ => true
def tmpsOf (N : Nat) (g : Env) : Array aNF := Array.ofFn (n := N) fun i => g i.val
def apL (P : Program) (f : FuncId) : Nat := match P.funcs[f]? with | some fn => fn.ntmps | none => 0
def aJl (Q : Exit -> Env -> aNE -> Prop) (g : Env) : Option Code -> aNE -> Prop
 | none, w => Q .normal g w
 | some .ret, w => Q .ret g w
 | some (.exit i), w => Q (.exit i) g w
 | _, _ => False
def aHK (l : Nat) (Q : Exit -> Env -> aNE -> Prop) (g : Env) (w : aNE) : Prop :=
 ∃ r : Loop, w.heap[l]? = some (.loop r) /\ r.state ≠ .busy /\ aJl Q g r.pending (w.putObj l (.loop { r with state := .exhausted }))
def rfW (f : FuncId) (N : Nat) (ps : Array Tmp) (aK6 bd : Code) (g : Env) (w : aNE) : aNE :=
 (w.alloc (.deferred (some []))).alloc (.loop { state := .ready, pending := none, fn := f, tmps := tmpsOf N g, params := ps, assign := aK6, body := bd, defers := w.heap.size })
def aKf (P : Program) (r : Result Next) (K : aNF -> aNE -> Prop) : Prop :=
 match r with
 | .ok (.enter f args) w => aT P f args w K
 | _ => False
def Pa (l : Nat) : aNF := .func (.yield l) #[] #[]
def RF (P : Program) (f : FuncId) (gf : Operand) (ps : Array Tmp) (aK6 bd : Code) (Q : Exit -> Env -> aNE -> Prop) (g : Env) (w : aNE) : Prop :=
 match noMark (g DS) with
 | true => aKf P ((PQ (ev g gf) [Pa (w.heap.size + 1)]).run P (rfW f (apL P f) ps aK6 bd g w)) fun _ w3 =>
  aHK (w.heap.size + 1) Q (put g (some DS) (.pointer (some ⟨w.heap.size, 0, none⟩))) w3
 | false => False
def bD (P : Program) (ann : FA) : Code -> (Exit -> Env -> aNE -> Prop) -> Env -> aNE -> Prop
 | .skip, Q, g, w => Q .normal g w
 | .region id ops draw, Q, g, w => match draw with
   | false => ayH P ops ops.toList g w (Q .normal)
   | true => aCv P ann.f id ops (ann.t id) g w { w with drawn := w.drawn + 1 } (Q .normal)
 | .seq x y, Q, g, w => bD P ann x (Ex (fun g w => bD P ann y Q g w) Q) g w
 | .cond c x y, Q, g, w => gZ (ev g c) (bD P ann x Q g w) (bD P ann y Q g w)
 | .block id c, Q, g, w => bD P ann c (blk id Q) g w
 | .loop c, Q, g, w => cS (fun X g w => bD P ann c (Ex X Q) g w) g w
 | .scope c, Q, g, w => bD P ann c Q g w
 | .label _, Q, g, w => Q .normal g w
 | .exit id, Q, g, w => Q (.exit id) g w
 | .ret, Q, g, w => Q .ret g w
 | .rangeFunc gf ps aK6 bd, Q, g, w => RF P ann.f gf ps aK6 bd Q g w
 | _, _, _, _ => False
def aFg (N : Nat) (o : Oper) : Bool := match o.dst with | some d => Nat.blt d N | none => true
def bef (b : Array Nat) (i j : Nat) : Bool := (b.getD j 0).testBit i
def looks (ops : Array Oper) (o : Oper) : List Tmp :=
 (o.op.operands.toList.filterMap fun | .tmp t => some t | _ => none) ++ (match o.guard with | some (j, _) => (HG ops j).toList | none => [])
def aHo (ops : Array Oper) (x y : Oper) : Bool :=
 (match x.dst with | some d => (looks ops y).contains d || y.dst == some d | none => false) ||
 (match y.dst with | some d => (looks ops x).contains d | none => false)
def arK (o : Oper) : Bool := match o.op with | .select .. => true | _ => false
def aGM (o : Oper) : Bool := match o.op with | .call { callee := .value (.func _), .. } => true | _ => false
def aA1 (o : Oper) : Bool := match o.op with | .defer .. => true | _ => false
def aAr : Operand -> Bool | .tmp t => Nat.blt t DS | _ => true
def avP (P : Program) (o : Oper) : Bool :=
 match o.op with
 | .call c => (match c.callee with
   | .value (.func f) => (match P.funcs[f]? with | some fn => fn.body.isSome && !(fn.name == "runtime.NumGoroutine") | none => false)
   | .builtin b => (match b with | .print | .println => false | _ => true)
   | _ => true)
 | _ => true
def GU (P : Program) (o : Oper) : Bool := avP P o && (o.op.operands.toList.all aAr && (!arK o && !aA1 o))
def Um (o : Oper) : Bool := match o.op with | .move _ | .assign _ => true | _ => false
def Wv (ops : Array Oper) (b : Array Nat) (an : Ann) (i j : Nat) (x y : Oper) : Bool :=
 bef b i j ||
 (!aHo ops x y &&
   match vX i an.1, vX j an.1 with
   | true, true => false
   | false, false => true
   | true, false => Um y || azK i j an.2
   | false, true => Um x || azK i j an.2)
def aCM (ops : Array Oper) (b : Array Nat) (an : Ann) : Bool :=
 (List.range ops.size).all fun j => (List.range j).all fun i =>
  match ops[i]?, ops[j]? with
  | some x, some y => Wv ops b an i j x y
  | _, _ => false
def aA0 (ops : Array Oper) : Bool :=
 (List.range ops.size).all fun i => match ops[i]? with
  | some o => o.after.all fun e => !Region.binds .any e || Nat.blt e.on i
  | none => false
def aAw (ops : Array Oper) (b : Array Nat) : Bool :=
 (List.range ops.size).all fun j => (List.range ops.size).all fun i =>
  !bef b i j || (match ops[j]? with
   | some o => o.after.any fun e => Region.binds .any e && (Nat.beq e.on i || bef b i e.on)
   | none => false)
def ayF (ops : Array Oper) (an : Ann) : Bool :=
 aA0 ops && aAw ops (Region.before ops) && aCM ops (Region.before ops) an && (ops.all fun o => !arK o) &&
  (List.range ops.size).all fun i => match ops[i]? with | some o => !aGM o || vX i an.1 | none => false
def ayP (n : Nat) (an : Ann) (pl : aCL) : Bool :=
 (List.range n).all fun i => match pl[i]? with
  | some (h, ks) => h == vX i an.1 && an.2.all fun p => !Nat.beq p.2 i || (Nat.blt p.1 i && ks.contains (i - 1 - p.1))
  | none => false
def aEB (π : List Nat) (ops : Array Oper) : Bool :=
 Nat.beq π.length ops.size && ((List.range ops.size).all fun k => match π[k]? with | some i => Nat.beq (BT π i) k && Nat.blt i ops.size | none => false) &&
  ((List.range ops.size).all fun i => match π[BT π i]? with | some j => Nat.beq j i | none => false) &&
  ((List.range ops.size).all fun i => match ops[i]? with
    | some o => (o.after.all fun e => Nat.blt e.on ops.size) && (match o.guard with | some (j, _) => Nat.blt j ops.size | none => true)
    | none => false)
def ZR (P : Program) (N : Nat) (ops : Array Oper) : List (Nat × Nat) -> HT -> Bool
 | _, .leaf an pl => ayF ops an && ayP ops.size an pl
 | path, .perm π es an pl => (es.all fun p => azK p.1 p.2 path && Nat.blt p.1 ops.size) && aEB π ops && (vR π es ops).all (aFg N) && (vR π es ops).all (GU P) &&
  ayF (vR π es ops) an && ayP (vR π es ops).size an pl
 | path, .split a b x y => !Nat.beq a b && ZR P N ops ((a, b) :: path) x && ZR P N ops ((b, a) :: path) y
def codeOk (P : Program) (N : Nat) (ann : FA) : Code -> Bool
 | .skip | .exit _ | .ret | .label _ => true
 | .scope c => codeOk P N ann c
 | .region id ops draw => ops.all (aFg N) && ops.all (GU P) && (!draw || ZR P N ops [] (ann.t id))
 | .seq x y => codeOk P N ann x && codeOk P N ann y
 | .cond c x y => aAr c && (codeOk P N ann x && codeOk P N ann y)
 | .block _ c => codeOk P N ann c
 | .loop c => codeOk P N ann c
 | .rangeFunc gf _ _ _ => aAr gf
 | _ => false
def yE : Code -> Bool
 | .seq x y => yE x && yE y
 | .cond _ x y => yE x && yE y
 | .block _ c => yE c
 | .loop c => yE c
 | .scope c => yE c
 | .rangeFunc .. => false
 | _ => true
def aAU : ResultVar -> Bool
 | .tmp t => Nat.blt t DS
 | .cell a _ => Nat.blt a DS
theorem SR (g : Env) (d i : Nat) (v : aNF) : put g (some d) v i = if i = d then v else g i := by
 unfold put
 by_cases h : i = d
 .subst h; simp
 .have : Nat.beq i d = false := by
   cases hb : Nat.beq i d
   .rfl
   .exact absurd (aLU hb) h
  simp [this, h]
theorem aC2 {P : Program} {o : Oper} (h : GU P o = true) : avP P o = true := by
 unfold GU at h; simp only [aLq] at h; exact h.1
theorem aEa {P : Program} {o : Oper} (h : GU P o = true) : ∀ x ∈ o.op.operands, aAr x = true := by
 unfold GU at h; simp only [aLq] at h
 intro x hx
 exact aMc.1 h.2.1 x (by simpa using hx)
theorem aD1 {P : Program} {o : Oper} (h : GU P o = true) : arK o = false := by
 unfold GU at h; simp only [aLq, aMA] at h; exact h.2.2.1
theorem aEp {P : Program} {o : Oper} (h : GU P o = true) : aA1 o = false := by
 unfold GU at h; simp only [aLq, aMA] at h; exact h.2.2.2
def aeG (N : Nat) (ops : Array Oper) : Prop := ∀ (i : Nat) (o : Oper), ops[i]? = some o -> ∀ t, o.dst = some t -> t < N
structure Xu (N : Nat) (g : Env) (a : Act) : Prop where
 le : N <= DS
 defers : a.defers = aDp (g DS)
 size : a.tmps.size = N
 at_ : ∀ i, i ≠ DS -> a.tmps.getD i undef = g i
theorem Xu.ev {N : Nat} {g : Env} {a : Act} (h : Xu N g a) (x : Operand) (hx : aAr x = true) : a.eval x = ev g x := by
 cases x with
 | tmp t =>
   have : t < DS := (aNa (x := t) (y := DS)) ▸ hx
   have e := h.at_ t (Nat.ne_of_lt this)
   simp [Act.eval, En.ev, <- e]
 | _ => simp [Act.eval, En.ev]
theorem Xu.put {N : Nat} {g : Env} {a : Act} (h : Xu N g a) (d : Option Tmp) (v : aNF) (hd : ∀ t, d = some t -> t < N) :
 Xu N (put g d v) (a.put d v) := by
 cases d with
 | none => exact h
 | some t =>
   obtain ⟨h0, h1, h2, h3⟩ := h
   have ht := hd t rfl
   refine ⟨h0, ?_, by simp [Act.put, h2], fun i hne => ?_⟩
   .rw [SR, if_neg (Nat.ne_of_gt (aMK ht h0))]; exact h1
   .rw [SR, <- h3 i hne]
    by_cases hi : i = t
    .subst hi; simp [Act.put, h2, ht]
    .have hi' : t ≠ i := fun e => hi e.symm
     simp [Act.put, hi, aL8 hi']
theorem Xu.wanted {N : Nat} {g : Env} {a : Act} (h : Xu N g a) (ops : Array Oper) (hd : aeG N ops) (o : Oper) :
 Region.wanted o (yielded ops a.tmps) = match o.guard with | none => true | some (j, want) => Di g (HG ops j) want := by
 unfold Region.wanted
 cases o.guard with
 | none => rfl
 | some p =>
   obtain ⟨j, want⟩ := p
   simp only [yielded, Di, HG]
   cases ho : ops[j]? with
   | none => simp
   | some o' =>
     cases hdd : o'.dst with
     | none => simp [hdd]
     | some t =>
       have hlt := hd j o' ho t hdd
       have hle := h.le
       have h3 := h.at_ t (Nat.ne_of_lt (aMK hlt hle))
       simp only [hdd, Option.bind_some, gJ, asB, <- h3]
       simp only [aLp]
       cases ht : a.tmps[t]? with
       | none => simp [undef]
       | some v => cases v <;> simp
def upX (P : Program) (o : Oper) (a : Act) (next : Act -> aNE -> Prop) : Result Next -> Prop
 | .ok (.value v) w' => next (a.put o.dst v) w'
 | .ok .skip w' => next (a.put o.dst undef) w'
 | .ok (.enter f args) w' => ∃ v w'', Ret P f args w' v w'' /\ next (a.put o.dst v) w''
 | .ok (.round l f tmps aK6 bd) w' => ∃ v w'', aKw P l f tmps aK6 bd w' v w'' /\ next (a.put o.dst v) w''
 | _ => False
def aD4 (P : Program) (o : Oper) (a : Act) (w : aNE) (next : Act -> aNE -> Prop) : Prop := aA1 o = false /\ upX P o a next ((execOp a.eval o).run P w)
def WL (P : Program) (ops : Array Oper) (i : Nat) (K : Act -> aNE -> Prop) (a : Act) (w : aNE) : Prop :=
 match ops[i]? with
 | none => K a w
 | some o => if Region.wanted o (yielded ops a.tmps) then aD4 P o a w K else K (a.put o.dst undef) w
def Ht (P : Program) (ops : Array Oper) (Q : Act -> aNE -> Prop) : List Nat -> Act -> aNE -> Prop
 | [], a, w => Q a w
 | i :: rest, a, w => WL P ops i (Ht P ops Q rest) a w
def azM (P : Program) (ops : Array Oper) (Q : Act -> aNE -> Prop) : Nat -> Array Bool -> Act -> aNE -> Prop
 | 0, listed, a, w => Region.ready .any ops listed = [] /\ Q a w
 | fuel + 1, listed, a, w =>
   (Region.ready .any ops listed = [] -> Q a w) /\ ∀ i ∈ Region.ready .any ops listed, WL P ops i (azM P ops Q fuel (listed.setIfInBounds i true)) a w
theorem aAB {P : Program} {o : Oper} {a : Act} {w : aNE} {K K' : Act -> aNE -> Prop} (h : ∀ a w, K a w -> K' a w) (hh : aD4 P o a w K) : aD4 P o a w K' := by
 refine ⟨hh.1, ?_⟩
 have hh := hh.2
 generalize (execOp a.eval o).run P w = r at *
 cases r with
 | ok x w' =>
   cases x <;> simp only [upX] at hh ⊢ <;> first | exact h _ _ hh | (obtain ⟨v, w'', h1, h2⟩ := hh; exact ⟨v, w'', h1, h _ _ h2⟩) | exact hh
 | halt x w' => exact hh.elim
theorem aEg {P : Program} {ops : Array Oper} {i : Nat} {a : Act} {w : aNE} {K K' : Act -> aNE -> Prop} (h : ∀ a w, K a w -> K' a w) (hh : WL P ops i K a w) : WL P ops i K' a w := by
 unfold WL at *
 split
 .exact h _ _ (by simpa [*] using hh)
 .rename_i o ho
  simp only [ho] at hh
  split
  .rename_i hw; simp only [hw, if_true] at hh; exact aAB h hh
  .rename_i hw; simp only [hw] at hh; exact h _ _ hh
def avV (ro : Option Nat) : Fence := { Fence.wide with round := ro }
theorem aF7 {P : Program} {ops : Array Oper} {Q : Act -> aNE -> Prop} (ro : Option Nat) : ∀ (L : List Nat) (a : Act) (w : aNE), Ht P ops Q L a w →
 wpOpsIn (avV ro) 0 P ops (fun e a w => e = .normal /\ Q a w) L a w := by
 intro L
 induction L with
 | nil => intro a w h; exact ⟨rfl, h⟩
 | cons i L ih =>
   intro a w h
   simp only [Ht, WL] at h
   simp only [wpOpsIn]
   cases ho : ops[i]? with
   | none => rw [ho] at h; exact ih _ _ h
   | some o =>
     rw [ho] at h
     simp only at h ⊢
     by_cases hw : Region.wanted o (yielded ops a.tmps) = true
     .rw [if_pos hw] at h ⊢
      obtain ⟨hd, h⟩ := h
      refine ⟨fun _ _ => trivial, ?_⟩
      rw [Oper.semAt_eq _ _ _ (fun c hc => by simp [aA1, hc] at hd)]
      generalize (execOp a.eval o).run P w = r at *
      cases r with
      | halt x w' => exact h.elim
      | ok x w' =>
        cases x <;> simp only [upX] at h <;> simp only [Oper.uponIn] <;> try (exact h.elim)
        .exact ih _ _ h
        .exact ih _ _ h
        .obtain ⟨v, w'', h1, h2⟩ := h
         refine ⟨fun hn => by simp [avV, Fence.wide] at hn, ?_⟩
         have := callsIn_wide (n := 0).2 h1
         refine CallsIn.mono (F := avV ro) (n := 0) this ?_
         rintro e w3 ⟨rfl, rfl⟩
         exact ih _ _ h2
        .obtain ⟨v, w'', h1, h2⟩ := h
         refine ⟨fun hn => by simp [avV, Fence.wide] at hn, ?_⟩
         refine RoundIn.mono (F := avV ro) (n := 0) h1 ?_
         rintro e w3 ⟨rfl, rfl⟩
         exact ih _ _ h2
     .rw [if_neg hw] at h ⊢
      exact ⟨fun _ _ => trivial, ih _ _ h⟩
section
variable {P : Program} {ops : Array Oper}
def asK (P : Program) (ops : Array Oper) (g : Env) (o : Oper) (w : aNE) (v : aNF) (w' : aNE) : Prop :=
 ∀ K : aNF -> aNE -> Prop, K v w' -> PG P ops g o w K
theorem aEP {s : Sem Next} {w : aNE} {K : aNF -> aNE -> Prop} (h : aD P s w K) :
 ∃ v w', (∀ K' : aNF -> aNE -> Prop, K' v w' -> aD P s w K') /\ K v w' := by
 unfold aD at *
 generalize s.run P w = r at *
 match r, h with
 | .ok (.value v) w1, h => exact ⟨v, w1, fun _ h' => h', h⟩
 | .ok .skip w1, h => exact ⟨undef, w1, fun _ h' => h', h⟩
 | .ok (.enter f args) w1, h =>
   obtain ⟨v, w', hr, hk⟩ := h
   exact ⟨v, w', fun _ h' => ⟨v, w', hr, h'⟩, hk⟩
 | .ok (.round l f tmps aK6 bd) w1, h =>
   obtain ⟨v, w', hr, hk⟩ := h
   exact ⟨v, w', fun _ h' => ⟨v, w', hr, h'⟩, hk⟩
theorem aAt {g : Env} {o : Oper} {w : aNE} {K : aNF -> aNE -> Prop} (h : P9 P g o w K) :
 ∃ v w', (∀ K' : aNF -> aNE -> Prop, K' v w' -> P9 P g o w K') /\ K v w' := by
 unfold P9 at *
 split at h
 .exact ⟨_, _, fun _ h' => h', h⟩
 .exact ⟨_, _, fun _ h' => h', h⟩
 .split at h
  .obtain ⟨v, w', a, b⟩ := h
   exact ⟨v, w', fun _ h' => ⟨v, w', a, h'⟩, b⟩
  .exact aEP h
 .exact aEP h
theorem aIy (op : BinOp) (t : TypeId) (ox oy : Operand) (x y : aNF) : aI op t ox oy x y = V (do eqGuard op t ox oy x y; binOp op t x y) := by
 cases op <;> simp [aI, OV, eqGuard]
theorem aHM {g : Env} {o : Oper} (ho : GU P o = true) : S5 g o = execOp (ev g) o := by
 have ho := aC2 ho
 unfold S5
 split
 .rename_i op t x y yt hx
  simp only [execOp, hx, aIy, V]
 .rename_i fn first captured hx
  have e1 : (List.map (ev g) first.toList).toArray = first.map (ev g) := by obtain ⟨l⟩ := first; simp
  have e2 : (List.map (ev g) captured.toList).toArray = captured.map (ev g) := by obtain ⟨l⟩ := captured; simp
  simp only [execOp, hx, aCs, V, e1, e2]
 .rename_i t ps hx
  have e : (List.map (fun p : Nat × Operand => (p.1, ev g p.2)) ps.toList).toArray = ps.map (fun p => (p.1, ev g p.2)) := by obtain ⟨l⟩ := ps; simp
  simp only [execOp, hx, fT, V, e]
 .rename_i t n ps hx
  have e : (List.map (fun p : Nat × Operand => (p.1, ev g p.2)) ps.toList).toArray = ps.map (fun p => (p.1, ev g p.2)) := by obtain ⟨l⟩ := ps; simp
  simp only [execOp, hx, cV, V, e]
 .rename_i c hx
  split
  .rename_i b hb
   simp only [execOp, hx, resolve, hb, pure_bind, invoke, lG]
   unfold avP at ho
   simp only [hx, hb] at ho
   have e : (List.map (ev g) c.args.toList).toArray = c.args.map (ev g) := by obtain ⟨l⟩ := c.args; simp
   rw [e]
   cases b <;> first | rfl | (cases ho)
  .rename_i f hb
   have e : (List.map (ev g) c.args.toList).toArray = c.args.map (ev g) := by obtain ⟨l⟩ := c.args; simp
   simp only [execOp, hx, resolve, hb, PQ, e]
  .rfl
 .rfl
theorem akT {f : FuncId} {fn : Func} (hf : P.funcs[f]? = some fn) (hb : fn.body.isSome = true) (hn : (fn.name == "runtime.NumGoroutine") = false)
 (args : Array aNF) (w : aNE) : (callFunc f args).run P w = .ok (.enter f args) w := by
 unfold callFunc
 have hb' : fn.body.isNone = false := by cases h : fn.body <;> simp_all
 show Sem.run P (Sem.program fun p => _) w = _
 simp only [Sem.run]
 simp only [bind, Sem.bind, hf, hn, hb', aLb, if_false]
 rfl
theorem Tr {g : Env} {o : Oper} {w : aNE} {K : aNF -> aNE -> Prop} (h : PG P ops g o w K) :
 ∃ v w', asK P ops g o w v w' /\ K v w' := by
 unfold asK
 unfold PG at *
 split at h
 .obtain ⟨v, w', h1, h2⟩ := aAt h
  exact ⟨v, w', h1, h2⟩
 .rename_i j want hg
  unfold Gd at *
  cases hb : Di g (HG ops j) want with
  | true =>
    simp only [hb] at h
    obtain ⟨v, w', h1, h2⟩ := aAt h
    exact ⟨v, w', fun K hk => h1 K hk, h2⟩
  | false =>
    simp only [hb] at h
    exact ⟨_, _, fun K hk => hk, h⟩
theorem asW {N i : Nat} {g : Env} {a : Act} {o : Oper} {w w' : aNE} {v : aNF} {next : Act -> aNE -> Prop}
 (hi : ops[i]? = some o) (hc : GU P o = true) (hd : aeG N ops) (hr : Xu N g a) (hy : asK P ops g o w v w') (hn : next (a.put o.dst v) w') : WL P ops i next a w := by
 have h := hy (fun v2 w2 => v2 = v /\ w2 = w') ⟨rfl, rfl⟩
 unfold WL
 rw [hi]
 simp only [hr.wanted ops hd]
 have run : P9 P g o w (fun v2 w2 => v2 = v /\ w2 = w') -> aD4 P o a w next := by
  intro h
  refine ⟨aEp hc, ?_⟩
  have hevs : execOp a.eval o = execOp (ev g) o := execOp_congr o (fun cs b he => by have := aD1 hc; simp [arK, he] at this) (fun x hx => hr.ev x (aEa hc x hx))
  have stp : aD P (S5 g o) w (fun v2 w2 => v2 = v /\ w2 = w') -> upX P o a next ((execOp (ev g) o).run P w) := by
   intro h
   rw [aHM hc] at h
   unfold aD at h
   generalize (execOp (ev g) o).run P w = r at *
   match r, h with
   | .ok (.value v) w1, h => obtain ⟨rfl, rfl⟩ := h; exact hn
   | .ok .skip w1, h => obtain ⟨rfl, rfl⟩ := h; exact hn
   | .ok (.enter f args) w1, h =>
     obtain ⟨v2, w2, hret, rfl, rfl⟩ := h
     exact ⟨_, _, hret, hn⟩
   | .ok (.round l f tmps aK6 bd) w1, h =>
     obtain ⟨v2, w2, hret, rfl, rfl⟩ := h
     exact ⟨_, _, hret, hn⟩
  rw [hevs]
  unfold P9 at h
  split at h
  .rename_i x hx
   obtain ⟨rfl, rfl⟩ := h
   simp only [execOp, hx]; exact hn
  .rename_i x hx
   obtain ⟨rfl, rfl⟩ := h
   simp only [execOp, hx]; exact hn
  .rename_i c hx
   split at h
   .rename_i f hcal
    obtain ⟨v2, w2, hret, rfl, rfl⟩ := h
    have e : (execOp (ev g) o).run P w = .ok (.enter f (List.map (ev g) c.args.toList).toArray) w := by
     have hc := aC2 hc
     unfold avP at hc
     simp only [hx, hcal] at hc
     cases hfn : P.funcs[f]? with
     | none => rw [hfn] at hc; cases hc
     | some fn =>
       rw [hfn] at hc
       simp only [aLq, aMA] at hc
       have ea : (List.map (ev g) c.args.toList).toArray = c.args.map (ev g) := by obtain ⟨l⟩ := c.args; simp
       rw [ea]
       simp only [execOp, hx, resolve, hcal, ev, Deferred.ofValue, pure_bind, invoke]
       simp only [Array.empty_append, Array.append_empty]
       exact akT hfn hc.1 hc.2 _ w
    rw [e]
    exact ⟨_, _, hret, hn⟩
   .exact stp h
  .exact stp h
 unfold PG at h
 cases hg : o.guard with
 | none =>
   rw [hg] at h
   simp only [if_true]
   exact run h
 | some p =>
   obtain ⟨j, want⟩ := p
   simp only [hg] at h
   simp only
   by_cases hb : Di g (HG ops j) want = true
   .rw [if_pos hb]
    simp only [hb, Gd] at h
    exact run h
   .rw [if_neg hb]
    have hb' : Di g (HG ops j) want = false := by simpa using hb
    simp only [hb', Gd] at h
    obtain ⟨rfl, rfl⟩ := h
    exact hn
def agP (P : Program) (ops : Array Oper) : Prop := ∀ (i : Nat) (o : Oper), ops[i]? = some o -> GU P o = true
theorem aGb {N : Nat} (hd : aeG N ops) (hca : agP P ops) {Q : Act -> aNE -> Prop} {K : Env -> aNE -> Prop}
 (hQ : ∀ g a w, Xu N g a -> K g w -> Q a w) :
 ∀ (l : List Oper) (k : Nat) (g : Env) (a : Act) (w : aNE), (∀ j, l[j]? = ops[k + j]?) -> Xu N g a -> ayH P ops l g w K →
   Ht P ops Q (List.range' k l.length) a w := by
 intro l
 induction l with
 | nil => intro k g a w _ hr h; exact hQ _ _ _ hr h
 | cons o l ih =>
   intro k g a w hl hr h
   have h0 : ops[k]? = some o := by have := hl 0; simpa using this.symm
   obtain ⟨v, w', hy, hk⟩ := Tr h
   rw [aLw, List.range'_succ]
   show WL P ops k (Ht P ops Q _) a w
   refine asW h0 (hca k o h0) hd hr hy ?_
   refine ih (k + 1) _ _ _ (fun j => ?_) (hr.put _ _ (hd k o h0)) hk
   have := hl (j + 1)
   simp only [aK8] at this
   rw [this]; congr 1; omega
def asY (an : Ann) (O : Nat -> Oper) (G : Nat -> Env) (W : Nat -> aNE) (V : Nat -> aNF) (i : Nat) : Rec :=
 ⟨vX i an.1, O i, G i, W i, V i⟩
def aE1 (P : Program) (ops : Array Oper) (an : Ann) (O : Nat -> Oper) (G : Nat -> Env) (W : Nat -> aNE) (V : Nat -> aNF) (i j : Nat) : Prop :=
 abX P ops (asY an O G W V i) (O j) (G j) (W (j + 1)) (V j)
structure Run (P : Program) (ops : Array Oper) (an : Ann) (g0 : Env) (w0 : aNE) (n : Nat) (O : Nat -> Oper) (G : Nat -> Env) (W : Nat -> aNE) (V : Nat -> aNF) : Prop where
 g0 : G 0 = g0
 w0 : W 0 = w0
 op : ∀ i, i < n -> ops[i]? = some (O i)
 yld : ∀ i, i < n -> asK P ops (G i) (O i) (W i) (V i) (W (i + 1))
 light : ∀ i, i < n -> vX i an.1 = false -> W (i + 1) = W i
 env : ∀ i, i < n -> G (i + 1) = put (G i) (O i).dst (V i)
 chk : ∀ i j, i < j -> j < n -> azK i j an.2 = true -> aE1 P ops an O G W V i j
theorem aDA {o : Oper} {g : Env} {w' : aNE} {v : aNF} {hist : List Rec} : ∀ {ks : List Nat}, aIY P ops o g w' v hist ks -> ∀ k ∈ ks, ∃ q, aDk hist k = some q /\ abX P ops q o g w' v := by
 intro ks
 induction ks with
 | nil => intro _ k hk; cases hk
 | cons a ks ih =>
   rintro ⟨h1, h2⟩ k hk
   rcases aL2.1 hk with rfl | hk
   .cases hn : aDk hist k with
    | none => rw [hn] at h1; exact h1.elim
    | some q => rw [hn] at h1; exact ⟨q, rfl, h1⟩
   .exact ih h2 k hk
theorem aFy {n : Nat} {an : Ann} {pl : aCL} (h : ayP n an pl = true) {i : Nat} (hi : i < n) :
 ∃ ks, pl[i]? = some (vX i an.1, ks) /\ ∀ j, azK j i an.2 = true -> j < i /\ (i - 1 - j) ∈ ks := by
 have := aMc.1 h i (aLR.2 hi)
 cases hp : pl[i]? with
 | none => rw [hp] at this; cases this
 | some p =>
   obtain ⟨hv, ks⟩ := p
   rw [hp] at this
   simp only [aLq] at this
   obtain ⟨h1, h2⟩ := this
   have h1 : hv = vX i an.1 := by simpa using h1
   refine ⟨ks, by rw [h1], fun j hj => ?_⟩
   have mm : ∀ (l : List (Nat × Nat)), azK j i l = true -> (j, i) ∈ l := by
    intro l
    induction l with
    | nil => intro h; cases h
    | cons q r ih =>
      obtain ⟨a, b⟩ := q
      intro h
      unfold azK at h
      cases ha : Nat.beq a j with
      | true =>
        simp only [ha] at h
        cases hb : Nat.beq b i with
        | true =>
          obtain rfl := aLU ha
          obtain rfl := aLU hb
          exact aML
        | false => simp only [hb] at h; exact aLx _ (ih h)
      | false => simp only [ha] at h; exact aLx _ (ih h)
   have := aMc.1 h2 (j, i) (mm _ hj)
   simp only [Nat.beq_refl, aLu, Bool.false_or, aLq] at this
   refine ⟨?_, by simpa using this.2⟩
   have hlt := this.1
   exact (aNa (x := j) (y := i)) ▸ hlt
theorem aC8 {an : Ann} {pl : aCL} {g0 : Env} {w0 : aNE} {K : Env -> aNE -> Prop} (hpl : ayP ops.size an pl = true) :
 ∀ (l : List Oper) (m : Nat) (hist : List Rec) (O : Nat -> Oper) (G : Nat -> Env) (W : Nat -> aNE) (V : Nat -> aNF),
   (∀ j, l[j]? = ops[m + j]?) -> m + l.length = ops.size -> Run P ops an g0 w0 m O G W V -> (∀ i, i < m -> aDk hist (m - 1 - i) = some (asY an O G W V i)) →
   xL P ops l (pl.drop m) hist (G m) (W m) K →
   ∃ (O : Nat -> Oper) (G : Nat -> Env) (W : Nat -> aNE) (V : Nat -> aNF), Run P ops an g0 w0 (m + l.length) O G W V /\ K (G (m + l.length)) (W (m + l.length)) := by
 intro l
 induction l with
 | nil => intro m hist O G W V _ _ hr _ h; exact ⟨O, G, W, V, hr, by unfold xL at h; exact h⟩
 | cons o l ih =>
   intro m hist O G W V hl hlen hr hh h
   have h0 : ops[m]? = some o := by have := hl 0; simpa using this.symm
   have hmn : m < ops.size := by rw [aLw] at hlen; omega
   obtain ⟨ks, hk1, hk2⟩ := aFy hpl hmn
   have hdrop : pl.drop m = (vX m an.1, ks) :: pl.drop (m + 1) := by
    have hlt : m < pl.length := by
     rcases aLv m pl.length with h | h
     .exact h
     .rw [aLo h] at hk1; cases hk1
    rw [aLK hlt]
    rw [aLg hlt] at hk1
    rw [aLA hk1]
   rw [hdrop] at h
   obtain ⟨v, w', hy, hk⟩ := Tr h
   have key : (vX m an.1 = false -> w' = W m) /\ (∀ k ∈ ks, ∃ q, aDk hist k = some q /\ abX P ops q o (G m) w' v) /\
       (xL P ops l (pl.drop (m + 1)) (⟨vX m an.1, o, G m, W m, v⟩ :: hist) (put (G m) o.dst v) w' K) := by
    have nil : ∀ w', ∀ k ∈ ([] : List Nat), ∃ q, aDk hist k = some q /\ abX P ops q o (G m) w' v := fun _ k hk => (by cases hk)
    cases hm : vX m an.1 with
    | true =>
      rw [hm] at hk
      cases ks with
      | nil => exact ⟨fun e => (by cases e), nil _, hk⟩
      | cons k ks => exact ⟨fun e => (by cases e), aDA hk.1, hk.2⟩
    | false =>
      rw [hm] at hk
      cases ks with
      | nil => obtain ⟨rfl, hk⟩ := hk; exact ⟨fun _ => rfl, nil _, hk⟩
      | cons k ks => obtain ⟨rfl, hc, hk⟩ := hk; exact ⟨fun _ => rfl, aDA hc, hk⟩
   obtain ⟨kl, c1, c2⟩ := key
   let O' : Nat -> Oper := fun i => if i = m then o else O i
   let V' : Nat -> aNF := fun i => if i = m then v else V i
   let G' : Nat -> Env := fun i => if i = m + 1 then put (G m) o.dst v else G i
   let W' : Nat -> aNE := fun i => if i = m + 1 then w' else W i
   have eO : ∀ i, i < m -> O' i = O i := fun i hi => if_neg (by omega)
   have eV : ∀ i, i < m -> V' i = V i := fun i hi => if_neg (by omega)
   have eG : ∀ i, i <= m -> G' i = G i := fun i hi => if_neg (by omega)
   have eW : ∀ i, i <= m -> W' i = W i := fun i hi => if_neg (by omega)
   have oO : O' m = o := if_pos rfl
   have oV : V' m = v := if_pos rfl
   have oG : G' (m + 1) = put (G m) o.dst v := if_pos rfl
   have oW : W' (m + 1) = w' := if_pos rfl
   have eR : ∀ i, i < m -> asY an O' G' W' V' i = asY an O G W V i := fun i hi => by
    simp only [asY, eO i hi, eV i hi, eG i (by omega), eW i (by omega)]
   have hr' : Run P ops an g0 w0 (m + 1) O' G' W' V' := by
    refine ⟨by rw [eG 0 (by omega)]; exact hr.g0, by rw [eW 0 (by omega)]; exact hr.w0, fun i hi => ?_, fun i hi => ?_, fun i hi hm => ?_, fun i hi => ?_, fun i j hij hj hm => ?_⟩
    .by_cases hi' : i = m
     .subst hi'; rw [oO]; exact h0
     .rw [eO i (by omega)]; exact hr.op i (by omega)
    .by_cases hi' : i = m
     .subst hi'; rw [oO, oV, oW, eG i (by omega), eW i (by omega)]; exact hy
     .rw [eO i (by omega), eV i (by omega), eG i (by omega), eW i (by omega), eW (i + 1) (by omega)]; exact hr.yld i (by omega)
    .by_cases hi' : i = m
     .subst hi'; rw [oW, eW i (by omega)]; exact kl hm
     .rw [eW i (by omega), eW (i + 1) (by omega)]; exact hr.light i (by omega) hm
    .by_cases hi' : i = m
     .subst hi'; rw [oO, oV, oG, eG i (by omega)]
     .rw [eO i (by omega), eV i (by omega), eG i (by omega), eG (i + 1) (by omega)]; exact hr.env i (by omega)
    .unfold aE1
     by_cases hj' : j = m
     .subst hj'
      rw [eR i (by omega), oO, oV, oW, eG j (by omega)]
      obtain ⟨q, hq, hc⟩ := c1 _ (hk2 i hm).2
      rw [hh i hij] at hq
      obtain rfl := aLA hq
      exact hc
     .rw [eR i (by omega), eO j (by omega), eV j (by omega), eG j (by omega), eW (j + 1) (by omega)]
      exact hr.chk i j hij (by omega) hm
   have := ih (m + 1) (⟨vX m an.1, o, G m, W m, v⟩ :: hist) O' G' W' V' (fun j => by
       have := hl (j + 1)
       simp only [aK8] at this
       rw [this]; congr 1; omega) (by rw [aLw] at hlen; omega) hr' (fun i hi => by
       by_cases hi' : i = m
       .subst hi'
        rw [show i + 1 - 1 - i = 0 from by omega]
        simp only [aDk, asY, oO, oV, eG i (by omega), eW i (by omega)]
       .rw [eR i (by omega), show m + 1 - 1 - i = (m - 1 - i) + 1 from by omega]
        exact hh i (by omega)) (by rw [oG, oW]; exact c2)
   rw [aLw, show m + (l.length + 1) = m + 1 + l.length from by omega]
   exact this
end
section
variable {P : Program} {ops : Array Oper} {an : Ann} {g0 : Env} {w0 : aNE} {O : Nat -> Oper} {G : Nat -> Env} {W : Nat -> aNE} {V : Nat -> aNF}
def Tz (n : Nat) (O : Nat -> Oper) (V : Nat -> aNF) (g0 : Env) (S : Nat -> Prop) (g : Env) : Prop :=
 ∀ s, (∃ j, j < n /\ S j /\ (O j).dst = some s /\ (∀ k, k < n -> S k -> (O k).dst = some s -> k <= j) /\ g s = V j) ∨
   ((∀ j, j < n -> S j -> (O j).dst ≠ some s) /\ g s = g0 s)
theorem Tz.agree {n : Nat} {S T : Nat -> Prop} {g g' : Env} (h : Tz n O V g0 S g) (h' : Tz n O V g0 T g') (s : Nat)
 (hs : ∀ j, j < n -> (O j).dst = some s -> (S j ↔ T j)) : g s = g' s := by
 rcases h s with ⟨j, h1, h2, h3, h4, h5⟩ | ⟨h1, h2⟩ <;> rcases h' s with ⟨k, k1, k2, k3, k4, k5⟩ | ⟨k1, k2⟩
 .have a := h4 k k1 ((hs k k1 k3).2 k2) k3
  have b := k4 j h1 ((hs j h1 h3).1 h2) h3
  have : j = k := by omega
  subst this; rw [h5, k5]
 .exact absurd h3 (k1 j h1 ((hs j h1 h3).1 h2))
 .exact absurd k3 (h1 k k1 ((hs k k1 k3).2 k2))
 .rw [h2, k2]
theorem Tz.step {n : Nat} {S : Nat -> Prop} {g : Env} (h : Tz n O V g0 S g) (i : Nat) (hi : i < n)
 (hw : ∀ s, (O i).dst = some s -> ∀ j, j < n -> j ≠ i -> (O j).dst = some s -> S j -> j < i) :
 Tz n O V g0 (fun j => S j ∨ j = i) (put g (O i).dst (V i)) := by
 intro s
 cases hd : (O i).dst with
 | none =>
   rcases h s with ⟨j, h1, h2, h3, h4, h5⟩ | ⟨h1, h2⟩
   .refine .inl ⟨j, h1, .inl h2, h3, fun k k1 k2 k3 => ?_, h5⟩
    rcases k2 with k2 | rfl
    .exact h4 k k1 k2 k3
    .rw [hd] at k3; cases k3
   .refine .inr ⟨fun j h3 h4 h5 => ?_, h2⟩
    rcases h4 with h4 | rfl
    .exact h1 j h3 h4 h5
    .rw [hd] at h5; cases h5
 | some t =>
   rw [SR]
   by_cases hst : s = t
   .subst hst
    rw [if_pos rfl]
    refine .inl ⟨i, hi, .inr rfl, hd, fun k k1 k2 k3 => ?_, rfl⟩
    rcases k2 with k2 | rfl
    .by_cases hk : k = i
     .omega
     .have := hw s hd k k1 hk k3 k2; omega
    .omega
   .rw [if_neg hst]
    rcases h s with ⟨j, h1, h2, h3, h4, h5⟩ | ⟨h1, h2⟩
    .refine .inl ⟨j, h1, .inl h2, h3, fun k k1 k2 k3 => ?_, h5⟩
     rcases k2 with k2 | rfl
     .exact h4 k k1 k2 k3
     .rw [hd] at k3; exact absurd (aLA k3).symm hst
    .refine .inr ⟨fun j h3 h4 h5 => ?_, h2⟩
     rcases h4 with h4 | rfl
     .exact h1 j h3 h4 h5
     .rw [hd] at h5; exact absurd (aLA h5).symm hst
theorem Run.envFor {n : Nat} (r : Run P ops an g0 w0 n O G W V) : ∀ i, i <= n -> Tz n O V g0 (fun j => j < i) (G i) := by
 intro i
 induction i with
 | zero => intro _ s; exact .inr ⟨fun j _ h => absurd h (by omega), by rw [r.g0]⟩
 | succ i ih =>
   intro hi
   have h := ih (by omega)
   have := h.step (V := V) i (by omega) (fun s _ j _ _ _ hj => hj)
   rw [<- r.env i (by omega)] at this
   intro s
   rcases this s with ⟨j, h1, h2, h3, h4, h5⟩ | ⟨h1, h2⟩
   .exact .inl ⟨j, h1, by omega, h3, fun k k1 k2 k3 => h4 k k1 (by omega) k3, h5⟩
   .exact .inr ⟨fun j a b => h1 j a (by omega), h2⟩
theorem Run.still {n : Nat} (r : Run P ops an g0 w0 n O G W V) (i : Nat) : ∀ d, i + d <= n -> (∀ h, i <= h -> h < i + d -> vX h an.1 = false) -> W (i + d) = W i := by
 intro d
 induction d with
 | zero => intro _ _; rfl
 | succ d ih =>
   intro h1 h2
   rw [<- aMH, r.light (i + d) (by omega) (h2 _ (by omega) (by omega))]
   exact ih (by omega) (fun h a b => h2 h a (by omega))
theorem Run.still' {n : Nat} (r : Run P ops an g0 w0 n O G W V) {i k : Nat} (hik : i <= k) (hk : k <= n) (hh : ∀ h, i <= h -> h < k -> vX h an.1 = false) : W k = W i := by
 have := r.still i (k - i) (by omega) (fun h a b => hh h a (by omega))
 rwa [show i + (k - i) = k from by omega] at this
theorem aCp {i k : Nat} : (∃ h, i <= h /\ h < k /\ vX h an.1 = true) -> ∃ h, i <= h /\ h < k /\ vX h an.1 = true /\ ∀ h', i <= h' -> h' < h -> vX h' an.1 = false := by
 rintro ⟨h, h1, h2, h3⟩
 induction h using Nat.strongRecOn with
 | _ h ih =>
   by_cases hx : ∃ h', i <= h' /\ h' < h /\ vX h' an.1 = true
   .obtain ⟨h', a, b, c⟩ := hx
    exact ih h' b a (by omega) c
   .refine ⟨h, h1, h2, h3, fun h' a b => ?_⟩
    cases hm : vX h' an.1
    .rfl
    .exact absurd ⟨h', a, b, hm⟩ hx
theorem axV {i k : Nat} : (∃ h, i <= h /\ h < k /\ vX h an.1 = true) -> ∃ h, i <= h /\ h < k /\ vX h an.1 = true /\ ∀ h', h < h' -> h' < k -> vX h' an.1 = false := by
 rintro ⟨h, h1, h2, h3⟩
 induction hd : k - h using Nat.strongRecOn generalizing h with
 | _ d ih =>
   by_cases hx : ∃ h', h < h' /\ h' < k /\ vX h' an.1 = true
   .obtain ⟨h', a, b, c⟩ := hx
    exact ih (k - h') (by omega) h' (by omega) b c rfl
   .refine ⟨h, h1, h2, h3, fun h' a b => ?_⟩
    cases hm : vX h' an.1
    .rfl
    .exact absurd ⟨h', a, b, hm⟩ hx
structure azH (ops : Array Oper) (an : Ann) (O : Nat -> Oper) (b : Array Nat) : Prop where
 back : ∀ i, i < ops.size -> ∀ e ∈ (O i).after, Region.binds .any e = true -> e.on < i
 closed : ∀ i j, i < ops.size -> j < ops.size -> bef b i j = true -> ∃ e ∈ (O j).after, Region.binds .any e = true /\ (e.on = i ∨ bef b i e.on = true)
 pair : ∀ i j, i < j -> j < ops.size -> Wv ops b an i j (O i) (O j) = true
 sel : ∀ i, i < ops.size -> arK (O i) = false
 fn : ∀ i, i < ops.size -> aGM (O i) = true -> vX i an.1 = true
theorem aFW (h : ayF ops an = true) (ho : ∀ i, i < ops.size -> ops[i]? = some (O i)) : azH ops an O (Region.before ops) := by
 unfold ayF at h
 simp only [aLq] at h
 obtain ⟨⟨⟨⟨h1, h2⟩, h3⟩, h5⟩, h6⟩ := h
 refine ⟨fun i hi e he hb => ?_, fun i j hi hj hb => ?_, fun i j hij hj => ?_, fun i hi => ?_, fun i hi hf => ?_⟩
 .unfold aA0 at h1
  have := aMc.1 h1 i (aLR.2 hi)
  rw [ho i hi] at this
  have := aMo.1 this e he
  simp only [hb, aLu, Bool.false_or] at this
  exact (aNa (x := e.on) (y := i)) ▸ this
 .unfold aAw at h2
  have := aMc.1 (aMc.1 h2 j (aLR.2 hj)) i (aLR.2 hi)
  rw [ho j hj] at this
  simp only [hb, aLu, Bool.false_or] at this
  obtain ⟨e, he, h⟩ := Array.any_eq_true'.1 this
  simp only [aLq, aMt] at h
  refine ⟨e, he, h.1, h.2.imp (fun h => aLU h) id⟩
 .unfold aCM at h3
  have := aMc.1 (aMc.1 h3 j (aLR.2 hj)) i (aLR.2 hij)
  rw [ho i (by omega), ho j hj] at this
  exact this
 .have := aMo.1 h5 (O i) (aNA (ho i hi))
  simpa using this
 .have := aMc.1 h6 i (aLR.2 hi)
  rw [ho i hi] at this
  simpa [hf] using this
theorem aHZ {i j : Nat} : ∀ {l : List (Nat × Nat)}, azK i j l = true -> (i, j) ∈ l := by
 intro l
 induction l with
 | nil => intro h; cases h
 | cons p r ih =>
   obtain ⟨a, b⟩ := p
   intro h
   unfold azK at h
   cases ha : Nat.beq a i with
   | true =>
     simp only [ha] at h
     cases hb : Nat.beq b j with
     | true =>
       obtain rfl := aLU ha
       obtain rfl := aLU hb
       exact aML
     | false => simp only [hb] at h; exact aLx _ (ih h)
   | false => simp only [ha] at h; exact aLx _ (ih h)
theorem azH.order {b : Array Nat} (st : azH ops an O b) {S : Nat -> Prop} {i : Nat} (hi : i < ops.size)
 (hdown : ∀ j k, j < ops.size -> k < ops.size -> S k -> bef b j k = true -> S j) (hbi : ∀ j, j < ops.size -> bef b j i = true -> S j) (hni : ¬ S i)
 {s : Nat} (hs : s ∈ looks ops (O i) ∨ (O i).dst = some s) {j : Nat} (hj : j < ops.size) (hji : j ≠ i) (hd : (O j).dst = some s) : S j ↔ j < i := by
 rcases aLv j i with h | h
 .refine ⟨fun _ => h, fun _ => ?_⟩
  have p := st.pair j i h hi
  unfold Wv at p
  simp only [aMt, aLq, aMA] at p
  rcases p with p | p
  .exact hbi j hj p
  .exfalso
   have p1 := p.1
   unfold aHo at p1
   simp only [hd, aM1] at p1
   rcases hs with hs | hs
   .have := p1.1.1; simp [hs] at this
   .have := p1.1.2; simp [hs] at this
 .have h' : i < j := by omega
  refine ⟨fun hS => ?_, fun hh => by omega⟩
  exfalso
  have p := st.pair i j h' hj
  unfold Wv at p
  simp only [aMt, aLq, aMA] at p
  rcases p with p | p
  .exact hni (hdown i j hi hj hS p)
  .have p1 := p.1
   unfold aHo at p1
   simp only [hd, aM1] at p1
   rcases hs with hs | hs
   .have := p1.2; simp [hs] at this
   .have := p1.1; rw [hs] at this; simp at this
theorem SE {g g' : Env} {o : Oper} (h : ∀ s ∈ looks ops o, g s = g' s) : ∀ x ∈ o.op.operands, ev g x = ev g' x := by
 intro x hx
 cases x with
 | tmp t => exact h t (aMp _ (List.mem_filterMap.2 ⟨.tmp t, by simpa using hx, rfl⟩))
 | _ => rfl
theorem aDt {g g' : Env} {o : Oper} (hs : arK o = false) (h : ∀ s ∈ looks ops o, g s = g' s) : S5 g o = S5 g' o := by
 have e := execOp_congr o (fun cs b he => by simp [arK, he] at hs) (SE h)
 have k := SE h
 unfold S5
 split
 .rename_i op t x y yt hx
  rw [k x (by simp [hx, Op.operands]), k y (by simp [hx, Op.operands])]
 .rename_i fn first captured hx
  have e1 : List.map (ev g) first.toList = List.map (ev g') first.toList := aLN fun p hp => k p (by simp [hx, Op.operands]; exact .inl (by simpa using hp))
  have e2 : List.map (ev g) captured.toList = List.map (ev g') captured.toList := aLN fun p hp => k p (by simp [hx, Op.operands]; exact .inr (by simpa using hp))
  rw [e1, e2]
 .rename_i t ps hx
  congr 1
  refine aLN fun p hp => ?_
  rw [k p.2 (by simp [hx, Op.operands]; exact ⟨p.1, by simpa using hp⟩)]
 .rename_i t n ps hx
  congr 1
  refine aLN fun p hp => ?_
  rw [k p.2 (by simp [hx, Op.operands]; exact ⟨p.1, by simpa using hp⟩)]
 .rename_i c hx
  split
  .rename_i b hb
   congr 1
   refine aLN fun p hp => ?_
   exact k p (by simp [hx, Op.operands, Call.operands, hb]; simpa using hp)
  .rename_i f hb
   have : List.map (ev g) c.args.toList = List.map (ev g') c.args.toList := aLN fun p hp => k p (by simp [hx, Op.operands, Call.operands, hb]; exact .inr (by simpa using hp))
   rw [this, k f (by simp [hx, Op.operands, Call.operands, hb])]
  .exact e
 .exact e
theorem aAa {g g' : Env} {o : Oper} {j : Nat} {want : Bool} (hg : o.guard = some (j, want)) (h : ∀ s ∈ looks ops o, g s = g' s) :
 Di g (HG ops j) want = Di g' (HG ops j) want := by
 cases hs : HG ops j with
 | none => rfl
 | some t =>
   have := h t (aNe _ (by simp [hg, hs]))
   simp [Di, this]
theorem ahU {g g' : Env} {o : Oper} {w : aNE} {K : aNF -> aNE -> Prop} (hs : arK o = false) (h : ∀ s ∈ looks ops o, g s = g' s)
 (hk : PG P ops g o w K) : PG P ops g' o w K := by
 have e := aDt (ops := ops) hs h
 have run : P9 P g o w = P9 P g' o w := by
  funext K
  unfold P9
  split
  .rename_i x hx
   have := SE (ops := ops) h x (by simp [hx, Op.operands])
   rw [this]
  .rename_i x hx
   have := SE (ops := ops) h x (by simp [hx, Op.operands])
   rw [this]
  .rename_i c hx
   have k := SE h
   have : List.map (ev g) c.args.toList = List.map (ev g') c.args.toList := aLN fun p hp => k p (by simp [hx, Op.operands, Call.operands]; exact .inr (by simpa using hp))
   rw [this, e]
  .rw [e]
 unfold PG at *
 cases hg : o.guard with
 | none => rw [hg] at hk; simp only at hk ⊢; rwa [<- run]
 | some p =>
   obtain ⟨j, want⟩ := p
   simp only [hg] at hk ⊢
   rw [<- run, <- aAa hg h]
   exact hk
theorem aDy {n : Nat} (hn : n = ops.size) {b : Array Nat} (r : Run P ops an g0 w0 n O G W V) (st : azH ops an O b) {S : Nat -> Prop} {i k : Nat} (hi : i < n) (hk : k <= n)
 (hdown : ∀ j k, j < ops.size -> k < ops.size -> S k -> bef b j k = true -> S j) (hbi : ∀ j, j < ops.size -> bef b j i = true -> S j) (hni : ¬ S i)
 (hS : ∀ h, h < n -> vX h an.1 = true -> (S h ↔ h < k)) (hl : vX i an.1 = false) :
 asK P ops (G i) (O i) (W k) (V i) (W k) := by
 subst hn
 have same : Gs (gOf ops (O i) (G i)) (jJ P (S5 (G i) (O i)) (V i) (W k)) -> Um (O i) = false -> asK P ops (G i) (O i) (W k) (V i) (W k) := by
  intro hs hm K hK
  have run : jJ P (S5 (G i) (O i)) (V i) (W k) -> P9 P (G i) (O i) (W k) K := by
   intro hs
   unfold jJ at hs
   have stp : aD P (S5 (G i) (O i)) (W k) K := by unfold aD; rw [hs]; exact hK
   unfold P9
   split
   .rename_i x hx; simp [Um, hx] at hm
   .rename_i x hx; simp [Um, hx] at hm
   .rename_i c hx
    have hf : aGM (O i) = false := by
     cases hh : aGM (O i)
     .rfl
     .rw [st.fn i hi hh] at hl; cases hl
    obtain ⟨cal, cargs, cats⟩ := c
    cases cal with
    | value f =>
      cases f with
      | func f => simp [aGM, hx] at hf
      | _ => exact stp
    | _ => exact stp
   .exact stp
  have hy := r.yld i hi (fun v _ => v = V i) rfl
  unfold PG at hy ⊢
  unfold gOf at hs
  cases hg : (O i).guard with
  | none => rw [hg] at hs; exact run hs
  | some p =>
    obtain ⟨j, want⟩ := p
    rw [hg] at hs
    simp only [hg] at hs hy ⊢
    cases hb : Di (G i) (HG ops j) want with
    | true => rw [hb] at hs; exact run hs
    | false =>
      rw [hb] at hy
      have : undef = V i := hy
      show K undef (W k)
      rw [this]; exact hK
 have moved : Um (O i) = true -> asK P ops (G i) (O i) (W k) (V i) (W k) := by
  intro hm K hK
  have hy := r.yld i hi (fun v _ => v = V i) rfl
  unfold PG at hy ⊢
  have mv : ∀ (K' : aNF -> aNE -> Prop) w, P9 P (G i) (O i) w K' ↔ ∃ x, ((O i).op = .move x ∨ (O i).op = .assign x) /\ K' (ev (G i) x) w := by
   intro K' w
   unfold P9
   unfold Um at hm
   split
   .rename_i x hx; constructor
    .intro h; exact ⟨x, .inl hx, h⟩
    .rintro ⟨y, h | h, h'⟩
     .rw [hx] at h; cases h; exact h'
     .rw [hx] at h; cases h
   .rename_i x hx; constructor
    .intro h; exact ⟨x, .inr hx, h⟩
    .rintro ⟨y, h | h, h'⟩
     .rw [hx] at h; cases h
     .rw [hx] at h; cases h; exact h'
   .rename_i c hx; simp [hx] at hm
   .rename_i h1 h2 _; split at hm
    .rename_i x hx; exact absurd hx (h1 x)
    .rename_i x hx; exact absurd hx (h2 x)
    .cases hm
  cases hg : (O i).guard with
  | none =>
    rw [hg] at hy
    simp only at hy ⊢
    rw [mv] at hy ⊢
    obtain ⟨x, hx, h⟩ := hy
    exact ⟨x, hx, h ▸ hK⟩
  | some p =>
    obtain ⟨j, want⟩ := p
    simp only [hg] at hy ⊢
    unfold Gd at *
    cases hb : Di (G i) (HG ops j) want with
    | true =>
      simp only [hb] at hy ⊢
      rw [mv] at hy ⊢
      obtain ⟨x, hx, h⟩ := hy
      exact ⟨x, hx, h ▸ hK⟩
    | false =>
      simp only [hb] at hy ⊢
      rwa [hy]
 rcases Nat.le_total k i with hki | hki
 .by_cases hx : ∃ h, k <= h /\ h < i /\ vX h an.1 = true
  .obtain ⟨h, h1, h2, h3, h4⟩ := aCp hx
   have e : W h = W k := r.still' h1 (by omega) h4
   have p := st.pair h i h2 hi
   unfold Wv at p
   simp only [aMt, aLq, aMA] at p
   rcases p with p | p
   .have := hbi h (by omega) p
    have := (hS h (by omega) h3).1 this
    omega
   .have p2 := p.2
    rw [h3, hl] at p2
    simp only [aMt] at p2
    cases hmv : Um (O i) with
    | true => exact moved hmv
    | false =>
      rcases p2 with p2 | p2
      .rw [hmv] at p2; cases p2
      .refine same ?_ hmv
       have c := r.chk h i h2 hi p2
       unfold aE1 abX asY at c
       simp only [h3] at c
       rw [<- e]; exact c
  .have e : W i = W k := r.still' hki (by omega) (fun h a b => by
    cases hm : vX h an.1
    .rfl
    .exact absurd ⟨h, a, b, hm⟩ hx)
   have hy := r.yld i hi
   rw [r.light i hi hl, e] at hy
   exact hy
 .by_cases hx : ∃ h, i <= h /\ h < k /\ vX h an.1 = true
  .obtain ⟨h, h1, h2, h3, h4⟩ := axV hx
   have hne : h ≠ i := fun e => by rw [e, hl] at h3; cases h3
   have e : W k = W (h + 1) := r.still' (by omega) hk (fun h' a b => h4 h' (by omega) b)
   have p := st.pair i h (by omega) (by omega)
   unfold Wv at p
   simp only [aMt, aLq, aMA] at p
   rcases p with p | p
   .exact absurd (hdown i h (by omega) (by omega) ((hS h (by omega) h3).2 h2) p) hni
   .have p2 := p.2
    rw [h3, hl] at p2
    simp only [aMt] at p2
    cases hmv : Um (O i) with
    | true => exact moved hmv
    | false =>
      rcases p2 with p2 | p2
      .rw [hmv] at p2; cases p2
      .refine same ?_ hmv
       have c := r.chk i h (by omega) (by omega) p2
       unfold aE1 abX asY at c
       simp only [hl] at c
       rw [e]; exact c
  .have e : W k = W i := r.still' hki hk (fun h a b => by
    cases hm : vX h an.1
    .rfl
    .exact absurd ⟨h, a, b, hm⟩ hx)
   have hy := r.yld i hi
   rw [r.light i hi hl, <- e] at hy
   exact hy
def sC (listed : Array Bool) (i : Nat) : Prop := listed.getD i false = true
theorem aHm {N n : Nat} (hn : n = ops.size) (hd : aeG N ops) (hca : agP P ops) {b : Array Nat} (r : Run P ops an g0 w0 n O G W V) (st : azH ops an O b)
 {Q : Act -> aNE -> Prop} (hQ : ∀ a, Xu N (G n) a -> Q a (W n)) :
 ∀ (fuel : Nat) (listed : Array Bool) (g : Env) (a : Act) (k : Nat), listed.size = n -> Xu N g a -> k <= n →
   (∀ j, j < n -> sC listed j -> ∀ e ∈ (O j).after, Region.binds .any e = true -> sC listed e.on) →
   Tz n O V g0 (sC listed) g -> (∀ h, h < n -> vX h an.1 = true -> (sC listed h ↔ h < k)) →
   ((List.range n).filter fun i => !listed.getD i false).length <= fuel →
   azM P ops Q fuel listed a (W k) := by
 subst hn
 have ready_iff : ∀ (listed : Array Bool), listed.size = ops.size -> ∀ i, i ∈ Region.ready .any ops listed ↔ (i < ops.size /\ ¬ sC listed i /\ ∀ e ∈ (O i).after, Region.binds .any e = true -> sC listed e.on) := by
  intro listed hsz i
  unfold Region.ready sC
  rw [aNn, aLR]
  constructor
  .rintro ⟨h1, h2⟩
   rw [r.op i h1] at h2
   simp only [aLq, aLZ, aM6] at h2
   refine ⟨h1, ?_, fun e he hb => ?_⟩
   .have := h2.1
    rw [aLp] at this ⊢
    rw [aLL (by omega)] at this ⊢
    simpa using this
   .have := aMo.1 h2.2 e he
    simpa [hb] using this
  .rintro ⟨h1, h2, h3⟩
   refine ⟨h1, ?_⟩
   rw [r.op i h1]
   simp only [aLq, aLZ, aM6]
   refine ⟨?_, aMo.2 fun e he => ?_⟩
   .rw [aLp] at h2 ⊢
    rw [aLL (by omega)] at h2 ⊢
    simpa using h2
   .by_cases hb : Region.binds .any e = true
    .simp [hb, h3 e he hb]
    .simp [hb]
 have none_ready : ∀ (listed : Array Bool), listed.size = ops.size -> Region.ready .any ops listed = [] -> ∀ i, i < ops.size -> sC listed i := by
  intro listed hsz hr i
  induction i using Nat.strongRecOn with
  | _ i ih =>
    intro hi
    refine Classical.byContradiction fun hl => ?_
    have : i ∈ Region.ready .any ops listed := (ready_iff listed hsz i).2 ⟨hi, hl, fun e he hb => by
     have := st.back i hi e he hb
     exact ih e.on this (by omega)⟩
    rw [hr] at this; cases this
 have all_done : ∀ (listed : Array Bool) (g : Env) (a : Act) (k : Nat), Xu N g a -> k <= ops.size -> Tz ops.size O V g0 (sC listed) g →
     (∀ h, h < ops.size -> vX h an.1 = true -> (sC listed h ↔ h < k)) -> (∀ i, i < ops.size -> sC listed i) -> Q a (W k) := by
  intro listed g a k hr hk he hh hall
  have e : W ops.size = W k := r.still' hk (aLm _) (fun h h1 h2 => by
   cases hm : vX h an.1
   .rfl
   .have := (hh h h2 hm).1 (hall h h2); omega)
  have eg : g = G ops.size := funext fun s => he.agree (r.envFor ops.size (aLm _)) s (fun j hj _ => ⟨fun _ => hj, fun _ => hall j hj⟩)
  rw [<- e]; exact hQ a (eg ▸ hr)
 intro fuel
 induction fuel with
 | zero =>
   intro listed g a k hsz hr hk hdep henv hh hc
   have hall : ∀ i, i < ops.size -> sC listed i := by
    intro i hi
    have hnil : ((List.range ops.size).filter fun i => !listed.getD i false) = [] := aLI.1 (by omega)
    have := List.filter_eq_nil_iff.1 hnil i (aLR.2 hi)
    unfold sC; simpa using this
   refine ⟨?_, all_done listed g a k hr hk henv hh hall⟩
   rw [List.eq_nil_iff_forall_not_mem]
   intro i hi
   have := (ready_iff listed hsz i).1 hi
   exact this.2.1 (hall i this.1)
 | succ fuel ih =>
   intro listed g a k hsz hr hk hdep henv hh hc
   refine ⟨fun hn => all_done listed g a k hr hk henv hh (none_ready listed hsz hn), fun i hi => ?_⟩
   obtain ⟨h1, h2, h3⟩ := (ready_iff listed hsz i).1 hi
   have hdown : ∀ k j, j < ops.size -> k < ops.size -> sC listed k -> bef b j k = true -> sC listed j := by
    intro k
    induction k using Nat.strongRecOn with
    | _ k ihk =>
      intro j hj hk hl hb
      obtain ⟨e, he, hbi, h⟩ := st.closed j k hj hk hb
      have hle := hdep k hk hl e he hbi
      rcases h with h | h
      .exact h ▸ hle
      .have hlt := st.back k hk e he hbi
       exact ihk e.on hlt j hj (by omega) hle h
   have hbi : ∀ j, j < ops.size -> bef b j i = true -> sC listed j := by
    intro j hj hb
    obtain ⟨e, he, hbi, h⟩ := st.closed j i hj h1 hb
    have hle := h3 e he hbi
    rcases h with h | h
    .exact h ▸ hle
    .have hlt := st.back i h1 e he hbi
     exact hdown e.on j hj (by omega) hle h
   have hdown' : ∀ j k, j < ops.size -> k < ops.size -> sC listed k -> bef b j k = true -> sC listed j := fun j k => hdown k j
   have hlooks : ∀ s ∈ looks ops (O i), (G i) s = g s := fun s hs =>
    (r.envFor i (by omega)).agree henv s (fun j hj hd => by
      by_cases hji : j = i
      .subst hji
       exact ⟨fun h => absurd h (by omega), fun h => absurd h h2⟩
      .exact (st.order h1 hdown' hbi h2 (.inl hs) hj hji hd).symm)
   have hl' : ∀ j, sC (listed.setIfInBounds i true) j ↔ (sC listed j ∨ j = i) := by
    intro j
    unfold sC
    rw [aLp, aLp]
    by_cases hji : j = i
    .subst hji
     rw [aL4 (by omega)]
     simp
    .rw [aL8 (fun e => hji e.symm)]
     simp [hji]
   have next : ∀ k', k' <= ops.size -> (∀ h, h < ops.size -> vX h an.1 = true -> ((sC listed h ∨ h = i) ↔ h < k')) -> asK P ops g (O i) (W k) (V i) (W k') →
       WL P ops i (azM P ops Q fuel (listed.setIfInBounds i true)) a (W k) := by
    intro k' hk' hh' hy
    refine asW (r.op i h1) (hca i _ (r.op i h1)) hd hr hy ?_
    refine ih _ (put g (O i).dst (V i)) _ k' (by simp [hsz]) (hr.put _ _ (hd i _ (r.op i h1))) hk' ?_ ?_ ?_ ?_
    .intro j hj hlj e he hb
     rw [hl'] at hlj ⊢
     rcases hlj with hlj | rfl
     .exact .inl (hdep j hj hlj e he hb)
     .exact .inl (h3 e he hb)
    .have := henv.step i h1 (fun s hs j hj hji hd hlj => (st.order h1 hdown' hbi h2 (.inr hs) hj hji hd).1 hlj)
     intro s
     rcases this s with ⟨j, j1, j2, j3, j4, j5⟩ | ⟨j1, j2⟩
     .exact .inl ⟨j, j1, (hl' j).2 j2, j3, fun k k1 k2 k3 => j4 k k1 ((hl' k).1 k2) k3, j5⟩
     .exact .inr ⟨fun j a b => j1 j a ((hl' j).1 b), j2⟩
    .intro h a b; rw [hl']; exact hh' h a b
    .have hin : i ∈ (List.range ops.size).filter fun i => !listed.getD i false :=
      aNn.2 ⟨aLR.2 h1, by unfold sC at h2; simpa using h2⟩
     have e1 : ((List.range ops.size).filter fun j => !(listed.setIfInBounds i true).getD j false) = ((List.range ops.size).filter fun j => !listed.getD j false).filter fun j => j != i := by
      rw [List.filter_filter]
      refine List.filter_congr fun j _ => ?_
      have := hl' j
      unfold sC at this
      by_cases hji : j = i
      .have hh : (listed.setIfInBounds i true).getD j false = true := this.2 (.inr hji)
       rw [hh, hji]; simp
      .have hne : (j != i) = true := by simpa using hji
       rw [hne, Bool.true_and]
       cases ha : listed.getD j false with
       | true => rw [this.2 (.inl ha)]
       | false =>
         cases hb : (listed.setIfInBounds i true).getD j false with
         | false => rfl
         | true => rcases this.1 hb with h | h
                   .rw [ha] at h; cases h
                   .exact absurd h hji
     have hnd : ((List.range ops.size).filter fun j => !listed.getD j false).Nodup := List.nodup_range.filter _
     rw [e1, <- List.Nodup.erase_eq_filter hnd, aNr hin]
     omega
   cases hm : vX i an.1 with
   | true =>
     have hS : ∀ h, h < ops.size -> vX h an.1 = true -> (sC listed h ↔ h < i) := by
      intro h hh1 hhm
      rcases aNw h i with hlt | heq | hgt
      .refine ⟨fun _ => hlt, fun _ => ?_⟩
       have p := st.pair h i hlt h1
       unfold Wv at p
       rw [hhm, hm] at p
       simp only [aMt, aLq, aLb, and_false, or_false] at p
       exact hbi h hh1 p
      .subst heq; exact ⟨fun hh => absurd hh h2, fun hh => absurd hh (by omega)⟩
      .refine ⟨fun hl => ?_, fun hh => absurd hh (by omega)⟩
       have p := st.pair i h hgt hh1
       unfold Wv at p
       rw [hhm, hm] at p
       simp only [aMt, aLq, aLb, and_false, or_false] at p
       exact absurd (hdown h i h1 hh1 hl p) h2
     have eW : W k = W i := by
      rcases Nat.le_total k i with hki | hki
      .exact (r.still' hki (by omega) (fun h a b => by
        cases hx : vX h an.1
        .rfl
        .have := (hh h (by omega) hx).1 ((hS h (by omega) hx).2 b); omega)).symm
      .exact r.still' hki hk (fun h a b => by
        cases hx : vX h an.1
        .rfl
        .have := (hS h (by omega) hx).1 ((hh h (by omega) hx).2 b); omega)
     refine next (i + 1) (by omega) (fun h a b => ?_) ?_
     .rw [hS h a b]; omega
     .rw [eW]
      intro K hK
      exact ahU (ops := ops) (st.sel i h1) hlooks (r.yld i h1 K hK)
   | false =>
     refine next k hk (fun h a b => ?_) ?_
     .rw [<- hh h a b]
      constructor
      .rintro (h' | rfl)
       .exact h'
       .rw [hm] at b; cases b
      .exact .inl
     .intro K hK
      exact ahU (ops := ops) (st.sel i h1) hlooks (aDy rfl r st h1 hk hdown' hbi h2 hh hm K hK)
end
abbrev azF (P : Program) : Machine -> Prop := Machine.fenced P Fence.wide
def wpF (P : Program) (f : FuncId) (ro : Option Nat) (c : Code) (Q : Exit -> Act -> aNE -> Prop) (a : Act) (w : aNE) : Prop :=
 ∀ (b : Frame) (k : List Item) (cs : List Frame), b.fn = f -> b.roundOf = ro -> ∃ e a' w', Q e a' w' /\ ArrivesIn (azF P) P (lone (b.atR a (.code c :: k)) cs w) b k cs e a' w'
section
variable {P : Program} {f : FuncId} {ro : Option Nat} {Q : Exit -> Act -> aNE -> Prop} {a : Act} {w : aNE}
theorem Pe {m m1 : Machine} (h : step P m = .next m1) : StepsIn (azF P) P m m1 := .one (fenced_wide P m) h
theorem Ur {m m1 m2 : Machine} (h : step P m = .next m1) (h' : StepsIn (azF P) P m1 m2) : StepsIn (azF P) P m m2 := .head (fenced_wide P m) h h'
theorem aH0 (h : Q .normal a w) : wpF P f ro .skip Q a w := fun _ _ _ _ _ => ⟨.normal, a, w, h, Pe Go.stepR_skip⟩
theorem aFD {l : Nat} (h : Q .normal a w) : wpF P f ro (.label l) Q a w := fun _ _ _ _ _ => ⟨.normal, a, w, h, Pe stepR_label⟩
theorem aDe {id : Nat} (h : Q (.exit id) a w) : wpF P f ro (.exit id) Q a w :=
 fun _ k _ _ _ => ⟨.exit id, a, w, h, fun _ hk => Pe (stepR_exit hk), fun _ hk => ⟨k, hk, .refl _⟩⟩
theorem aEQ (h : Q .ret a w) : wpF P f ro .ret Q a w :=
 fun _ k _ _ _ => ⟨.ret, a, w, h, fun hn => ⟨_, Pe (stepR_ret hn)⟩, fun _ => ⟨k, .refl _⟩⟩
theorem aIO {x y : Code} (h : wpF P f ro x (Exit.then (wpF P f ro y Q) Q) a w) : wpF P f ro (.seq x y) Q a w := by
 intro b k cs hb hro
 obtain ⟨e, a1, w1, hq, har⟩ := h b (.code y :: k) cs hb hro
 cases e with
 | normal =>
   obtain ⟨e2, a2, w2, hq2, har2⟩ := hq b k cs hb hro
   exact ⟨e2, a2, w2, hq2, .of_steps (Ur stepR_seq har) har2⟩
 | _ => exact ⟨_, a1, w1, hq, .of_steps (Pe stepR_seq) (.pass (x := .code y) rfl (fun _ _ => .inl (by simp)) har)⟩
theorem aGL {c : Operand} {x y : Code} {t : Bool} (hc : a.eval c = .bool t) (h : wpF P f ro (if t then x else y) Q a w) : wpF P f ro (.cond c x y) Q a w :=
 fun b k cs hb hro => let ⟨e, a1, w1, q, r⟩ := h b k cs hb hro; ⟨e, a1, w1, q, .of_steps (Pe (stepR_cond hc)) r⟩
theorem aGa {id : Nat} {c : Code} (h : wpF P f ro c (Exit.inBlock id Q) a w) : wpF P f ro (.block id c) Q a w := by
 intro b k cs hb hro
 obtain ⟨e, a1, w1, hq, har⟩ := h b (.inBlock id :: k) cs hb hro
 cases e with
 | normal => exact ⟨.normal, a1, w1, hq, Ur stepR_block (StepsIn.trans har (Pe stepR_inBlock))⟩
 | exit i =>
   by_cases hid : i = id
   .simp only [Exit.inBlock, hid, if_true] at hq
    exact ⟨.normal, a1, w1, hq, Ur stepR_block (har.1 k (by simp [exitTo, hid]))⟩
   .simp only [Exit.inBlock, hid, if_false] at hq
    have this : (id == i) = false := by simp; exact fun h => hid h.symm
    have hx : exitTo i (.inBlock id :: k) = exitTo i k := by simp [exitTo, this]
    exact ⟨.exit i, a1, w1, hq, fun k' hk => Ur stepR_block (har.1 k' (by rw [hx]; exact hk)),
     fun hr' hk => let ⟨k1, h1, h2⟩ := har.2 hr' (by rw [hx]; exact hk); ⟨k1, h1, Ur stepR_block h2⟩⟩
 | goto l =>
   have hx : gotoIn l (.inBlock id :: k) = gotoIn l k := by simp [gotoIn]
   exact ⟨_, a1, w1, hq, fun k' hk => Ur stepR_block (har.1 k' (by rw [hx]; exact hk)),
    fun hr' hk => let ⟨k1, h1, h2⟩ := har.2 hr' (by rw [hx]; exact hk); ⟨k1, h1, Ur stepR_block h2⟩⟩
 | ret => exact ⟨_, a1, w1, hq, .of_steps (Pe stepR_block) har⟩
 | panic ch => exact ⟨_, a1, w1, hq, .of_steps (Pe stepR_block) har⟩
 | outgrown => exact ⟨_, a1, w1, hq, .of_steps (Pe stepR_block) har⟩
theorem Ew {b : Frame} {k : List Item} {cs : List Frame} {c : Code} :
 step P (lone (b.atR a (.code (.scope c) :: k)) cs w) = .next (lone (b.atR a (.code c :: .inScope c :: k)) cs w) :=
 step_lone_go (by simp [stepG, stepG.exec, Frame.atR])
theorem aAb {b : Frame} {k : List Item} {cs : List Frame} {c : Code} :
 step P (lone (b.atR a (.inScope c :: k)) cs w) = .next (lone (b.atR a k) cs w) :=
 step_lone_go (by simp [stepG, stepG.exec, Frame.atR])
theorem aGl {c : Code} (h : wpF P f ro c (Exit.noGoto Q) a w) : wpF P f ro (.scope c) Q a w := by
 intro b k cs hb hro
 obtain ⟨e, a1, w1, hq, har⟩ := h b (.inScope c :: k) cs hb hro
 cases e with
 | normal => exact ⟨.normal, a1, w1, hq, Ur Ew (StepsIn.trans har (Pe aAb))⟩
 | exit id =>
   have hx : exitTo id (.inScope c :: k) = exitTo id k := by simp [exitTo]
   exact ⟨.exit id, a1, w1, hq, fun k' hk => Ur Ew (har.1 k' (by rw [hx]; exact hk)),
    fun hr' hk => let ⟨k1, h1, h2⟩ := har.2 hr' (by rw [hx]; exact hk); ⟨k1, h1, Ur Ew h2⟩⟩
 | goto l => exact hq.elim
 | ret => exact ⟨_, a1, w1, hq, .of_steps (Pe Ew) har⟩
 | panic ch => exact ⟨_, a1, w1, hq, .of_steps (Pe Ew) har⟩
 | outgrown => exact ⟨_, a1, w1, hq, .of_steps (Pe Ew) har⟩
theorem aG4 {c : Code} (I : Act -> aNE -> Prop) (μ : Act -> aNE -> Nat) (h0 : I a w)
 (round : ∀ a w, I a w -> wpF P f ro c (Exit.then (fun a' w' => I a' w' /\ μ a' w' < μ a w) Q) a w) : wpF P f ro (.loop c) Q a w := by
 intro b k cs hb hro
 have key : ∀ n a w, μ a w = n -> I a w →
     ∃ e a' w', Q e a' w' /\ ArrivesIn (azF P) P (lone (b.atR a (.code c :: .inLoop c :: k)) cs w) b k cs e a' w' := by
  intro n
  induction n using Nat.strongRecOn with
  | _ n ih =>
    intro a w hn hI
    obtain ⟨e, a1, w1, hq, har⟩ := round a w hI b (.inLoop c :: k) cs hb hro
    cases e with
    | normal =>
      obtain ⟨hI1, hlt⟩ := hq
      obtain ⟨e2, a2, w2, hq2, har2⟩ := ih (μ a1 w1) (hn ▸ hlt) a1 w1 rfl hI1
      exact ⟨e2, a2, w2, hq2, .of_steps (StepsIn.trans har (Pe stepR_inLoop)) har2⟩
    | _ => exact ⟨_, a1, w1, hq, .pass (x := .inLoop c) rfl (fun _ _ => .inl (by simp)) har⟩
 obtain ⟨e, a', w', hq, har⟩ := key _ a w rfl h0
 exact ⟨e, a', w', hq, .of_steps (Pe stepR_loop) har⟩
theorem aE6 {ops : Array Oper} {L : List Nat} (h : Ht P ops (Q .normal) L a w) (b : Frame) (k : List Item) (cs : List Frame) (hro : b.roundOf = ro) :
 ∃ e a' w', Q e a' w' /\ ArrivesIn (azF P) P (lone (b.atR a (.inRegion ops L :: k)) cs w) b k cs e a' w' := by
 obtain ⟨e, a', w', ⟨rfl, hq⟩, hs⟩ := wp_opsIn (F := avV ro) (n := 0) L a w (aF7 ro L a w h) b k cs hro trivial (fun _ h => by simp [avV, Fence.wide] at h)
 exact ⟨.normal, a', w', hq, hs⟩
theorem aD0 {id : Nat} {ops : Array Oper} (h : Ht P ops (Q .normal) (List.range ops.size) a w) : wpF P f ro (.region id ops false) Q a w := by
 intro b k cs hb hro
 obtain ⟨e, a1, w1, q, r⟩ := aE6 h b k cs hro
 exact ⟨e, a1, w1, q, .of_steps (Pe stepR_region) r⟩
theorem auT (hm : P.follows .mixedOrders = true) {id : Nat} {ops : Array Oper}
 (h : Ht P ops (Q .normal) (Region.schedule true ops (w.tape w.drawn (.order f id))) a { w with drawn := w.drawn + 1 }) : wpF P f ro (.region id ops true) Q a w := by
 intro b k cs hb hro
 obtain ⟨e, a1, w1, q, r⟩ := aE6 h b k cs hro
 refine ⟨e, a1, w1, q, .of_steps (Pe ?_) r⟩
 have := @stepR_region_draw P b a k cs w ops id
 rw [hm, hb] at this
 exact this
def G7 (v : aNF) (w : aNE) (K : aNE -> Prop) : Prop :=
 match v with
 | .pointer (some a) => w.heap[a.block]? = some (.deferred (some [])) /\ K (w.putObj a.block (.deferred none))
 | _ => K w
def aFS (P : Program) (fn : Func) (R : aNF -> aNE -> Prop) : Exit -> Act -> aNE -> Prop
 | .normal, a, w | .ret, a, w => ∃ m, a.defers = aDp m /\ G7 m w fun w' => ∃ v, (results fn a.tmps).run P w' = .ok v w' /\ R v w'
 | _, _, _ => False
theorem aC0 {fn : Func} {R : aNF -> aNE -> Prop} {fr : Frame} {cs : List Frame} (hm : fr.mode = .returning) (hf : P.funcs[fr.fn]? = some fn) (hk : fr.kind = .normal) {m : aNF} (hd : fr.defers = aDp m)
 (h : G7 m w fun w' => ∃ v, (results fn fr.tmps).run P w' = .ok v w' /\ R v w') :
 ∃ v w' fr', R v w' /\ Steps P (lone fr cs w) (lone fr' cs w') /\ fr'.fn = fr.fn /\ fr'.leaving P w' (.returned v) := by
 have nil : fr.defers = [] -> (∃ v, (results fn fr.tmps).run P w = .ok v w /\ R v w) →
     ∃ v w' fr', R v w' /\ Steps P (lone fr cs w) (lone fr' cs w') /\ fr'.fn = fr.fn /\ fr'.leaving P w' (.returned v) := by
  rintro hd ⟨v, hv, hR⟩
  exact ⟨v, w, fr, hR, .refl _ _, rfl, hm, hd, hk, fn, hf, hv⟩
 cases m with
 | pointer p =>
   cases p with
   | none => exact nil hd h
   | some a =>
     obtain ⟨h1, v, hv, hR⟩ := h
     have hs := step_collected (P := P) (fr := fr) (cs := cs) (w := w) (d := { target := .collected a.block, args := #[] }) (r := a.block) (ds := []) (calls := [])
      (by rw [hm]; simp) hd rfl (run_takeDeferred h1)
     exact ⟨v, _, { fr with defers := [] }, hR, .head hs (.refl _ _), rfl, hm, rfl, hk, fn, hf, hv⟩
 | _ => exact nil hd h
theorem aBj {fn : Func} {c : Code} {args : Array aNF} {w : aNE} {R : aNF -> aNE -> Prop}
 (hf : P.funcs[f]? = some fn) (hb : fn.body = some c)
 (h : wpF P f none c (aFS P fn R) { tmps := args ++ Array.replicate (fn.ntmps - args.size) undef, defers := [] } w) : Calls P f args w fun e w' => ∃ v, e = .returned v /\ R v w' := by
 intro cs
 let b : Frame := { (default : Frame) with fn := f, kind := .normal, roundOf := none }
 have henter : Frame.enter P f args .normal = b.atR { tmps := args ++ Array.replicate (fn.ntmps - args.size) undef, defers := [] } [.code c] := by
  simp [Frame.enter, Frame.atR, hf, hb, b]
 obtain ⟨e, a', w', hq, har⟩ := h b [] cs rfl rfl
 rw [<- henter] at har
 cases e with
 | normal =>
   obtain ⟨m, hd, hq⟩ := hq
   obtain ⟨v, w2, fr, hR, hs, hfn, hl⟩ := aC0 (P := P) (cs := cs) (fr := { b.atR a' [] with mode := .returning }) rfl hf rfl hd hq
   exact ⟨.returned v, w2, fr, ⟨v, rfl, hR⟩, (StepsIn.steps har).trans (.head (stepR_end rfl) hs), hfn, hl⟩
 | ret =>
   obtain ⟨m, hd, hq⟩ := hq
   obtain ⟨todo, hs0⟩ := har.1 rfl
   obtain ⟨v, w2, fr, hR, hs, hfn, hl⟩ := aC0 (P := P) (cs := cs) (fr := { b.atR a' todo with mode := .returning }) rfl hf rfl hd hq
   exact ⟨.returned v, w2, fr, ⟨v, rfl, hR⟩, (StepsIn.steps hs0).trans hs, hfn, hl⟩
 | panic chain => exact hq.elim
 | exit id => exact hq.elim
 | goto l => exact hq.elim
 | outgrown => exact hq.elim
def aJb (P : Program) (f : FuncId) (Q : Exit -> Act -> aNE -> Prop) (a : Act) (w : aNE) : Option Code -> Prop
 | none => Q .normal a w
 | some c => wpF P f none c Q a w
theorem aFX {gf : Operand} {ps : Array Tmp} {aK6 bd : Code} {d : Deferred} {g : FuncId} {args : Array aNF} {w1 : aNE} {l : Nat} {mark : List Deferred} {w2 w3 : aNE} {v : aNF}
 (he : (Instr.enterLoop f a.tmps ps aK6 bd none).run P w = .ok (l, mark) w1)
 (hres : (resolve a.eval (rangeCall gf l) 0).run P w1 = .ok d w1) (hinv : (invoke d.target d.args).run P w1 = .ok (.enter g args) w2)
 (hcall : Ret P g args w2 v w3)
 {jump : Option Code} {w4 : aNE} (hend : (Instr.endLoop l).run P w3 = .ok jump w4)
 (hj : aJb P f Q { a with defers := mark ++ a.defers } w4 jump) :
 wpF P f none (.rangeFunc gf ps aK6 bd) Q a w := by
 intro b k cs hb hro
 rw [<- hb, <- hro] at he
 have henter := stepR_rangeFunc (P := P) (b := b) (a := a) (k := k) (cs := cs) (w := w) he hres hinv
 obtain ⟨e, w3', fr, ⟨rfl, rfl⟩, hsteps, hfn, hleave⟩ := hcall (b.atR { a with defers := mark ++ a.defers } (.inRangeFunc l :: k) :: cs)
 have sback : StepsIn (azF P) P (lone (b.atR a (.code (.rangeFunc gf ps aK6 bd) :: k)) cs w) (lone (b.atR { a with defers := mark ++ a.defers } ((jump.map Item.code).toList ++ k)) cs w4) := by
  refine Ur henter (StepsIn.trans (stepsIn_wide.2 hsteps) (Ur (m1 := lone (b.atR { a with defers := mark ++ a.defers } (.endRangeFunc l :: k)) cs w3') ?_ (Pe (stepR_endRangeFunc hend))))
  rw [<- finish_atR_inRangeFunc l v]; exact step_leave_returned hleave
 cases jump with
 | none => exact ⟨.normal, _, w4, hj, sback⟩
 | some c =>
   obtain ⟨e', a'', w5, hq, harr⟩ := hj b k cs hb hro
   exact ⟨e', a'', w5, hq, .of_steps sback harr⟩
def aDR (P : Program) (l : Nat) (R : aNF -> aNE -> Prop) : Exit -> Act -> aNE -> Prop
 | .normal, _, w => ∃ v w', (Instr.endRound l none).run P w = .ok v w' /\ R v w'
 | .ret, _, w => ∃ v w', (Instr.endRound l (some .ret)).run P w = .ok v w' /\ R v w'
 | .exit id, _, w => ∃ v w', (Instr.endRound l (some (.exit id))).run P w = .ok v w' /\ R v w'
 | _, _, _ => False
theorem aBh {l : Nat} {tmps : Array aNF} {aK6 bd : Code} {R : aNF -> aNE -> Prop}
 (h : wpF P f (some l) aK6 (Exit.then (fun a1 w1 => ∃ w2, (Instr.beginRound l).run P w1 = .ok () w2 /\ wpF P f (some l) bd (aDR P l R) a1 w2) (fun _ _ _ => False))
   { tmps := tmps, defers := [] } w) :
 RoundIn Fence.wide 0 P l f tmps aK6 bd w fun e w' => ∃ v, e = .returned v /\ R v w' := by
 refine ⟨trivial, fun c cs _ => ?_⟩
 let b : Frame := { (default : Frame) with fn := f, kind := .normal, roundOf := some l }
 have hb0 : Frame.round l f tmps aK6 bd .normal = b.atR { tmps := tmps, defers := [] } [.code aK6, .beginRound, .code bd] := by
  simp [Frame.round, Frame.atR, b]
 obtain ⟨e, a1, w1, hq, harr⟩ := h b [.beginRound, .code bd] (c :: cs) rfl rfl
 rw [<- hb0] at harr
 cases e with
 | normal =>
   obtain ⟨w2, hbr, hbody⟩ := hq
   have s1 := Pe (stepR_beginRound (P := P) (b := b) (a := a1) (k := [.code bd]) (cs := c :: cs) rfl hbr)
   obtain ⟨e2, a2, w3, hq2, harr2⟩ := hbody b [] (c :: cs) rfl rfl
   cases e2 with
   | normal =>
     obtain ⟨v, w4, hend, hR⟩ := hq2
     exact ⟨.returned v, w4, ⟨v, rfl, hR⟩, (StepsIn.trans harr s1).trans (StepsIn.trans harr2 (Pe (stepR_round_end rfl rfl hend)))⟩
   | ret =>
     obtain ⟨v, w4, hend, hR⟩ := hq2
     obtain ⟨k1, hs⟩ := harr2.2 rfl
     exact ⟨.returned v, w4, ⟨v, rfl, hR⟩, (StepsIn.trans harr s1).trans (StepsIn.trans hs (Pe (stepR_round_ret rfl rfl hend)))⟩
   | exit id =>
     obtain ⟨v, w4, hend, hR⟩ := hq2
     obtain ⟨k1, hk, hs⟩ := harr2.2 rfl rfl
     exact ⟨.returned v, w4, ⟨v, rfl, hR⟩, (StepsIn.trans harr s1).trans (StepsIn.trans hs (Pe (stepR_round_exit rfl rfl hk hend)))⟩
   | goto t => exact hq2.elim
   | panic chain => exact hq2.elim
   | outgrown => exact hq2.elim
 | exit id => exact hq.elim
 | goto t => exact hq.elim
 | ret => exact hq.elim
 | panic chain => exact hq.elim
 | outgrown => exact hq.elim
end
def aBa (ops : Array Oper) : Nat -> Array Bool -> List Nat -> Prop
 | 0, _, L => L = []
 | _ + 1, listed, [] => Region.ready .any ops listed = []
 | n + 1, listed, i :: L => i ∈ Region.ready .any ops listed /\ aBa ops n (listed.setIfInBounds i true) L
section
variable {P : Program} {ops : Array Oper} {Q : Act -> aNE -> Prop}
theorem aIj : ∀ (fuel t : Nat) (listed : Array Bool), aBa ops fuel listed (Region.linearise.go .any ops fuel t listed []) := by
 intro fuel
 induction fuel with
 | zero => intro t listed; simp [Region.linearise.go, aBa]
 | succ fuel ih =>
   intro t listed
   simp only [Region.linearise.go]
   change aBa ops (fuel + 1) listed (match (Region.ready .any ops listed)[t % (Region.ready .any ops listed).length]? with
    | some i => Region.linearise.go .any ops fuel (t / (Region.ready .any ops listed).length) (listed.setIfInBounds i true) [i]
    | none => [].reverse)
   cases hi : (Region.ready .any ops listed)[t % (Region.ready .any ops listed).length]? with
   | none =>
     have : Region.ready .any ops listed = [] := by
      cases hr : Region.ready .any ops listed with
      | nil => rfl
      | cons x xs =>
        rw [hr] at hi
        have hlt : t % (x :: xs).length < (x :: xs).length := aNb _ (by simp)
        rw [aLg hlt] at hi
        cases hi
     simpa [aBa] using this
   | some i =>
     simp only []
     rw [linearise_go_acc]
     exact ⟨aMg hi, ih _ _⟩
theorem ajD : ∀ (fuel : Nat) (listed : Array Bool) (L : List Nat) (a : Act) (w : aNE), azM P ops Q fuel listed a w -> aBa ops fuel listed L -> Ht P ops Q L a w := by
 intro fuel
 induction fuel with
 | zero => intro listed L a w h hL; obtain rfl : L = [] := hL; exact h.2
 | succ fuel ih =>
   intro listed L a w h hL
   cases L with
   | nil => exact h.1 hL
   | cons i L =>
     exact aEg (fun a w hh => ih _ _ a w hh hL.2) (h.2 i hL.1)
end
structure Perm (π : List Nat) (ops : Array Oper) : Prop where
 len : π.length = ops.size
 to : ∀ i, i < ops.size -> BT π i < ops.size /\ π[BT π i]? = some i
 back : ∀ k, k < ops.size -> ∃ i, π[k]? = some i /\ BT π i = k /\ i < ops.size
 after : ∀ (i : Nat) (o : Oper), ops[i]? = some o -> ∀ e ∈ o.after, e.on < ops.size
 guard : ∀ (i : Nat) (o : Oper) (j : Nat) (b : Bool), ops[i]? = some o -> o.guard = some (j, b) -> j < ops.size
theorem aIW {π : List Nat} {ops : Array Oper} (h : aEB π ops = true) : Perm π ops := by
 unfold aEB at h
 simp only [aLq] at h
 obtain ⟨⟨⟨h1, h2⟩, h3⟩, h4⟩ := h
 have h1 := aLU h1
 have at4 : ∀ (i : Nat) (o : Oper), ops[i]? = some o -> (o.after.all fun e => Nat.blt e.on ops.size) = true /\ (match o.guard with | some (j, _) => Nat.blt j ops.size | none => true) = true := by
  intro i o ho
  have hi : i < ops.size := by
   rcases aLv i ops.size with h | h
   .exact h
   .rw [aME h] at ho; cases ho
  have := aMc.1 h4 i (aLR.2 hi)
  rw [ho] at this
  simp only [aLq] at this
  refine ⟨this.1, ?_⟩
  have h := this.2
  revert h
  cases o.guard <;> exact id
 refine ⟨h1, fun i hi => ?_, fun k hk => ?_, fun i o ho e he => ?_, fun i o j b ho hg => ?_⟩
 .have := aMc.1 h3 i (aLR.2 hi)
  cases hp : π[BT π i]? with
  | none => rw [hp] at this; cases this
  | some j =>
    rw [hp] at this
    obtain rfl := aLU this
    refine ⟨?_, rfl⟩
    rcases aLv (BT π j) π.length with h | h
    .omega
    .rw [aLo h] at hp; cases hp
 .have := aMc.1 h2 k (aLR.2 hk)
  cases hp : π[k]? with
  | none => rw [hp] at this; cases this
  | some i =>
    rw [hp] at this
    simp only [aLq] at this
    exact ⟨i, rfl, aLU this.1, (aNa (x := i) (y := ops.size)) ▸ this.2⟩
 .have := aMo.1 (at4 i o ho).1 e he
  exact (aNa (x := e.on) (y := ops.size)) ▸ this
 .have := (at4 i o ho).2
  rw [hg] at this
  exact (aNa (x := j) (y := ops.size)) ▸ this
theorem aAY {π : List Nat} {es : List (Nat × Nat)} {l : List Oper} : ∀ (r : List Nat), (∀ i ∈ r, i < l.length) -> (agM π es l r).length = r.length /\ ∀ k i : Nat, r[k]? = some i -> (agM π es l r)[k]? = (l[i]?).map (R9 π es i) := by
 intro r
 induction r with
 | nil => intro _; exact ⟨rfl, fun k i h => by simp at h⟩
 | cons j r ih =>
   intro h
   obtain ⟨h1, h2⟩ := ih fun i hi => h i (aLx _ hi)
   have hj : j < l.length := h j (by simp)
   simp only [agM, aLg hj]
   refine ⟨by simp [h1], fun k i hk => ?_⟩
   cases k with
   | zero => simp at hk; subst hk; simp [aLg hj]
   | succ k => simp at hk ⊢; exact h2 k i hk
section
variable {P : Program} {ops : Array Oper} {Q : Act -> aNE -> Prop} {π : List Nat} {es : List (Nat × Nat)}
theorem Perm.mem (p : Perm π ops) : ∀ i ∈ π, i < ops.toList.length := by
 intro i hi
 obtain ⟨k, hk, e⟩ := aMD hi
 obtain ⟨j, h1, _, h2⟩ := p.back k (by rw [<- p.len]; exact hk)
 rw [aLg hk] at h1
 cases h1
 rw [<- e]; simpa using h2
theorem Perm.size (p : Perm π ops) : (vR π es ops).size = ops.size := by
 unfold vR
 rw [List.size_toArray, (aAY (es := es) (π := π) π p.mem).1, p.len]
theorem Perm.get (p : Perm π ops) {i : Nat} (hi : i < ops.size) : (vR π es ops)[BT π i]? = (ops[i]?).map (R9 π es i) := by
 unfold vR
 have := (aAY (es := es) (π := π) π p.mem).2 (BT π i) i (p.to i hi).2
 rw [Array.getElem?_toList] at this
 simpa using this
theorem aDP {i : Nat} {o : Oper} {a : Act} {w : aNE} {K : Act -> aNE -> Prop} : aD4 P (R9 π es i o) a w K ↔ aD4 P o a w K := by
 unfold aD4
 have h1 : execOp a.eval (R9 π es i o) = execOp a.eval o := by
  obtain ⟨d, op, ty, ps, af, g⟩ := o
  cases op <;> rfl
 have h2 : aA1 (R9 π es i o) = aA1 o := rfl
 rw [h1, h2]
 generalize (execOp a.eval o).run P w = r
 cases r with
 | ok n w => cases n <;> exact Iff.rfl
 | halt x w => exact Iff.rfl
theorem aCV (p : Perm π ops) {i : Nat} {o : Oper} (ho : ops[i]? = some o) (tmps : Array aNF) :
 Region.wanted (R9 π es i o) (yielded (vR π es ops) tmps) = Region.wanted o (yielded ops tmps) := by
 unfold Region.wanted R9
 simp only
 cases hg : o.guard with
 | none => rfl
 | some q =>
   obtain ⟨j, b⟩ := q
   simp only
   have hj := p.guard i o j b ho hg
   have : (vR π es ops)[BT π j]?.bind (·.dst) = (ops[j]?).bind (·.dst) := by
    rw [p.get hj]
    cases ops[j]? <;> rfl
   unfold yielded
   rw [this]
theorem aEs (p : Perm π ops) : ∀ (L : List Nat), (∀ i ∈ L, i < ops.size) -> ∀ (a : Act) (w : aNE), Ht P (vR π es ops) Q (L.map (BT π)) a w -> Ht P ops Q L a w := by
 intro L
 induction L with
 | nil => intro _ a w h; exact h
 | cons i L ih =>
   intro hL a w h
   rw [aMn] at h
   simp only [Ht] at h ⊢
   have hi := hL i (by simp)
   have ih := ih fun i hi => hL i (aLx _ hi)
   unfold WL at h ⊢
   rw [p.get hi] at h
   rw [aLL hi] at h ⊢
   simp only [aLZ] at h
   rw [aCV p (aLL hi)] at h
   simp only
   split
   .rename_i hw
    rw [if_pos hw, aDP] at h
    exact aAB (fun a w => ih a w) h
   .rename_i hw
    rw [if_neg hw] at h
    exact ih _ _ h
theorem XQ {ops : Array Oper} {listed : Array Bool} (hsz : listed.size = ops.size) (i : Nat) :
 i ∈ Region.ready .any ops listed ↔ (i < ops.size /\ listed.getD i false = false /\ ∀ o, ops[i]? = some o -> ∀ e ∈ o.after, Region.binds .any e = true -> listed.getD e.on false = true) := by
 unfold Region.ready
 rw [aNn, aLR]
 constructor
 .rintro ⟨h1, h2⟩
  rw [aLL h1] at h2
  simp only [aLq, aLZ, aM6] at h2
  refine ⟨h1, ?_, fun o ho e he hb => ?_⟩
  .have := h2.1
   rw [aLp] at this ⊢
   rw [aLL (by omega)] at this ⊢
   simpa using this
  .rw [aLL h1] at ho
   cases ho
   have := aMo.1 h2.2 e he
   simpa [hb] using this
 .rintro ⟨h1, h2, h3⟩
  refine ⟨h1, ?_⟩
  rw [aLL h1]
  simp only [aLq, aLZ, aM6]
  refine ⟨?_, aMo.2 fun e he => ?_⟩
  .rw [aLp] at h2 ⊢
   rw [aLL (by omega)] at h2 ⊢
   simpa using h2
  .by_cases hb : Region.binds .any e = true
   .simp [hb, h3 _ (aLL h1) e he hb]
   .simp [hb]
theorem aGS {π : List Nat} {i : Nat} : ∀ {es : List (Nat × Nat)} {e : Edge}, e ∈ ML π i es -> ∃ a, (a, i) ∈ es /\ e.on = BT π a := by
 intro es
 induction es with
 | nil => intro e h; simp [ML] at h
 | cons q r ih =>
   obtain ⟨a, b⟩ := q
   intro e h
   simp only [ML] at h
   cases hb : Nat.beq b i with
   | true =>
     rw [hb] at h
     obtain rfl := aLU hb
     rcases aL2.1 h with rfl | h
     .exact ⟨a, by simp, rfl⟩
     .obtain ⟨a, h1, h2⟩ := ih h; exact ⟨a, aLx _ h1, h2⟩
   | false => rw [hb] at h; obtain ⟨a, h1, h2⟩ := ih h; exact ⟨a, aLx _ h1, h2⟩
theorem aGe (p : Perm π ops) {L0 : List Nat} (hes : ∀ q ∈ es, L0.idxOf q.1 <= L0.idxOf q.2 /\ q.1 ≠ q.2 /\ q.1 < ops.size) :
 ∀ (fuel : Nat) (listed listed' : Array Bool) (pre L : List Nat), L0 = pre ++ L -> listed.size = ops.size -> listed'.size = ops.size →
   (∀ j, j < ops.size -> listed'.getD (BT π j) false = listed.getD j false) -> (∀ j ∈ pre, listed.getD j false = true) -> (∀ j, listed.getD j false = true -> j ∈ pre) →
   aBa ops fuel listed L -> aBa (vR π es ops) fuel listed' (L.map (BT π)) /\ ∀ i ∈ L, i < ops.size := by
 intro fuel
 induction fuel with
 | zero => intro listed listed' pre L _ _ _ _ _ _ h; obtain rfl : L = [] := h; exact ⟨rfl, by simp⟩
 | succ fuel ih =>
   intro listed listed' pre L hL0 hs hs' hrel hpre hpre' h
   have hsz : (vR π es ops).size = ops.size := p.size
   cases L with
   | nil =>
     refine ⟨?_, by simp⟩
     show Region.ready .any (vR π es ops) listed' = []
     rw [List.eq_nil_iff_forall_not_mem]
     intro k hk
     obtain ⟨h1, h2, h3⟩ := (XQ (by omega) k).1 hk
     obtain ⟨i, hi1, hi2, hi3⟩ := p.back k (by omega)
     have : i ∈ Region.ready .any ops listed := by
      refine (XQ hs i).2 ⟨hi3, ?_, fun o ho e he hb => ?_⟩
      .rw [<- hrel i hi3, hi2]; exact h2
      .have g := p.get (es := es) hi3
       rw [hi2, ho] at g
       have hon := p.after i o ho e he
       have := h3 _ g ⟨BT π e.on, e.ground⟩ (by
        simp only [R9, List.mem_toArray, aLQ, aMl]
        exact .inl ⟨e, by simpa using he, rfl⟩) (by unfold Region.binds at hb ⊢; exact hb)
       rw [<- hrel e.on hon]; exact this
     rw [show Region.ready .any ops listed = [] from h] at this
     cases this
   | cons i L =>
     obtain ⟨h1, h2⟩ := h
     obtain ⟨r1, r2, r3⟩ := (XQ hs i).1 h1
     have hnot : i ∉ pre := fun hm => by rw [hpre i hm] at r2; cases r2
     have hidx : L0.idxOf i = pre.length := by
      rw [hL0, List.idxOf_append, if_neg hnot]; simp
     have ready' : BT π i ∈ Region.ready .any (vR π es ops) listed' := by
      refine (XQ (by omega) _).2 ⟨by rw [hsz]; exact (p.to i r1).1, by rw [hrel i r1]; exact r2, fun o' ho' e' he' hb => ?_⟩
      rw [p.get r1, aLL r1] at ho'
      simp only [aLZ, Option.some.injEq] at ho'
      subst ho'
      simp only [R9, List.mem_toArray, aLQ, aMl] at he'
      rcases he' with ⟨e, he, rfl⟩ | he'
      .have ho := aLL r1
       have he2 : e ∈ ops[i].after := by simpa using he
       rw [hrel e.on (p.after i _ ho e he2)]
       exact r3 _ ho e he2 (by unfold Region.binds at hb ⊢; exact hb)
      .obtain ⟨a, ha, hon⟩ := aGS he'
       obtain ⟨q1, q2, q3⟩ := hes _ ha
       simp only at q1 q2 q3
       rw [hon, hrel a q3]
       refine hpre a ?_
       rw [hidx] at q1
       rw [hL0, List.idxOf_append] at q1
       by_cases hm : a ∈ pre
       .exact hm
       .rw [if_neg hm] at q1
        exfalso
        have hz : (i :: L).idxOf a = 0 := by omega
        rw [List.idxOf_cons] at hz
        cases hb : (i == a) with
        | true => exact q2 (by simpa using (beq_iff_eq.1 hb).symm)
        | false => rw [hb] at hz; simp at hz
     have hlen' : listed'.size = ops.size := hs'
     obtain ⟨k1, k2⟩ := ih (listed.setIfInBounds i true) (listed'.setIfInBounds (BT π i) true) (pre ++ [i]) L (by rw [hL0]; simp) (by simp [hs]) (by simp [hs'])
      (fun j hj => by
       by_cases hji : j = i
       .subst hji
        rw [aLp, aLp, aL4 (by rw [hs']; exact (p.to j hj).1), aL4 (by omega)]
       .have hne : BT π i ≠ BT π j := fun e => by
         have a1 := (p.to i r1).2
         have a2 := (p.to j hj).2
         rw [e] at a1
         rw [a1] at a2
         exact hji (aLA a2).symm
        have := hrel j hj
        rw [aLp, aLp] at this ⊢
        rw [aL8 hne, aL8 (fun e => hji e.symm)]
        exact this)
      (fun j hj => by
       rw [aLp]
       rcases aLQ.1 hj with hj | hj
       .by_cases hji : j = i
        .subst hji; rw [aL4 (by omega)] <;> rfl
        .rw [aL8 (fun e => hji e.symm), <- aLp]; exact hpre j hj
       .have : j = i := by simpa using hj
        subst this
        rw [aL4 (by omega)] <;> rfl)
      (fun j hj => by
       by_cases hji : j = i
       .subst hji; simp
       .rw [aLp, aL8 (fun e => hji e.symm), <- aLp] at hj
        exact aMp _ (hpre' j hj))
      h2
     exact ⟨⟨ready', k1⟩, fun j hj => (aL2.1 hj).elim (fun e => e ▸ r1) (k2 j)⟩
end
section
variable {P : Program} {ops : Array Oper}
theorem asC {N : Nat} {an : Ann} {pl : aCL} (hok : ayF ops an = true) (hpl : ayP ops.size an pl = true) (hd : aeG N ops) (hca : agP P ops)
 {K : Env -> aNE -> Prop} {Q : Act -> aNE -> Prop} (hQ : ∀ g a w, Xu N g a -> K g w -> Q a w) {g : Env} {a : Act} {w : aNE} (hr : Xu N g a)
 (h : xL P ops ops.toList pl [] g w K) : azM P ops Q ops.size (Array.replicate ops.size false) a w := by
 have r0 : Run P ops an g w 0 (fun _ => default) (fun _ => g) (fun _ => w) (fun _ => undef) :=
  ⟨rfl, rfl, fun i hi => by omega, fun i hi => by omega, fun i hi => by omega, fun i hi => by omega, fun i j _ hj => by omega⟩
 obtain ⟨O, G, W, V, r, hk⟩ := aC8 hpl ops.toList 0 [] _ _ _ _ (fun j => by simp) (by simp) r0 (fun i hi => by omega) h
 simp only [aLa, aMm] at r hk
 have st := aFW hok r.op
 have := aHm (Q := Q) (n := ops.size) rfl hd hca r st (fun a hra => hQ _ a _ hra hk) ops.size (Array.replicate ops.size false) g a 0 (by simp) hr (by omega)
  (fun j hj hl => by unfold sC at hl; simp [aLp, hj] at hl)
  (fun s => .inr ⟨fun j hj hl => by unfold sC at hl; simp [aLp, hj] at hl, rfl⟩)
  (fun h hh _ => ⟨fun hl => by unfold sC at hl; simp [aLp, hh] at hl, fun hl => by omega⟩)
  (aMf (List.length_filter_le _ _) (by simp))
 rw [r.w0] at this
 exact this
theorem arB {N : Nat} {ops : Array Oper} (h : ops.all (aFg N) = true) : aeG N ops := by
 intro i o ho t ht
 have := aMo.1 h o (aNA ho)
 unfold aFg at this
 rw [ht] at this
 exact (aNa (x := t) (y := N)) ▸ this
theorem ayE {ops : Array Oper} (h : ops.all (GU P) = true) : agP P ops :=
 fun _ o ho => aMo.1 h o (aNA ho)
theorem aEm {N : Nat} {f : FuncId} {id : Nat} (hd : aeG N ops) (hca : agP P ops)
 {K : Env -> aNE -> Prop} {Q : Act -> aNE -> Prop} (hQ : ∀ g a w, Xu N g a -> K g w -> Q a w) {g : Env} {a : Act} {w0 w : aNE} (hr : Xu N g a) :
 ∀ (T : HT) (path : List (Nat × Nat)), ZR P N ops path T = true →
   (∀ q ∈ path, (Region.schedule true ops (w0.tape w0.drawn (.order f id))).idxOf q.1 <= (Region.schedule true ops (w0.tape w0.drawn (.order f id))).idxOf q.2 /\ q.1 ≠ q.2) →
   aCv P f id ops T g w0 w K -> Ht P ops Q (Region.schedule true ops (w0.tape w0.drawn (.order f id))) a w := by
 have lin : aBa ops ops.size (Array.replicate ops.size false) (Region.schedule true ops (w0.tape w0.drawn (.order f id))) := by
  unfold Region.schedule
  simp only [Bool.true_or, if_true]
  exact aIj _ _ _
 generalize hL : Region.schedule true ops (w0.tape w0.drawn (.order f id)) = L at lin ⊢
 intro T
 induction T with
 | leaf an pl =>
   intro path hok _ h
   simp only [ZR, aLq] at hok
   exact ajD _ _ _ _ _ (asC hok.1 hok.2 hd hca hQ hr h) lin
 | perm π es an pl =>
   intro path hok hpath h
   simp only [ZR, aLq] at hok
   obtain ⟨⟨⟨⟨⟨h1, h2⟩, h3⟩, h4⟩, h5⟩, h6⟩ := hok
   have p := aIW h2
   have hes : ∀ q ∈ es, L.idxOf q.1 <= L.idxOf q.2 /\ q.1 ≠ q.2 /\ q.1 < ops.size := fun q hq => by
    have := aMc.1 h1 q hq
    simp only [aLq] at this
    have hp := hpath q (aHZ this.1)
    exact ⟨hp.1, hp.2, (aNa (x := q.1) (y := ops.size)) ▸ this.2⟩
   obtain ⟨k1, k2⟩ := aGe (es := es) p hes ops.size (Array.replicate ops.size false) (Array.replicate ops.size false) [] L rfl (by simp) (by simp)
    (fun j hj => by simp [aLp, hj, (p.to j hj).1]) (by simp)
    (fun j hj => by rw [aLp] at hj; by_cases hh : j < ops.size <;> simp [hh] at hj) lin
   have hw := asC h5 h6 (arB h3) (ayE h4) hQ hr h
   rw [p.size] at hw
   exact aEs (es := es) p L k2 a w (ajD _ _ _ _ _ hw k1)
 | split x y A B ihA ihB =>
   intro path hok hpath h
   simp only [ZR, aLq] at hok
   have hne : x ≠ y := by
    intro e
    have := hok.1.1
    rw [e] at this
    simp at this
   simp only [aCv] at h
   unfold Ord aId at h
   rw [hL] at h
   cases hb : Nat.ble (L.idxOf x) (L.idxOf y) with
   | true =>
     rw [hb] at h
     refine ihA _ hok.1.2 (fun q hq => ?_) h
     rcases aL2.1 hq with rfl | hq
     .exact ⟨aMM hb, hne⟩
     .exact hpath q hq
   | false =>
     rw [hb] at h
     refine ihB _ hok.2 (fun q hq => ?_) h
     rcases aL2.1 hq with rfl | hq
     .refine ⟨?_, hne.symm⟩
      simp only
      rcases aLv (L.idxOf y) (L.idxOf x) with hh | hh
      .omega
      .have := Nat.ble_eq_true_of_le hh; rw [this] at hb; cases hb
     .exact hpath q hq
end
section
variable {P : Program} {ann : FA}
def uK : List Oper -> List Nat
 | [] => []
 | o :: r => match o.dst with | some d => d :: uK r | none => uK r
def XZ : Code -> List Nat
 | .region _ ops _ => uK ops.toList
 | .seq x y => XZ x ++ XZ y
 | .cond _ x y => XZ x ++ XZ y
 | .block _ c => XZ c
 | .scope c => XZ c
 | .loop c => XZ c
 | .rangeFunc .. => [DS]
 | _ => []
def sB (l : List Nat) (g g' : Env) : Prop := ∀ s, s ∉ l -> g' s = g s
theorem sB.refl (l : List Nat) (g : Env) : sB l g g := fun _ _ => rfl
theorem sB.trans {l l1 l2 : List Nat} {a b c : Env} (h : sB l1 a b) (k : sB l2 b c) (h1 : ∀ s, s ∈ l1 -> s ∈ l) (h2 : ∀ s, s ∈ l2 -> s ∈ l) : sB l a c :=
 fun s hs => (k s fun h => hs (h2 s h)).trans (h s fun h => hs (h1 s h))
theorem sB.mono {l l1 : List Nat} {a b : Env} (h : sB l1 a b) (h1 : ∀ s, s ∈ l1 -> s ∈ l) : sB l a b := fun s hs => h s fun hh => hs (h1 s hh)
theorem sB.put {l : List Nat} {a : Env} (d : Option Tmp) (v : aNF) (h : ∀ t, d = some t -> t ∈ l) : sB l a (put a d v) := by
 intro s hs
 cases d with
 | none => rfl
 | some t =>
   rw [SR, if_neg (fun e => hs (by rw [e]; exact h t rfl))]
theorem aDW {ops : Array Oper} {K : Env -> aNE -> Prop} : ∀ (l : List Oper) (g : Env) (w : aNE), ayH P ops l g w K →
 ∃ g' w', K g' w' /\ sB (uK l) g g' /\ ∀ K' : Env -> aNE -> Prop, K' g' w' -> ayH P ops l g w K' := by
 intro l
 induction l with
 | nil => intro g w h; exact ⟨g, w, h, sB.refl _ _, fun _ h => h⟩
 | cons o l ih =>
   intro g w h
   obtain ⟨v, w1, hy, h1⟩ := Tr h
   obtain ⟨g', w', hk, ha, hall⟩ := ih _ _ h1
   refine ⟨g', w', hk, ?_, fun K' hk' => hy _ (hall K' hk')⟩
   refine sB.trans (sB.put o.dst v (l := uK (o :: l)) fun t ht => by simp [uK, ht]) ha (fun _ h => h) (fun s hs => ?_)
   unfold uK
   split
   .exact aLx _ hs
   .exact hs
theorem asS {ops : Array Oper} {K : Env -> aNE -> Prop} : ∀ (l : List Oper) (pl : aCL) (hist : List Rec) (g : Env) (w : aNE), xL P ops l pl hist g w K →
 ∃ g' w', K g' w' /\ sB (uK l) g g' /\ ∀ K' : Env -> aNE -> Prop, K' g' w' -> xL P ops l pl hist g w K' := by
 intro l
 induction l with
 | nil => intro pl hist g w h; unfold xL at h; exact ⟨g, w, h, sB.refl _ _, fun _ h => (by unfold xL; exact h)⟩
 | cons o l ih =>
   intro pl hist g w h
   cases pl with
   | nil => exact h.elim
   | cons p pl =>
     obtain ⟨hv, ks⟩ := p
     obtain ⟨v, w1, hy, h1⟩ := Tr h
     have tail : ∀ (w2 : aNE) (hist' : List Rec), xL P ops l pl hist' (put g o.dst v) w2 K →
         ∃ g' w', K g' w' /\ sB (uK (o :: l)) g g' /\ ∀ K' : Env -> aNE -> Prop, K' g' w' -> xL P ops l pl hist' (put g o.dst v) w2 K' := by
      intro w2 hist' c2
      obtain ⟨g', w', hk, ha, hall⟩ := ih _ _ _ _ c2
      refine ⟨g', w', hk, ?_, hall⟩
      refine sB.trans (sB.put o.dst v (l := uK (o :: l)) fun t ht => by simp [uK, ht]) ha (fun _ h => h) (fun s hs => ?_)
      unfold uK
      split
      .exact aLx _ hs
      .exact hs
     cases hv with
     | true =>
       cases ks with
       | nil =>
         obtain ⟨g', w', hk, ha, hall⟩ := tail w1 _ h1
         exact ⟨g', w', hk, ha, fun K' hk' => hy _ (hall K' hk')⟩
       | cons k ks =>
         obtain ⟨hc, h1⟩ := h1
         obtain ⟨g', w', hk, ha, hall⟩ := tail w1 _ h1
         exact ⟨g', w', hk, ha, fun K' hk' => hy _ ⟨hc, hall K' hk'⟩⟩
     | false =>
       cases ks with
       | nil =>
         obtain ⟨rfl, h1⟩ := h1
         obtain ⟨g', w', hk, ha, hall⟩ := tail w1 _ h1
         exact ⟨g', w', hk, ha, fun K' hk' => hy _ ⟨rfl, hall K' hk'⟩⟩
       | cons k ks =>
         obtain ⟨rfl, hc, h1⟩ := h1
         obtain ⟨g', w', hk, ha, hall⟩ := tail w1 _ h1
         exact ⟨g', w', hk, ha, fun K' hk' => hy _ ⟨rfl, hc, hall K' hk'⟩⟩
theorem Qi {l : List Oper} {s : Nat} : s ∈ uK l ↔ ∃ o ∈ l, o.dst = some s := by
 induction l with
 | nil => simp [uK]
 | cons o l ih =>
   unfold uK
   cases hd : o.dst with
   | none => simp [ih, hd]
   | some d => simp [ih, hd, eq_comm]
theorem aDH {π : List Nat} {es : List (Nat × Nat)} {l : List Oper} {s : Nat} : ∀ (r : List Nat), s ∈ uK (agM π es l r) -> s ∈ uK l := by
 intro r
 induction r with
 | nil => intro h; simp [agM, uK] at h
 | cons i r ih =>
   intro h
   simp only [agM] at h
   cases ho : l[i]? with
   | none => rw [ho] at h; exact ih h
   | some o =>
     rw [ho] at h
     obtain ⟨o', h1, h2⟩ := Qi.1 h
     rcases aL2.1 h1 with rfl | h1
     .exact Qi.2 ⟨o, aMg ho, h2⟩
     .exact ih (Qi.2 ⟨o', h1, h2⟩)
theorem aGB {f : FuncId} {id : Nat} {ops : Array Oper} {K : Env -> aNE -> Prop} {g : Env} {w0 : aNE} : ∀ (T : HT) (w : aNE), aCv P f id ops T g w0 w K →
 ∃ g' w', K g' w' /\ sB (uK ops.toList) g g' /\ ∀ K' : Env -> aNE -> Prop, K' g' w' -> aCv P f id ops T g w0 w K' := by
 intro T
 induction T with
 | leaf an pl => intro w h; exact asS _ _ _ _ _ h
 | perm π es an pl =>
   intro w h
   obtain ⟨g', w', a, b, c⟩ := asS _ _ _ _ _ h
   exact ⟨g', w', a, b.mono (fun s hs => aDH π (by simpa [vR] using hs)), c⟩
 | split x y A B ihA ihB =>
   intro w h
   simp only [aCv, Ord] at h ⊢
   cases hb : aId f id ops x y w0 with
   | true => rw [hb] at h; exact ihA w h
   | false => rw [hb] at h; exact ihB w h
theorem cS.head {α : Type} {F : (α -> aNE -> Prop) -> α -> aNE -> Prop} (hmono : ∀ X Y g w, (∀ g w, X g w -> Y g w) -> F X g w -> F Y g w)
 {g : α} {w : aNE} (h : F (fun g' w' => cS F g' w') g w) (hdet : ∃ g' w', cS F g' w' /\ ∀ X : α -> aNE -> Prop, X g' w' -> F X g w) : cS F g w := by
 obtain ⟨g1, w1, ⟨I, ⟨n1, h1⟩, hI⟩, hF⟩ := hdet
 refine ⟨fun n g' w' => I n g' w' ∨ (n = n1 + 1 /\ g' = g /\ w' = w), ⟨n1 + 1, .inr ⟨rfl, rfl, rfl⟩⟩, ?_⟩
 rintro n g' w' (h | ⟨rfl, rfl, rfl⟩)
 .exact hmono _ _ _ _ (fun _ _ ⟨m, hm, hh⟩ => ⟨m, hm, .inl hh⟩) (hI _ _ _ h)
 .exact hF _ ⟨n1, by omega, .inl h1⟩
theorem aJY {f : FuncId} {gf : Operand} {ps : Array Tmp} {aK6 bd : Code} {Q : Exit -> Env -> aNE -> Prop} {g : Env} {w : aNE} (h : RF P f gf ps aK6 bd Q g w) :
 ∃ e g' w', Q e g' w' /\ sB [DS] g g' /\ ∀ Q' : Exit -> Env -> aNE -> Prop, Q' e g' w' -> RF P f gf ps aK6 bd Q' g w := by
 unfold RF at h ⊢
 cases hn : noMark (g DS) with
 | false => rw [hn] at h; exact h.elim
 | true =>
   rw [hn] at h
   simp only at h ⊢
   generalize (PQ (ev g gf) [Pa (w.heap.size + 1)]).run P (rfW f (apL P f) ps aK6 bd g w) = r at *
   match r, h with
   | .ok (.enter f2 args) w1, h =>
     obtain ⟨v, w3, hret, r, h1, h2, h3⟩ := h
     have ha : sB [DS] g (put g (some DS) (.pointer (some ⟨w.heap.size, 0, none⟩))) := sB.put _ _ (fun t ht => by cases ht; simp)
     cases hp : r.pending with
     | none =>
       rw [hp] at h3
       exact ⟨.normal, _, _, h3, ha, fun Q' h => ⟨v, w3, hret, r, h1, h2, by rw [hp]; exact h⟩⟩
     | some c =>
       rw [hp] at h3
       cases c <;> first
        | exact h3.elim
        | exact ⟨.ret, _, _, h3, ha, fun Q' h => ⟨v, w3, hret, r, h1, h2, by rw [hp]; exact h⟩⟩
        | exact ⟨.exit _, _, _, h3, ha, fun Q' h => ⟨v, w3, hret, r, h1, h2, by rw [hp]; exact h⟩⟩
theorem avQ : ∀ (c : Code) (Q : Exit -> Env -> aNE -> Prop) (g : Env) (w : aNE), bD P ann c Q g w →
 ∃ e g' w', Q e g' w' /\ sB (XZ c) g g' /\ ∀ Q' : Exit -> Env -> aNE -> Prop, Q' e g' w' -> bD P ann c Q' g w := by
 intro c
 induction c with
 | skip => intro Q g w h; exact ⟨_, _, _, h, sB.refl _ _, fun _ h => h⟩
 | region id ops draw =>
   intro Q g w h
   cases draw with
   | false =>
     obtain ⟨g', w', a, b, c⟩ := aDW _ _ _ h
     exact ⟨.normal, g', w', a, b, fun Q' h => c _ h⟩
   | true =>
     obtain ⟨g', w', a, b, c⟩ := aGB _ _ h
     exact ⟨.normal, g', w', a, b, fun Q' h => c _ h⟩
 | seq x y ihx ihy =>
   intro Q g w h
   obtain ⟨e, g1, w1, a, b, c⟩ := ihx _ _ _ h
   cases e with
   | normal =>
     obtain ⟨e2, g2, w2, a2, b2, c2⟩ := ihy _ _ _ a
     exact ⟨e2, g2, w2, a2, b.trans b2 (fun s h => aMp _ h) (fun s h => aNe _ h), fun Q' h => c _ (c2 _ h)⟩
   | _ => exact ⟨_, g1, w1, a, b.mono (fun s h => aMp _ h), fun Q' h => c _ h⟩
 | cond c x y ihx ihy =>
   intro Q g w h
   simp only [bD] at h ⊢
   unfold gZ at h ⊢
   cases hc : ev g c with
   | bool b =>
     rw [hc] at h
     cases b with
     | true =>
       obtain ⟨e, g', w', a, b, c⟩ := ihx _ _ _ h
       exact ⟨e, g', w', a, b.mono (fun s h => aMp _ h), c⟩
     | false =>
       obtain ⟨e, g', w', a, b, c⟩ := ihy _ _ _ h
       exact ⟨e, g', w', a, b.mono (fun s h => aNe _ h), c⟩
   | _ => rw [hc] at h; exact h.elim
 | block id c ih =>
   intro Q g w h
   obtain ⟨e, g', w', a, b, c⟩ := ih _ _ _ h
   cases e with
   | exit i =>
     simp only [blk] at a
     cases hb : Nat.beq i id with
     | true =>
       simp only [hb] at a
       refine ⟨.normal, g', w', a, b, fun Q' h => c _ ?_⟩
       simp only [blk, hb]; exact h
     | false =>
       simp only [hb] at a
       refine ⟨.exit i, g', w', a, b, fun Q' h => c _ ?_⟩
       simp only [blk, hb]; exact h
   | _ => exact ⟨_, g', w', a, b, fun Q' h => c _ h⟩
 | loop c ih =>
   intro Q g w h
   have hmono : ∀ (Q : Exit -> Env -> aNE -> Prop) (X Y : Env -> aNE -> Prop) g w, (∀ g w, X g w -> Y g w) -> bD P ann c (Ex X Q) g w -> bD P ann c (Ex Y Q) g w := by
    intro Q X Y g w hxy h
    obtain ⟨e, g', w', a, _, k⟩ := ih _ _ _ h
    refine k _ ?_
    cases e with
    | normal => exact hxy _ _ a
    | _ => exact a
   obtain ⟨I, ⟨n, h0⟩, hI⟩ := h
   have key : ∀ n g w, I n g w -> ∃ e g' w', Q e g' w' /\ sB (XZ c) g g' /\ ∀ Q' : Exit -> Env -> aNE -> Prop, Q' e g' w' -> cS (fun X g w => bD P ann c (Ex X Q') g w) g w := by
    intro n
    induction n using Nat.strongRecOn with
    | _ n ih2 =>
      intro g w hg
      obtain ⟨e, g1, w1, a, b, k⟩ := ih _ _ _ (hI n g w hg)
      have once : ∀ (Q' : Exit -> Env -> aNE -> Prop), (∀ X : Env -> aNE -> Prop, bD P ann c (Ex X Q') g w) -> cS (fun X g w => bD P ann c (Ex X Q') g w) g w := by
       intro Q' h
       refine ⟨fun n g' w' => g' = g /\ w' = w, ⟨0, rfl, rfl⟩, ?_⟩
       rintro _ g' w' ⟨rfl, rfl⟩
       exact h _
      cases e with
      | normal =>
        obtain ⟨m, hm, hIm⟩ := a
        obtain ⟨e2, g2, w2, a2, b2, k2⟩ := ih2 m hm g1 w1 hIm
        refine ⟨e2, g2, w2, a2, b.trans b2 (fun _ h => h) (fun _ h => h), fun Q' h => ?_⟩
        have hl := k2 Q' h
        exact cS.head (hmono Q') (k _ hl) ⟨g1, w1, hl, fun X hx => k _ hx⟩
      | _ => exact ⟨_, g1, w1, a, b, fun Q' h => once Q' fun X => k _ h⟩
   exact key n g w h0
 | exit id => intro Q g w h; exact ⟨_, _, _, h, sB.refl _ _, fun _ h => h⟩
 | label l => intro Q g w h; exact ⟨_, _, _, h, sB.refl _ _, fun _ h => h⟩
 | scope c ih => intro Q g w h; exact ih Q g w h
 | ret => intro Q g w h; exact ⟨_, _, _, h, sB.refl _ _, fun _ h => h⟩
 | rangeFunc gf ps aK6 bd => intro Q g w h; exact aJY h
 | _ => intro Q g w h; exact h.elim
theorem Jo {c : Code} {Q Q' : Exit -> Env -> aNE -> Prop} {g : Env} {w : aNE} (h : bD P ann c Q g w)
 (hq : ∀ e g' w', sB (XZ c) g g' -> Q e g' w' -> Q' e g' w') : bD P ann c Q' g w :=
 let ⟨_, _, _, a, b, k⟩ := avQ c Q g w h
 k _ (hq _ _ _ b a)
def noG (Q : Exit -> Env -> aNE -> Prop) : Exit -> Env -> aNE -> Prop
 | .goto _, _, _ => False
 | e, g, w => Q e g w
theorem aD3 : ∀ (c : Code) (Q : Exit -> Env -> aNE -> Prop) (g : Env) (w : aNE), bD P ann c Q g w -> bD P ann c (noG Q) g w := by
 intro c
 induction c with
 | skip => intro Q g w h; exact h
 | region id ops draw => intro Q g w h; cases draw <;> exact h
 | seq x y ihx ihy =>
   intro Q g w h
   show bD P ann x (Ex (fun g w => bD P ann y (noG Q) g w) (noG Q)) g w
   refine Jo (ihx _ _ _ h) (fun e g' w' _ hq => ?_)
   cases e with
   | normal => exact ihy _ _ _ hq
   | goto l => exact hq.elim
   | _ => exact hq
 | cond c x y ihx ihy =>
   intro Q g w h
   simp only [bD] at h ⊢
   unfold gZ at h ⊢
   cases hc : ev g c with
   | bool b =>
     rw [hc] at h
     cases b with
     | true => exact ihx _ _ _ h
     | false => exact ihy _ _ _ h
   | _ => rw [hc] at h; exact h.elim
 | block id c ih =>
   intro Q g w h
   show bD P ann c (blk id (noG Q)) g w
   refine Jo (ih _ _ _ h) (fun e g' w' _ hq => ?_)
   cases e with
   | exit i =>
     simp only [noG, blk] at hq ⊢
     cases hb : Nat.beq i id with
     | true => rw [hb] at hq; exact hq
     | false => rw [hb] at hq; exact hq
   | goto l => exact hq.elim
   | _ => exact hq
 | loop c ih =>
   intro Q g w h
   obtain ⟨I, h0, hI⟩ := h
   refine ⟨I, h0, fun n g w hi => ?_⟩
   refine Jo (ih _ _ _ (hI n g w hi)) (fun e g' w' _ hq => ?_)
   cases e with
   | normal => exact hq
   | goto l => exact hq.elim
   | _ => exact hq
 | exit id => intro Q g w h; exact h
 | label l => intro Q g w h; exact h
 | scope c ih => intro Q g w h; exact ih Q g w h
 | ret => intro Q g w h; exact h
 | rangeFunc gf ps aK6 bd =>
   intro Q g w h
   have h : RF P ann.f gf ps aK6 bd Q g w := h
   show RF P ann.f gf ps aK6 bd (noG Q) g w
   unfold RF at h ⊢
   cases hn : noMark (g DS) with
   | false => rw [hn] at h; exact h.elim
   | true =>
     rw [hn] at h
     simp only at h ⊢
     generalize (PQ (ev g gf) [Pa (w.heap.size + 1)]).run P (rfW ann.f (apL P ann.f) ps aK6 bd g w) = r at *
     match r, h with
     | .ok (.enter f2 args) w1, h =>
       obtain ⟨v, w3, hret, r, h1, h2, h3⟩ := h
       refine ⟨v, w3, hret, r, h1, h2, ?_⟩
       cases hp : r.pending with
       | none => rw [hp] at h3; exact h3
       | some c => rw [hp] at h3; cases c <;> exact h3
 | _ => intro Q g w h; exact h.elim
theorem avX {N : Nat} {g : Env} {a : Act} (h : Xu N g a) : a.tmps = tmpsOf N g := by
 refine Array.ext (by simp [tmpsOf, h.size]) fun i h1 h2 => ?_
 have hi : i < N := by rw [<- h.size]; exact h1
 have := h.at_ i (Nat.ne_of_lt (aMK hi h.le))
 rw [aLp, aLL h1] at this
 simp [tmpsOf] at this ⊢
 exact this
theorem aHU {v : aNF} (h : noMark v = true) : aDp v = [] := by cases v <;> first | rfl | cases h
theorem amP {N : Nat} (hm : P.follows .mixedOrders = true) {ro : Option Nat} (hN : apL P ann.f = N) : ∀ (c : Code), codeOk P N ann c = true -> ro = none ∨ yE c = true →
 ∀ (Q : Exit -> Env -> aNE -> Prop) (QA : Exit -> Act -> aNE -> Prop) (g : Env) (a : Act) (w : aNE), Xu N g a →
   (∀ e g a w, Xu N g a -> Q e g w -> QA e a w) -> bD P ann c Q g w -> wpF P ann.f ro c QA a w := by
 intro c
 induction c with
 | skip => intro _ _ Q QA g a w hr hq h; exact aH0 (hq _ _ _ _ hr h)
 | region id ops draw =>
   intro hok _ Q QA g a w hr hq h
   simp only [codeOk, aLq, aMt, aMA] at hok
   have hd := arB hok.1.1
   have hca := ayE hok.1.2
   cases draw with
   | false =>
     refine aD0 ?_
     have := aGb hd hca (P := P) (Q := QA .normal) (K := Q .normal) (fun g a w => hq .normal g a w) ops.toList 0 g a w (fun j => by simp) hr h
     rw [List.range_eq_range']
     simpa using this
   | true =>
     rcases hok.2 with h1 | h1
     .cases h1
     .exact auT hm (aEm hd hca (fun g a w => hq .normal g a w) hr _ [] h1 (by simp) h)
 | seq x y ihx ihy =>
   intro hok hfl Q QA g a w hr hq h
   simp only [codeOk, aLq] at hok
   have hfx : ro = none ∨ yE x = true := hfl.imp id fun h => by simp only [yE, aLq] at h; exact h.1
   have hfy : ro = none ∨ yE y = true := hfl.imp id fun h => by simp only [yE, aLq] at h; exact h.2
   refine aIO (ihx hok.1 hfx _ _ g a w hr (fun e g a w hr h => ?_) h)
   cases e with
   | normal => exact ihy hok.2 hfy _ _ g a w hr hq h
   | _ => exact hq _ _ _ _ hr h
 | cond c x y ihx ihy =>
   intro hok hfl Q QA g a w hr hq h
   simp only [codeOk, aLq] at hok
   have hfx : ro = none ∨ yE x = true := hfl.imp id fun h => by simp only [yE, aLq] at h; exact h.1
   have hfy : ro = none ∨ yE y = true := hfl.imp id fun h => by simp only [yE, aLq] at h; exact h.2
   simp only [bD] at h
   unfold gZ at h
   have he := hr.ev c hok.1
   cases hc : ev g c with
   | bool b =>
     rw [hc] at h he
     refine aGL he ?_
     cases b with
     | true => exact ihx hok.2.1 hfx _ _ g a w hr hq h
     | false => exact ihy hok.2.2 hfy _ _ g a w hr hq h
   | _ => rw [hc] at h; exact h.elim
 | block id c ih =>
   intro hok hfl Q QA g a w hr hq h
   refine aGa (ih hok hfl _ _ g a w hr (fun e g a w hr h => ?_) h)
   cases e with
   | exit i =>
     unfold Exit.inBlock
     simp only [blk] at h
     by_cases hi : i = id
     .subst hi
      simp only [if_true]
      simp only [Nat.beq_refl] at h
      exact hq _ _ _ _ hr h
     .simp only [hi, if_false]
      have : Nat.beq i id = false := by
       cases hb : Nat.beq i id
       .rfl
       .exact absurd (aLU hb) hi
      simp only [this] at h
      exact hq _ _ _ _ hr h
   | _ => exact hq _ _ _ _ hr h
 | loop c ih =>
   intro hok hfl Q QA g a w hr hq h
   obtain ⟨I, h0, hround⟩ := h
   have hex : ∀ a w, (∃ n g, Xu N g a /\ I n g w) -> ∃ n, (∃ g, Xu N g a /\ I n g w) /\ ∀ m, (∃ g, Xu N g a /\ I m g w) -> n <= m := by
    rintro a w ⟨n, hn⟩
    induction n using Nat.strongRecOn with
    | _ n ih2 =>
      by_cases hx : ∃ m, m < n /\ ∃ g, Xu N g a /\ I m g w
      .obtain ⟨m, hm, h⟩ := hx; exact ih2 m hm h
      .exact ⟨n, hn, fun m hm => Nat.le_of_not_lt fun hlt => hx ⟨m, hlt, hm⟩⟩
   have hdec : ∀ a w, Decidable (∃ n g, Xu N g a /\ I n g w) := fun a w => Classical.propDecidable _
   let μ : Act -> aNE -> Nat := fun a w => if hh : ∃ n g, Xu N g a /\ I n g w then Classical.choose (hex a w hh) else 0
   have hμ : ∀ a w n g, Xu N g a -> I n g w -> μ a w <= n /\ ∃ g, Xu N g a /\ I (μ a w) g w := by
    intro a w n g hr hI
    have hh : ∃ n g, Xu N g a /\ I n g w := ⟨n, g, hr, hI⟩
    have e : μ a w = Classical.choose (hex a w hh) := dif_pos hh
    have s := Classical.choose_spec (hex a w hh)
    rw [e]
    exact ⟨s.2 n ⟨g, hr, hI⟩, s.1⟩
   obtain ⟨n0, h0⟩ := h0
   refine aG4 (fun a w => ∃ n g, Xu N g a /\ I n g w) μ ⟨n0, g, hr, h0⟩ ?_
   rintro a w ⟨n, g, hr, hI⟩
   obtain ⟨_, g', hr', hI'⟩ := hμ a w n g hr hI
   refine ih hok hfl _ _ g' a w hr' (fun e g1 a1 w1 hr1 h => ?_) (hround _ _ _ hI')
   cases e with
   | normal =>
     obtain ⟨m, hm, hIm⟩ := h
     have := hμ a1 w1 m g1 hr1 hIm
     exact ⟨⟨m, g1, hr1, hIm⟩, by omega⟩
   | _ => exact hq _ _ _ _ hr1 h
 | label l => intro _ _ Q QA g a w hr hq h; exact aFD (hq _ _ _ _ hr h)
 | scope c ih =>
   intro hok hfl Q QA g a w hr hq h
   refine aGl (ih hok hfl (noG Q) _ g a w hr (fun e g a w hr h => ?_) (aD3 c _ g w h))
   cases e with
   | goto l => exact h.elim
   | _ => exact hq _ _ _ _ hr h
 | exit id => intro _ _ Q QA g a w hr hq h; exact aDe (hq _ _ _ _ hr h)
 | ret => intro _ _ Q QA g a w hr hq h; exact aEQ (hq _ _ _ _ hr h)
 | rangeFunc gf ps aK6 bd =>
   intro hok hfl Q QA g a w hr hq h
   have hro : ro = none := hfl.resolve_right (by simp [yE])
   subst hro
   have hok : aAr gf = true := hok
   have h : RF P ann.f gf ps aK6 bd Q g w := h
   unfold RF at h
   cases hn : noMark (g DS) with
   | false => rw [hn] at h; exact h.elim
   | true =>
     rw [hn] at h
     simp only [hN] at h
     have ed : a.defers = [] := by rw [hr.defers, aHU hn]
     have er := run_enterLoop_outer (P := P) (w := w) ann.f a.tmps ps aK6 bd
     rw [avX hr] at er
     have er : (Instr.enterLoop ann.f a.tmps ps aK6 bd none).run P w = .ok (w.heap.size + 1, [{ target := .collected w.heap.size, args := #[] }]) (rfW ann.f N ps aK6 bd g w) := by rw [avX hr]; exact er
     generalize rfW ann.f N ps aK6 bd g w = w1 at *
     have ee := hr.ev gf hok
     unfold PQ at h
     have hres : resolve a.eval (rangeCall gf (w.heap.size + 1)) 0 = Deferred.ofValue (ev g gf) #[Pa (w.heap.size + 1)] := by
      have : resolve a.eval (rangeCall gf (w.heap.size + 1)) 0 = Deferred.ofValue (a.eval gf) #[Pa (w.heap.size + 1)] := by
       simp only [resolve, List.map_toArray, aMn, aNs]; rfl
      rw [this, ee]
     rw [show ([Pa (w.heap.size + 1)] : List aNF).toArray = #[Pa (w.heap.size + 1)] from rfl, <- hres, Sem.run_bind] at h
     cases hv : (resolve a.eval (rangeCall gf (w.heap.size + 1)) 0).run P w1 with
     | halt x wx => rw [hv] at h; exact h.elim
     | ok d wx =>
       have hwx : wx = w1 := by
        rw [hres] at hv
        unfold Deferred.ofValue at hv
        split at hv <;> first | (simp only [Sem.run_pure] at hv; cases hv; rfl) | (simp [stuck] at hv)
       subst hwx
       rw [hv] at h
       simp only [Result.andThen] at h
       cases hi : (invoke d.target d.args).run P wx with
       | halt x w2 => rw [hi] at h; exact h.elim
       | ok nx w2 =>
         rw [hi] at h
         cases nx <;> try (exact h.elim)
         obtain ⟨v, w3, hret, r, h1, h2, h3⟩ := h
         have hrel : ∀ w, Xu N (put g (some DS) (.pointer (some ⟨w, 0, none⟩))) { a with defers := [{ target := .collected w, args := #[] }] ++ a.defers } := fun w => by
          refine ⟨hr.le, ?_, hr.size, fun i hi => ?_⟩
          .rw [SR, if_pos rfl, ed] <;> rfl
          .rw [SR, if_neg hi]; exact hr.at_ i hi
         have key : ∀ (j : Option Code) (w5 : aNE), aJl Q (put g (some DS) (.pointer (some ⟨w.heap.size, 0, none⟩))) j w5 →
             aJb P ann.f QA { a with defers := [{ target := .collected w.heap.size, args := #[] }] ++ a.defers } w5 j := by
          intro j w5 h
          cases j with
          | none => exact hq _ _ _ _ (hrel _) h
          | some c =>
            cases c <;> first
             | exact h.elim
             | exact aEQ (hq _ _ _ _ (hrel _) h)
             | exact aDe (hq _ _ _ _ (hrel _) h)
         exact aFX er hv hi hret (run_endLoop h1 h2) (key _ _ h3)
 | _ => intro hok; simp [codeOk] at hok
def wZ (P : Program) : List ResultVar -> Env -> aNE -> (List aNF -> Prop) -> Prop
 | [], _, _, K => K []
 | .tmp t :: r, g, w, K => wZ P r g w fun vs => K (g t :: vs)
 | .cell a t :: r, g, w, K => ∃ v, (do loadVar t (<- asAddr (g a)) : Sem aNF).run P w = .ok v w /\ wZ P r g w fun vs => K (v :: vs)
def tup : List aNF -> aNF
 | [v] => v
 | vs => .tuple vs.toArray
def aKz (P : Program) (rs : List ResultVar) (R : aNF -> aNE -> Prop) : Exit -> Env -> aNE -> Prop
 | .normal, g, w => wZ P rs g w fun vs => R (tup vs) w
 | .ret, g, w => wZ P rs g w fun vs => R (tup vs) w
 | _, _, _ => False
theorem aDq {N : Nat} {g : Env} {a : Act} {w : aNE} (hr : Xu N g a) : ∀ (rs : List ResultVar), rs.all aAU = true -> ∀ (K : List aNF -> Prop), wZ P rs g w K →
 ∃ vs, K vs /\ (rs.mapM fun | .tmp t => pure (a.tmps.getD t undef) | .cell b t => do loadVar t (<- asAddr (a.tmps.getD b undef)) : Sem (List aNF)).run P w = .ok vs w := by
 have ne : ∀ t : Nat, Nat.blt t DS = true -> a.tmps.getD t undef = g t := fun t h => hr.at_ t (Nat.ne_of_lt ((aNa (x := t) (y := DS)) ▸ h))
 intro rs
 induction rs with
 | nil => intro _ K h; exact ⟨[], h, by simp⟩
 | cons r rs ih =>
   intro hok K h
   simp only [List.all_cons, aLq] at hok
   cases r with
   | tmp t =>
     obtain ⟨vs, h1, h2⟩ := ih hok.2 _ h
     refine ⟨_, h1, ?_⟩
     rw [List.mapM_cons]
     rw [pure_bind, Sem.run_bind]
     simp only [h2, Result.andThen, Sem.run_pure, ne t hok.1]
   | cell b t =>
     obtain ⟨v, hv, h⟩ := h
     obtain ⟨vs, h1, h2⟩ := ih hok.2 _ h
     refine ⟨_, h1, ?_⟩
     rw [List.mapM_cons]
     rw [<- ne b hok.1] at hv
     rw [Sem.run_bind]
     simp only [hv, Result.andThen]
     rw [Sem.run_bind]
     simp only [h2, Result.andThen]
     rfl
theorem aJR (vs : Array aNF) : (if h : vs.size = 1 then vs[0] else Value.tuple vs) = tup vs.toList := by
 obtain ⟨l⟩ := vs
 match l with
 | [] => rfl
 | [v] => rfl
 | a :: b :: r => simp [tup]
theorem aCt {N : Nat} {g : Env} {a : Act} {w : aNE} (fn : Func) {rs : List ResultVar} (hok : rs.all aAU = true) (hrs : fn.results = rs.toArray) (hr : Xu N g a) {R : aNF -> aNE -> Prop}
 (h : wZ P rs g w fun vs => R (tup vs) w) : ∃ v, (results fn a.tmps).run P w = .ok v w /\ R v w := by
 obtain ⟨vs, h1, h2⟩ := aDq hr rs hok _ h
 refine ⟨tup vs, ?_, h1⟩
 unfold results
 rw [hrs, Array.mapM_eq_mapM_toList, List.toList_toArray]
 simp only [bind_assoc, map_eq_pure_bind]
 rw [Sem.run_bind]
 refine Eq.trans (congrArg (fun r => Result.andThen r _) h2) ?_
 simp only [Result.andThen]
 simp only [pure_bind, Sem.run_pure, aJR]
def asU (args : List aNF) : Env := fun i => args.getD i undef
def aJC (P : Program) (rs : List ResultVar) (R : aNF -> aNE -> Prop) : Exit -> Env -> aNE -> Prop
 | .normal, g, w => G7 (g DS) w fun w => wZ P rs g w fun vs => R (tup vs) w
 | .ret, g, w => G7 (g DS) w fun w => wZ P rs g w fun vs => R (tup vs) w
 | _, _, _ => False
theorem aCI {g : Env} {w : aNE} : ∀ (rs : List ResultVar) (K : List aNF -> Prop), wZ P rs g w K -> ∃ vs, K vs /\ ∀ K' : List aNF -> Prop, K' vs -> wZ P rs g w K' := by
 intro rs
 induction rs with
 | nil => intro K h; exact ⟨_, h, fun _ h => h⟩
 | cons r rs ih =>
   intro K h
   cases r with
   | tmp t =>
     obtain ⟨vs, a, b⟩ := ih _ h
     exact ⟨_, a, fun K' h => b _ h⟩
   | cell b t =>
     obtain ⟨v, hv, h⟩ := h
     obtain ⟨vs, a, b⟩ := ih _ h
     exact ⟨_, a, fun K' h => ⟨v, hv, b _ h⟩⟩
theorem aA3 {v : aNF} {w : aNE} {K : aNE -> Prop} (h : G7 v w K) : ∃ w', K w' /\ ∀ K' : aNE -> Prop, K' w' -> G7 v w K' := by
 cases v with
 | pointer p =>
   cases p with
   | none => exact ⟨_, h, fun _ h => h⟩
   | some a => exact ⟨_, h.2, fun _ h' => ⟨h.1, h'⟩⟩
 | _ => exact ⟨_, h, fun _ h => h⟩
theorem aDJ {v : aNF} {w : aNE} {K K' : aNE -> Prop} (h : G7 v w K) (hk : ∀ w, K w -> K' w) : G7 v w K' :=
 let ⟨w', a, b⟩ := aA3 h; b _ (hk w' a)
theorem aCi {args : List aNF} {N i : Nat} (hle : args.length <= N) (hi : N <= i) : asU args i = undef := by
 unfold asU
 rw [aLl, aLo (by omega)] <;> rfl
theorem ajT {f : FuncId} {fn : Func} {c : Code} {args : List aNF} {w : aNE} {rs : List ResultVar} {R : aNF -> aNE -> Prop} (hm : P.follows .mixedOrders = true) (hAf : ann.f = f)
 (hf : P.funcs[f]? = some fn) (hb : fn.body = some c) (hrs : fn.results = rs.toArray) {N : Nat} (hN : fn.ntmps = N) (hle : args.length <= N)
 (hok : codeOk P N ann c = true) (hro : rs.all aAU = true) (hND : Nat.ble N DS = true) (h : bD P ann c (aJC P rs R) (asU args) w) : aT P f args.toArray w R := by
 obtain ⟨e, g', w', hq, _, hall⟩ := avQ _ _ _ _ h
 have hND := aMM hND
 have hNt : apL P ann.f = N := by unfold apL; rw [hAf, hf]; exact hN
 have hrv : G7 (g' DS) w' fun w => wZ P rs g' w fun vs => R (tup vs) w := by cases e <;> first | exact hq | exact hq.elim
 obtain ⟨w2, hrv2, hsh⟩ := aA3 hrv
 obtain ⟨vs, hv, hrest⟩ := aCI _ _ hrv2
 refine ⟨tup vs, w2, ?_, hv⟩
 have hrel : Xu N (asU args) { tmps := args.toArray ++ Array.replicate (fn.ntmps - args.toArray.size) undef, defers := [] } := by
  refine ⟨hND, by rw [aCi hle hND] <;> rfl, by simp [hN]; omega, fun i _ => ?_⟩
  simp only [asU, aLp, aLl]
  by_cases hi : i < args.length
  .simp [Array.getElem?_append, hi]
  .simp only [Array.getElem?_append, List.size_toArray, hi, if_false, Array.getElem?_replicate]
   rw [aLo (by omega)]
   split <;> rfl
 have key := aBj (P := P) (f := f) hf hb (R := fun v3 w3 => v3 = tup vs /\ w3 = w2) (args := args.toArray) (w := w)
  (hAf ▸ amP hm hNt c hok (.inl rfl) (aJC P rs fun v3 w3 => v3 = tup vs /\ w3 = w2) _ _ _ _ hrel (fun e g a w hr h => ?_) (hall _ ?_))
 .refine Calls.mono key ?_
  rintro e w3 ⟨v, rfl, rfl, rfl⟩
  exact ⟨rfl, rfl⟩
 .have hx : ∀ {w}, (G7 (g DS) w fun w => wZ P rs g w fun vs' => tup vs' = tup vs /\ w = w2) -> ∃ m, a.defers = aDp m /\ G7 m w fun w' => ∃ v, (results fn a.tmps).run P w' = .ok v w' /\ (v = tup vs /\ w' = w2) := by
   intro w h
   exact ⟨_, hr.defers, aDJ h fun w h => aCt fn hro hrs hr (R := fun v3 w3 => v3 = tup vs /\ w3 = w2) h⟩
  cases e with
  | normal => exact hx h
  | ret => exact hx h
  | _ => exact h.elim
 .have := hsh (fun w => wZ P rs g' w fun vs' => tup vs' = tup vs /\ w = w2) (hrest _ ⟨rfl, rfl⟩)
  cases e <;> first | exact this | exact hq.elim
theorem aIo {N : Nat} : ∀ (c : Code), codeOk P N ann c = true -> yE c = true -> ∀ s ∈ XZ c, s < N := by
 intro c
 induction c with
 | region id ops draw =>
   intro hok _ s hs
   simp only [codeOk, aLq] at hok
   obtain ⟨o, h1, h2⟩ := Qi.1 hs
   obtain ⟨i, hi, rfl⟩ := aMD h1
   exact arB hok.1.1 i _ (by simp at hi ⊢) s h2
 | seq x y ihx ihy =>
   intro hok hfl s hs
   simp only [codeOk, yE, aLq] at hok hfl
   rcases aLQ.1 hs with hs | hs
   .exact ihx hok.1 hfl.1 s hs
   .exact ihy hok.2 hfl.2 s hs
 | cond c x y ihx ihy =>
   intro hok hfl s hs
   simp only [codeOk, yE, aLq] at hok hfl
   rcases aLQ.1 hs with hs | hs
   .exact ihx hok.2.1 hfl.1 s hs
   .exact ihy hok.2.2 hfl.2 s hs
 | block id c ih => intro hok hfl s hs; exact ih hok hfl s hs
 | loop c ih => intro hok hfl s hs; exact ih hok hfl s hs
 | scope c ih => intro hok hfl s hs; exact ih hok hfl s hs
 | rangeFunc => intro _ hfl; simp [yE] at hfl
 | _ => intro _ _ s hs; simp [XZ] at hs
theorem aCx {f : FuncId} {fn : Func} {c : Code} {args : List aNF} {w : aNE} {rs : List ResultVar} {R : aNF -> aNE -> Prop} (hm : P.follows .mixedOrders = true) (hAf : ann.f = f)
 (hf : P.funcs[f]? = some fn) (hb : fn.body = some c) (hrs : fn.results = rs.toArray) {N : Nat} (hN : fn.ntmps = N) (hle : args.length <= N)
 (hok : codeOk P N ann c = true) (hro : rs.all aAU = true) (hND : Nat.ble N DS = true) (hfl : yE c = true) (h : bD P ann c (aKz P rs R) (asU args) w) : aT P f args.toArray w R := by
 refine ajT hm hAf hf hb hrs hN hle hok hro hND (Jo h fun e g' w' ha hq => ?_)
 have hND := aMM hND
 have : g' DS = undef := by
  rw [ha DS (fun hd => absurd (aIo c hok hfl DS hd) (Nat.not_lt.2 hND)), aCi hle hND]
 cases e with
 | normal => show G7 (g' DS) w' (fun w => wZ P rs g' w fun vs => R (tup vs) w); rw [this]; exact hq
 | ret => show G7 (g' DS) w' (fun w => wZ P rs g' w fun vs => R (tup vs) w); rw [this]; exact hq
 | _ => exact hq.elim
def Vi (tmps : Array aNF) : Env := fun i => tmps.getD i undef
def aBw (l : Nat) (R : aNF -> aNE -> Prop) : Exit -> Env -> aNE -> Prop
 | .normal, _, w => ∃ r : Loop, w.heap[l]? = some (.loop r) /\ R (.bool true) (w.putObj l (.loop { r with state := .ready, pending := none }))
 | .ret, _, w => ∃ r : Loop, w.heap[l]? = some (.loop r) /\ R (.bool false) (w.putObj l (.loop { r with state := .done, pending := some .ret }))
 | .exit i, _, w => ∃ r : Loop, w.heap[l]? = some (.loop r) /\ R (.bool false) (w.putObj l (.loop { r with state := .done, pending := some (.exit i) }))
 | _, _, _ => False
def asQ (P : Program) (ann : FA) (l : Nat) (bd : Code) (R : aNF -> aNE -> Prop) : Exit -> Env -> aNE -> Prop
 | .normal, g, w => ∃ r : Loop, w.heap[l]? = some (.loop r) /\ r.state = .ready /\ bD P ann bd (aBw l R) g (w.putObj l (.loop { r with state := .busy }))
 | _, _, _ => False
theorem aBx {f : FuncId} {l : Nat} {tmps : Array aNF} {aK6 bd : Code} {w : aNE} {R : aNF -> aNE -> Prop} (hm : P.follows .mixedOrders = true) (hAf : ann.f = f) {N : Nat} (hN : apL P f = N) (hND : Nat.ble N DS = true)
 (hsz : tmps.size = N) (hok1 : codeOk P N ann aK6 = true) (hf1 : yE aK6 = true) (hok2 : codeOk P N ann bd = true) (hf2 : yE bd = true)
 (h : bD P ann aK6 (asQ P ann l bd R) (Vi tmps) w) : aAK P l f tmps aK6 bd w R := by
 subst hAf
 have hND := aMM hND
 obtain ⟨e, g1, w1, hq, ha, hall⟩ := avQ _ _ _ _ h
 cases e with
 | normal =>
   obtain ⟨r, h1, h2, hd⟩ := hq
   obtain ⟨e2, g2, w2, hq2, ha2, hall2⟩ := avQ _ _ _ _ hd
   have hx : ∃ v w4, R v w4 /\ ∀ R' : aNF -> aNE -> Prop, R' v w4 -> aBw l R' e2 g2 w2 := by
    cases e2 with
    | normal => obtain ⟨r2, k1, k2⟩ := hq2; exact ⟨_, _, k2, fun R' h => ⟨r2, k1, h⟩⟩
    | ret => obtain ⟨r2, k1, k2⟩ := hq2; exact ⟨_, _, k2, fun R' h => ⟨r2, k1, h⟩⟩
    | exit i => obtain ⟨r2, k1, k2⟩ := hq2; exact ⟨_, _, k2, fun R' h => ⟨r2, k1, h⟩⟩
    | _ => exact hq2.elim
   obtain ⟨v, w4, hR, hrest⟩ := hx
   refine ⟨v, w4, ?_, hR⟩
   have hrel : Xu N (Vi tmps) { tmps := tmps, defers := [] } := by
    refine ⟨hND, ?_, hsz, fun i _ => rfl⟩
    have : Vi tmps DS = undef := by unfold Vi; rw [aLp, aME (by omega)] <;> rfl
    rw [this] <;> rfl
   have key : RoundIn Fence.wide 0 P l ann.f tmps aK6 bd w fun e w' => ∃ v', e = .returned v' /\ (v' = v /\ w' = w4) := by
    refine aBh (amP hm hN aK6 hok1 (.inr hf1) (fun e g w => e = .normal /\ g = g1 /\ w = w1) _ _ _ _ hrel ?_ (hall _ ⟨rfl, rfl, rfl⟩))
    rintro e g a w hra ⟨rfl, rfl, rfl⟩
    refine ⟨_, run_beginRound h1 h2, amP hm hN bd hok2 (.inr hf2) (aBw l fun v' w' => v' = v /\ w' = w4) _ _ _ _ hra ?_ (hall2 _ (hrest _ ⟨rfl, rfl⟩))⟩
    intro e g a w _ h
    cases e with
    | normal => obtain ⟨r, k1, k2⟩ := h; exact ⟨_, _, run_endRound none k1, k2⟩
    | ret => obtain ⟨r, k1, k2⟩ := h; exact ⟨_, _, run_endRound (some .ret) k1, k2⟩
    | exit i => obtain ⟨r, k1, k2⟩ := h; exact ⟨_, _, run_endRound (some (.exit i)) k1, k2⟩
    | _ => exact h.elim
   refine RoundIn.mono key ?_
   rintro e w' ⟨v', rfl, rfl, rfl⟩
   exact ⟨rfl, rfl⟩
 | _ => exact hq.elim
theorem aAh {f : FuncId} {args : Array aNF} {w : aNE} {R : aNF -> aNE -> Prop} (h : aT P f args w R) :
 Calls P f args w fun e w' => ∃ v, e = .returned v /\ R v w' := by
 obtain ⟨v, w', hr, hR⟩ := h
 refine Calls.mono hr ?_
 rintro e w'' ⟨rfl, rfl⟩
 exact ⟨v, rfl, hR⟩
end
def sA : Code -> Code | .seq a _ => a | c => c
def bI : Code -> Code | .block _ c => c | .loop c => c | .scope c => c | c => c
def dG (f : Func) : Code := match f.body with | some c => c | none => .skip
def aF : Nat -> Code -> Code
 | 0, c => c
 | 1, c => sA c
 | n + 1, .seq a b => .seq a (aF n b)
 | _, c => c
def aB : Nat -> Code -> Code
 | 0, c => c
 | n + 1, .seq _ b => aB n b
 | _, c => c
def aEG : Nat -> Code -> Bool
 | 1, .seq _ _ => true
 | n + 1, .seq _ b => aEG n b
 | _, _ => false
def dr (w : aNE) : aNE := { w with drawn := w.drawn + 1 }
def An (P : Program) (t : TypeId) (a : aNF) (w : aNE) (K : aNF -> Prop) : Prop := ∃ v, (do loadVar t (<- asAddr a) : Sem aNF).run P w = .ok v w /\ K v
def exL : List (Nat × (Env -> aNE -> Prop)) -> Nat -> Env -> aNE -> Prop
 | [], _, _, _ => False
 | (j, k) :: r, i, g, w => match Nat.beq i j with | true => k g w | false => exL r i g w
def exQ (kn kr : Env -> aNE -> Prop) (l : List (Nat × (Env -> aNE -> Prop))) : Exit -> Env -> aNE -> Prop
 | .normal, g, w => kn g w
 | .ret, g, w => kr g w
 | .exit i, g, w => exL l i g w
 | _, _, _ => False
def aEZ (Q : Exit -> Env -> aNE -> Prop) : List (Nat × (Env -> aNE -> Prop)) -> Prop
 | [] => True
 | (i, k) :: r => (∀ g w, k g w -> Q (.exit i) g w) /\ aEZ Q r
def iN (c a b : aNF) : Sem Next := do pure (.value (if <- asBool c then a else b))
def fU (t : TypeId) : Sem Next := V (Instr.alloc t true (.tuple #[]))
def B5 (t : TypeId) (x : aNF) : Sem Next := V (Instr.box t x)
def aL (t : TypeId) (a : aNF) : Sem Next := V (Instr.loadAt t a)
def aR (t : TypeId) (a x : aNF) : Sem Next := U (Instr.storeAt t a x)
def vW (x : aNF) : Sem Next := execOp (fun _ => x) ⟨none, .nilCheck (.tmp 0), 0, default, #[], none⟩
def sUn (op : UnOp) (x : aNF) : Sem Next := V (Op.unary op x)
def jG (s d : TypeId) (x : aNF) : Sem Next := V (convert s d x)
def aEC (t : TypeId) (x : aNF) : Sem Next := V (Instr.makeInterface t x)
def qC (t : TypeId) (l c : aNF) : Sem Next := V (Instr.makeSlice t l c)
def lZ (t : TypeId) (x : aNF) (lo hi mx : Option aNF) : Sem Next := V (Instr.sliceAt t x lo hi mx)
def aK (t : TypeId) (x : aNF) (f : Nat) : Sem Next := V (Instr.fieldAt t x f)
def cI (t : TypeId) (x i : aNF) : Sem Next := V (Instr.indexAt t x i)
def DX (t : TypeId) (x i : aNF) : Sem Next := V (Instr.index t x i)
def bQ (t : aNF) (i : Nat) : Sem Next := V (Instr.extract t i)
section
variable {P : Program} {ann : FA}
theorem aJr {Q : Exit -> Env -> aNE -> Prop} : ∀ {l : List (Nat × (Env -> aNE -> Prop))}, aEZ Q l -> ∀ {i : Nat} {g : Env} {w : aNE}, exL l i g w -> Q (.exit i) g w := by
 intro l
 induction l with
 | nil => intro _ i g w h; exact h.elim
 | cons p r ih =>
   obtain ⟨j, k⟩ := p
   rintro ⟨h1, h2⟩ i g w h
   simp only [exL] at h
   cases hb : Nat.beq i j with
   | true =>
     simp only [hb] at h
     obtain rfl := aLU hb
     exact h1 _ _ h
   | false => simp only [hb] at h; exact ih h2 h
theorem aIm {c : Code} {kn kr : Env -> aNE -> Prop} {l : List (Nat × (Env -> aNE -> Prop))} {Q : Exit -> Env -> aNE -> Prop} {g : Env} {w : aNE} {A : Prop}
 (e : A = bD P ann c (exQ kn kr l) g w) (h : A) (hn : ∀ g w, kn g w -> Q .normal g w) (hr : ∀ g w, kr g w -> Q .ret g w) (hl : aEZ Q l) : bD P ann c Q g w := by
 rw [e] at h
 refine Jo h (fun e g' w' _ hq => ?_)
 cases e with
 | normal => exact hn _ _ hq
 | ret => exact hr _ _ hq
 | exit i => exact aJr hl hq
 | _ => exact hq.elim
theorem aFL {x y z : Code} {Q : Exit -> Env -> aNE -> Prop} {g : Env} {w : aNE} (h : bD P ann (.seq (.seq x y) z) Q g w) : bD P ann (.seq x (.seq y z)) Q g w := by
 show bD P ann x (Ex (fun g w => bD P ann y (Ex (fun g w => bD P ann z Q g w) Q) g w) Q) g w
 have h : bD P ann x (Ex (fun g w => bD P ann y (Ex (fun g w => bD P ann z Q g w) Q) g w) (Ex (fun g w => bD P ann z Q g w) Q)) g w := h
 refine Jo h (fun e g' w' _ hq => ?_)
 cases e <;> exact hq
theorem aJ {K : Env -> aNE -> Prop} {Q : Exit -> Env -> aNE -> Prop} {g : Env} {w : aNE} (h : K g w) : Ex K Q .normal g w := h
theorem aFQ {Q : Exit -> Env -> aNE -> Prop} : ∀ (n : Nat) (c : Code) (g : Env) (w : aNE), aEG n c = true -> bD P ann (.seq (aF n c) (aB n c)) Q g w -> bD P ann c Q g w := by
 intro n
 induction n with
 | zero => intro c g w h; simp [aEG] at h
 | succ n ih =>
   intro c g w h hd
   cases c with
   | seq a b =>
     cases n with
     | zero => exact hd
     | succ n =>
       have hb : aEG (n + 1) b = true := by simpa [aEG] using h
       have hd' : bD P ann (.seq (.seq a (aF (n + 1) b)) (aB (n + 1) b)) Q g w := hd
       have := aFL hd'
       show bD P ann a (Ex (fun g w => bD P ann b Q g w) Q) g w
       have h2 : bD P ann a (Ex (fun g w => bD P ann (.seq (aF (n + 1) b) (aB (n + 1) b)) Q g w) Q) g w := this
       refine Jo h2 (fun e g' w' _ hq => ?_)
       cases e with
       | normal => exact ih b g' w' hb hq
       | _ => exact hq
   | _ => cases n <;> simp [aEG] at h
def aI4 (id : Nat) : Code -> Bool | .block i _ => Nat.beq i id | _ => false
def aHL : Code -> Bool | .loop _ => true | _ => false
theorem aIc {Q : Exit -> Env -> aNE -> Prop} (id : Nat) (c : Code) (g : Env) (w : aNE) (h : aI4 id c = true) (hd : bD P ann (bI c) (blk id Q) g w) : bD P ann c Q g w := by
 cases c with
 | block i c =>
   obtain rfl := aLU (show Nat.beq i id = true from h)
   exact hd
 | _ => cases h
def aI7 : Code -> Bool | .scope _ => true | _ => false
theorem aI0 {Q : Exit -> Env -> aNE -> Prop} (c : Code) (g : Env) (w : aNE) (h : aI7 c = true) (hd : bD P ann (bI c) Q g w) : bD P ann c Q g w := by
 cases c with
 | scope c => exact hd
 | _ => cases h
theorem aGN {T : Type} (proj : Env -> T) (F : (T -> aNE -> Prop) -> T -> aNE -> Prop) {c : Code} {Q : Exit -> Env -> aNE -> Prop} {g : Env} {w : aNE}
 (hF : ∀ (X : T -> aNE -> Prop) g' w', sB (XZ c) g g' -> F X (proj g') w' -> bD P ann c (Ex (fun g'' w'' => X (proj g'') w'') Q) g' w')
 (h : cS F (proj g) w) : bD P ann (.loop c) Q g w := by
 obtain ⟨I, ⟨n, h0⟩, hI⟩ := h
 refine ⟨fun n g' w' => sB (XZ c) g g' /\ I n (proj g') w', ⟨n, sB.refl _ _, h0⟩, ?_⟩
 rintro n g' w' ⟨ha, hi⟩
 have := hF _ g' w' ha (hI n _ _ hi)
 refine Jo this (fun e g2 w2 ha2 hq => ?_)
 cases e with
 | normal =>
   obtain ⟨m, hm, hh⟩ := hq
   exact ⟨m, hm, ha.trans ha2 (fun _ h => h) (fun _ h => h), hh⟩
 | _ => exact hq
theorem aGj {T : Type} (proj : Env -> T) (F : (T -> aNE -> Prop) -> T -> aNE -> Prop) (c : Code) {Q : Exit -> Env -> aNE -> Prop} {g : Env} {w : aNE} (hl : aHL c = true)
 (h : cS F (proj g) w)
 (hF : ∀ (X : T -> aNE -> Prop) g' w', sB (XZ (bI c)) g g' -> F X (proj g') w' -> bD P ann (bI c) (Ex (fun g'' w'' => X (proj g'') w'') Q) g' w') : bD P ann c Q g w := by
 cases c with
 | loop c => exact aGN proj F hF h
 | _ => cases hl
theorem aEF {l : List Nat} {s : Nat} (hs : vX s l = false) : s ∉ l := by
 induction l with
 | nil => simp
 | cons a r ih =>
   unfold vX at hs
   cases hb : Nat.beq a s with
   | true => simp only [hb] at hs; cases hs
   | false =>
     simp only [hb] at hs
     intro hm
     rcases aL2.1 hm with e | hm
     .subst e; simp at hb
     .exact ih hs hm
theorem aGO {l : List Nat} {g g' : Env} (h : sB l g g') {s : Nat} (hs : vX s l = false) : g' s = g s := h s (aEF hs)
def Zi (id : Nat) : Code -> Array Oper
 | .region i ops _ => match Nat.beq i id with | true => ops | false => #[]
 | .seq a b => match (Zi id a).size with | 0 => Zi id b | _ + 1 => Zi id a
 | .cond _ a b => match (Zi id a).size with | 0 => Zi id b | _ + 1 => Zi id a
 | .block _ c => Zi id c
 | .loop c => Zi id c
 | .scope c => Zi id c
 | _ => #[]
theorem aHg {b : Bool} {A B : Prop} (ha : A) (hb : B) : Ord b A B := by cases b <;> assumption
theorem cS.rule {α : Type} {F : (α -> aNE -> Prop) -> α -> aNE -> Prop} (I : Nat -> α -> aNE -> Prop) {g : α} {w : aNE} (n : Nat) (h0 : I n g w)
 (hr : ∀ n g w, I n g w -> F (fun g' w' => ∃ m, m < n /\ I m g' w') g w) : cS F g w := ⟨I, ⟨n, h0⟩, hr⟩
theorem aG (A B : Prop) : gZ (.bool true) A B = A := Eq.trans rfl rfl
theorem aE (A B : Prop) : gZ (.bool false) A B = B := Eq.trans rfl rfl
theorem bJ (s : (aNF -> aNE -> Prop) -> Prop) (w : aNE) (K : aNF -> aNE -> Prop) : Gd true s w K = s K := Eq.trans rfl rfl
theorem cK (s : (aNF -> aNE -> Prop) -> Prop) (w : aNE) (K : aNF -> aNE -> Prop) : Gd false s w K = K undef w := Eq.trans rfl rfl
theorem zS (p : Prop) : Gs true p = p := Eq.trans rfl rfl
theorem uY (p : Prop) : Gs false p = True := Eq.trans rfl rfl
theorem pB : gJ (.bool true) true = true := Eq.trans rfl rfl
theorem jM : gJ (.bool true) false = false := Eq.trans rfl rfl
theorem sL : gJ (.bool false) true = false := Eq.trans rfl rfl
theorem dI : gJ (.bool false) false = true := Eq.trans rfl rfl
def aM : Operand := .tmp 0
theorem eL {c : Code} {kn kr : Env -> aNE -> Prop} {l : List (Nat × (Env -> aNE -> Prop))} {Q : Exit -> Env -> aNE -> Prop} {g : Env} {w : aNE} {A : Prop}
 (h : A) (hn : ∀ g w, kn g w -> Q .normal g w) (hr : ∀ g w, kr g w -> Q .ret g w) (hl : aEZ Q l) (e : A = bD P ann c (exQ kn kr l) g w := by kernel_rfl) : bD P ann c Q g w := aIm e h hn hr hl
theorem jA {Q : Exit -> Env -> aNE -> Prop} (n : Nat) {c : Code} {g : Env} {w : aNE}
 (hd : bD P ann (aF n c) (Ex (fun g w => bD P ann (aB n c) Q g w) Q) g w) (h : aEG n c = true := by kernel_rfl) : bD P ann c Q g w := aFQ n c g w h hd
theorem wX {Q : Exit -> Env -> aNE -> Prop} (id : Nat) {c : Code} {g : Env} {w : aNE} (hd : bD P ann (bI c) (blk id Q) g w) (h : aI4 id c = true := by kernel_rfl) : bD P ann c Q g w := aIc id c g w h hd
theorem scD {Q : Exit -> Env -> aNE -> Prop} {c : Code} {g : Env} {w : aNE} (hd : bD P ann (bI c) Q g w) (h : aI7 c = true := by kernel_rfl) : bD P ann c Q g w := aI0 c g w h hd
theorem CS {T : Type} (proj : Env -> T) (F : (T -> aNE -> Prop) -> T -> aNE -> Prop) {c : Code} {Q : Exit -> Env -> aNE -> Prop} {g : Env} {w : aNE}
 (h : cS F (proj g) w)
 (hF : ∀ (X : T -> aNE -> Prop) g' w', sB (XZ (bI c)) g g' -> F X (proj g') w' -> bD P ann (bI c) (Ex (fun g'' w'' => X (proj g'') w'') Q) g' w') (hl : aHL c = true := by kernel_rfl) : bD P ann c Q g w := aGj proj F c hl h hF
theorem jX {l : List Nat} {g g' : Env} (s : Nat) (h : sB l g g') (hs : vX s l = false := by kernel_rfl) : g' s = g s := aGO h hs
theorem uO {ann : FA} (fn : Func) (c : Code) (args : List aNF) (rs : List ResultVar) (N : Nat) {f : FuncId} {w : aNE} {R : aNF -> aNE -> Prop} (hm : P.follows .mixedOrders = true)
 (hf : P.funcs[f]? = some fn) (h : bD P ann c (aKz P rs R) (asU args) w) (hAf : ann.f = f := by kernel_rfl) (hb : fn.body = some c := by kernel_rfl) (hrs : fn.results = rs.toArray := by kernel_rfl) (hN : fn.ntmps = N := by kernel_rfl) (hle : Nat.ble args.length N = true := by kernel_rfl)
 (hok : codeOk P N ann c = true := by kernel_rfl) (hro : rs.all aAU = true := by kernel_rfl) (hND : Nat.ble N DS = true := by kernel_rfl) (hfl : yE c = true := by kernel_rfl) : aT P f args.toArray w R :=
 aCx hm hAf hf hb hrs hN (aMM hle) hok hro hND hfl h
def aAc : Code -> Option (Operand × Array Tmp × Code × Code)
 | .rangeFunc g ps aK6 bd => some (g, ps, aK6, bd)
 | .seq a b => (match aAc a with | some r => some r | none => aAc b)
 | .cond _ a b => (match aAc a with | some r => some r | none => aAc b)
 | .block _ c => aAc c
 | .loop c => aAc c
 | .scope c => aAc c
 | _ => none
def aGA (c : Code) : Array Tmp := match aAc c with | some (_, ps, _) => ps | none => #[]
def aFC (c : Code) : Code := match aAc c with | some (_, _, aK6, _) => aK6 | none => .skip
def aD5 (c : Code) : Code := match aAc c with | some (_, _, _, bd) => bd | none => .skip
def Rdy (l : Nat) (w : aNE) (K : aNE -> Prop) : Prop := ∃ r : Loop, w.heap[l]? = some (.loop r) /\ r.state = .ready /\ K (w.putObj l (.loop { r with state := .busy }))
def jSt : Option Code -> LoopState
 | none => .ready
 | some _ => .done
def aDw (l : Nat) (j : Option Code) (R : aNF -> aNE -> Prop) (w : aNE) : Prop :=
 ∃ r : Loop, w.heap[l]? = some (.loop r) /\ R (.bool j.isNone) (w.putObj l (.loop { r with state := jSt j, pending := j }))
def aJO : List ResultVar := []
theorem dsF {ann : FA} (fn : Func) (c : Code) (args : List aNF) (rs : List ResultVar) (N : Nat) {f : FuncId} {w : aNE} {R : aNF -> aNE -> Prop} (hm : P.follows .mixedOrders = true)
 (hf : P.funcs[f]? = some fn) (h : bD P ann c (aJC P rs R) (asU args) w) (hAf : ann.f = f := by kernel_rfl) (hb : fn.body = some c := by kernel_rfl) (hrs : fn.results = rs.toArray := by kernel_rfl) (hN : fn.ntmps = N := by kernel_rfl) (hle : Nat.ble args.length N = true := by kernel_rfl)
 (hok : codeOk P N ann c = true := by kernel_rfl) (hro : rs.all aAU = true := by kernel_rfl) (hND : Nat.ble N DS = true := by kernel_rfl) : aT P f args.toArray w R :=
 ajT hm hAf hf hb hrs hN (aMM hle) hok hro hND h
theorem dsR {ann : FA} (N : Nat) {f : FuncId} {l : Nat} {tmps : Array aNF} {aK6 bd : Code} {w : aNE} {R : aNF -> aNE -> Prop} (hm : P.follows .mixedOrders = true) (hsz : tmps.size = N)
 (h : bD P ann aK6 (asQ P ann l bd R) (Vi tmps) w) (hN : apL P f = N) (hok1 : codeOk P N ann aK6 = true) (hok2 : codeOk P N ann bd = true) (hAf : ann.f = f := by kernel_rfl) (hND : Nat.ble N DS = true := by kernel_rfl)
 (hf1 : yE aK6 = true := by kernel_rfl) (hf2 : yE bd = true := by kernel_rfl) : aAK P l f tmps aK6 bd w R :=
 aBx hm hAf hN hND hsz hok1 hf1 hok2 hf2 h
end
end Go.En
namespace Go.Proofs.YtgpimhlgaokobaaGreat
open Go Go.En
noncomputable abbrev pg : Program := Tryz.prog
theorem TryzM.mixed : pg.follows .mixedOrders = true := Tryz.checked.mixed
abbrev K0 := aNE -> Prop
abbrev K1 := aNF -> K0
abbrev K2 := aNF -> K1
abbrev K3 := aNF -> K2
abbrev K4 := aNF -> K3
abbrev K5 := aNF -> K4
abbrev K6 := aNF -> K5
abbrev K7 := aNF -> K6
abbrev K8 := aNF -> K7
abbrev K9 := aNF -> K8
abbrev K10 := aNF -> K9
abbrev K11 := aNF -> K10
abbrev HR (rs : List ResultVar) (R : K1) (Q : Exit -> Env -> aNE -> Prop) : Prop := ∀ g w, (wZ pg rs g w fun vs => R (tup vs) w) -> Q .ret g w
abbrev HRF (rs : List ResultVar) (R : K1) (Q : Exit -> Env -> aNE -> Prop) : Prop := ∀ g w, (G7 (g DS) w fun w => wZ pg rs g w fun vs => R (tup vs) w) -> Q .ret g w
abbrev no : Env -> aNE -> Prop := fun _ _ => False
theorem gT {Q : Env -> aNE -> Prop} : ∀ g w, no g w -> Q g w := fun _ _ h => h.elim
abbrev zL : FuncId := 5
abbrev I9 : FuncId := 6
abbrev Mc : FuncId := 7
abbrev Ac : FuncId := 8
abbrev Mw : FuncId := 9
abbrev Gp : FuncId := 10
abbrev Dx : FuncId := 11
abbrev wN : FuncId := 12
abbrev CV : FuncId := 13
abbrev vG : FuncId := 14
abbrev AS : FuncId := 15
abbrev jS : FuncId := 16
abbrev wL : FuncId := 17
abbrev BF : FuncId := 18
abbrev zM : FuncId := 19
abbrev IQ : FuncId := 20
abbrev Mx : FuncId := 21
abbrev Fq : FuncId := 22
abbrev DI : FuncId := 23
abbrev yI : FuncId := 24
abbrev Ak : FuncId := 25
abbrev xO : FuncId := 26
abbrev sQ : FuncId := 27
abbrev lJ : FuncId := 28
abbrev sF : FuncId := 29
abbrev rP : FuncId := 30
abbrev Jr : FuncId := 31
abbrev CR : FuncId := 32
abbrev Gk : FuncId := 33
abbrev vC : FuncId := 34
abbrev rI : FuncId := 35
abbrev rN : FuncId := 36
abbrev Dq : FuncId := 37
abbrev Cj : FuncId := 38
abbrev BW : FuncId := 39
abbrev Dt : FuncId := 40
abbrev IC : FuncId := 41
abbrev Fc : FuncId := 42
abbrev Fh : FuncId := 43
abbrev FC : FuncId := 44
abbrev I3 : FuncId := 45
abbrev Av : FuncId := 46
abbrev BM : FuncId := 47
abbrev Ah : FuncId := 48
abbrev IX : FuncId := 49
abbrev G3 : FuncId := 50
abbrev nZ : FuncId := 51
abbrev sX : FuncId := 52
abbrev ahO : FuncId := 53
abbrev Ba : FuncId := 54
abbrev ID : FuncId := 55
abbrev sI : FuncId := 56
abbrev Jf : FuncId := 57
abbrev Qc : FuncId := 58
abbrev qX : FuncId := 59
abbrev T4 : FuncId := 60
abbrev Ao : FuncId := 61
abbrev rZ : FuncId := 62
abbrev Ar : FuncId := 63
abbrev uA : FuncId := 64
abbrev FJ : FuncId := 65
abbrev wT : FuncId := 66
abbrev vP : FuncId := 67
abbrev Mf : FuncId := 68
abbrev EE : FuncId := 69
abbrev I7 : FuncId := 70
abbrev CK : FuncId := 71
abbrev B4 : FuncId := 72
abbrev Me : FuncId := 73
abbrev Qx : FuncId := 74
abbrev AO : FuncId := 75
abbrev tU : FuncId := 76
abbrev mX : FuncId := 77
abbrev Bd : FuncId := 78
abbrev pQ : FuncId := 79
abbrev F6 : FuncId := 80
abbrev yD : FuncId := 81
abbrev Cd : FuncId := 82
abbrev xP : FuncId := 83
abbrev Cb : FuncId := 84
abbrev FG : FuncId := 85
abbrev Gh : FuncId := 86
abbrev qQ : FuncId := 87
abbrev ajH : FuncId := 88
abbrev A8 : FuncId := 89
abbrev ES : FuncId := 90
abbrev zQ : FuncId := 91
abbrev MC : FuncId := 92
abbrev Ml : FuncId := 93
abbrev IJ : FuncId := 94
abbrev zJ : FuncId := 95
abbrev BZ : FuncId := 96
abbrev zD : FuncId := 97
abbrev rS : FuncId := 98
abbrev wE : FuncId := 99
abbrev Jx : FuncId := 100
abbrev MF : FuncId := 101
abbrev BU : FuncId := 102
abbrev I5 : FuncId := 103
abbrev Qd : FuncId := 104
abbrev oX : FuncId := 105
abbrev N0 (Q : Exit -> Env -> aNE -> Prop) (k : K0) : Prop := ∀ g w, k w -> Q .normal g w
abbrev E0 (Q : Exit -> Env -> aNE -> Prop) (k : K0) (x0 : Nat) : Prop := ∀ g w, k w -> Q (.exit x0) g w
abbrev N1 (Q : Exit -> Env -> aNE -> Prop) (k : K1) (a_ : Nat) : Prop := ∀ g w, k (g a_) w -> Q .normal g w
abbrev E1 (Q : Exit -> Env -> aNE -> Prop) (k : K1) (x0 : Nat) (a_ : Nat) : Prop := ∀ g w, k (g a_) w -> Q (.exit x0) g w
abbrev N2 (Q : Exit -> Env -> aNE -> Prop) (k : K2) (a_ b_ : Nat) : Prop := ∀ g w, k (g a_) (g b_) w -> Q .normal g w
abbrev E2 (Q : Exit -> Env -> aNE -> Prop) (k : K2) (x0 : Nat) (a_ b_ : Nat) : Prop := ∀ g w, k (g a_) (g b_) w -> Q (.exit x0) g w
abbrev N3 (Q : Exit -> Env -> aNE -> Prop) (k : K3) (a_ b_ c_ : Nat) : Prop := ∀ g w, k (g a_) (g b_) (g c_) w -> Q .normal g w
abbrev E3 (Q : Exit -> Env -> aNE -> Prop) (k : K3) (x0 : Nat) (a_ b_ c_ : Nat) : Prop := ∀ g w, k (g a_) (g b_) (g c_) w -> Q (.exit x0) g w
abbrev N4 (Q : Exit -> Env -> aNE -> Prop) (k : K4) (a_ b_ c_ d_ : Nat) : Prop := ∀ g w, k (g a_) (g b_) (g c_) (g d_) w -> Q .normal g w
abbrev E4 (Q : Exit -> Env -> aNE -> Prop) (k : K4) (x0 : Nat) (a_ b_ c_ d_ : Nat) : Prop := ∀ g w, k (g a_) (g b_) (g c_) (g d_) w -> Q (.exit x0) g w
abbrev N5 (Q : Exit -> Env -> aNE -> Prop) (k : K5) (a_ b_ c_ d_ e_ : Nat) : Prop := ∀ g w, k (g a_) (g b_) (g c_) (g d_) (g e_) w -> Q .normal g w
abbrev E5 (Q : Exit -> Env -> aNE -> Prop) (k : K5) (x0 : Nat) (a_ b_ c_ d_ e_ : Nat) : Prop := ∀ g w, k (g a_) (g b_) (g c_) (g d_) (g e_) w -> Q (.exit x0) g w
abbrev N6 (Q : Exit -> Env -> aNE -> Prop) (k : K6) (a_ b_ c_ d_ e_ f_ : Nat) : Prop := ∀ g w, k (g a_) (g b_) (g c_) (g d_) (g e_) (g f_) w -> Q .normal g w
abbrev E6 (Q : Exit -> Env -> aNE -> Prop) (k : K6) (x0 : Nat) (a_ b_ c_ d_ e_ f_ : Nat) : Prop := ∀ g w, k (g a_) (g b_) (g c_) (g d_) (g e_) (g f_) w -> Q (.exit x0) g w
abbrev N7 (Q : Exit -> Env -> aNE -> Prop) (k : K7) (a_ b_ c_ d_ e_ f_ g_ : Nat) : Prop := ∀ g w, k (g a_) (g b_) (g c_) (g d_) (g e_) (g f_) (g g_) w -> Q .normal g w
abbrev E7 (Q : Exit -> Env -> aNE -> Prop) (k : K7) (x0 : Nat) (a_ b_ c_ d_ e_ f_ g_ : Nat) : Prop := ∀ g w, k (g a_) (g b_) (g c_) (g d_) (g e_) (g f_) (g g_) w -> Q (.exit x0) g w
abbrev N8 (Q : Exit -> Env -> aNE -> Prop) (k : K8) (a_ b_ c_ d_ e_ f_ g_ h_ : Nat) : Prop := ∀ g w, k (g a_) (g b_) (g c_) (g d_) (g e_) (g f_) (g g_) (g h_) w -> Q .normal g w
abbrev E8 (Q : Exit -> Env -> aNE -> Prop) (k : K8) (x0 : Nat) (a_ b_ c_ d_ e_ f_ g_ h_ : Nat) : Prop := ∀ g w, k (g a_) (g b_) (g c_) (g d_) (g e_) (g f_) (g g_) (g h_) w -> Q (.exit x0) g w
abbrev N9 (Q : Exit -> Env -> aNE -> Prop) (k : K9) (a_ b_ c_ d_ e_ f_ g_ h_ i_ : Nat) : Prop := ∀ g w, k (g a_) (g b_) (g c_) (g d_) (g e_) (g f_) (g g_) (g h_) (g i_) w -> Q .normal g w
abbrev N10 (Q : Exit -> Env -> aNE -> Prop) (k : K10) (a_ b_ c_ d_ e_ f_ g_ h_ i_ j_ : Nat) : Prop := ∀ g w, k (g a_) (g b_) (g c_) (g d_) (g e_) (g f_) (g g_) (g h_) (g i_) (g j_) w -> Q .normal g w
abbrev E10 (Q : Exit -> Env -> aNE -> Prop) (k : K10) (x0 : Nat) (a_ b_ c_ d_ e_ f_ g_ h_ i_ j_ : Nat) : Prop := ∀ g w, k (g a_) (g b_) (g c_) (g d_) (g e_) (g f_) (g g_) (g h_) (g i_) (g j_) w -> Q (.exit x0) g w
abbrev N11 (Q : Exit -> Env -> aNE -> Prop) (k : K11) (a_ b_ c_ d_ e_ f_ g_ h_ i_ j_ k_ : Nat) : Prop := ∀ g w, k (g a_) (g b_) (g c_) (g d_) (g e_) (g f_) (g g_) (g h_) (g i_) (g j_) (g k_) w -> Q .normal g w
abbrev aNG (n_ : Int) : aNF := .int .i64 n_
end Go.Proofs.YtgpimhlgaokobaaGreat
namespace Go.Proofs.YtgpimhlgaokobaaGreat
open Go Go.En
set_option maxRecDepth 20000
attribute [local irreducible] Go.En.bD
variable (Q : Exit -> Env -> aNE -> Prop) (g : Env) (w : aNE)
def kK : FA := ⟨zL, fun i => .leaf ([], []) []⟩
def qM : List ResultVar := [.tmp 6]
noncomputable def jZ : Code := dG Tryz.f5
def qL (R : K1) (dY MK jI Tp aoM : aNF) (w : aNE) : Prop :=
 aD pg (jG 22 9 Tp) w fun o4 w =>
 aT pg Mw #[o4, aoM] w fun o6 w =>
 aD pg (bQ o6 0) w fun o7 w =>
 aD pg (bQ o6 1) w fun o8 w =>
 aD pg (bQ o6 2) w fun o9 w =>
 aD pg (bQ o6 3) w fun p0 w =>
 aD pg (jG 9 22 aoM) w fun p4 w =>
 aT pg Ac #[Tp, p4] w fun p5 w =>
 aD pg (bQ p5 0) w fun p6 w =>
 aD pg (bQ p5 1) w fun p7 w =>
 aD pg (bQ p5 2) w fun p8 w =>
 aD pg (bQ p5 3) w fun p9 w =>
 aD pg (aI .eql 27 (.tmp 120) (.const (aNG 0)) p0 (aNG 0)) w fun q1 w =>
 Gd (gJ q1 true) (fun K => K o7 w) w fun q3 w =>
 Gd (gJ q1 true) (fun K => K dY w) w fun q4 w =>
 Gd (gJ q1 true) (fun K => aD pg (jG 22 9 q4) w K) w fun q5 w =>
 Gd (gJ q1 true) (fun K => aD pg (aI .eql 9 (.tmp 123) (.tmp 125) q3 q5) w K) w fun q6 w =>
 aD pg (iN q1 q6 (.bool false)) w fun q7 w =>
 Gd (gJ q7 true) (fun K => K o8 w) w fun q9 w =>
 Gd (gJ q7 true) (fun K => K MK w) w fun s0 w =>
 Gd (gJ q7 true) (fun K => aD pg (jG 22 9 s0) w K) w fun s1 w =>
 Gd (gJ q7 true) (fun K => aD pg (aI .eql 9 (.tmp 129) (.tmp 131) q9 s1) w K) w fun s2 w =>
 aD pg (iN q7 s2 (.bool false)) w fun s3 w =>
 Gd (gJ s3 true) (fun K => K o9 w) w fun s5 w =>
 Gd (gJ s3 true) (fun K => K Tp w) w fun s6 w =>
 Gd (gJ s3 true) (fun K => aD pg (lG .len #[22] 3 [s6]) w K) w fun s7 w =>
 Gd (gJ s3 true) (fun K => aD pg (aI .eql 3 (.tmp 135) (.tmp 137) s5 s7) w K) w fun s8 w =>
 aD pg (iN s3 s8 (.bool false)) w fun s9 w =>
 Gd (gJ s9 true) (fun K => K p9 w) w fun u1 w =>
 Gd (gJ s9 true) (fun K => aD pg (aI .eql 27 (.tmp 141) (.const (aNG 0)) u1 (aNG 0)) w K) w fun u2 w =>
 aD pg (iN s9 u2 (.bool false)) w fun u3 w =>
 Gd (gJ u3 true) (fun K => K p6 w) w fun u5 w =>
 Gd (gJ u3 true) (fun K => aD pg (jG 22 9 u5) w K) w fun u6 w =>
 Gd (gJ u3 true) (fun K => K o7 w) w fun u7 w =>
 Gd (gJ u3 true) (fun K => aD pg (aI .eql 9 (.tmp 146) (.tmp 147) u6 u7) w K) w fun u8 w =>
 aD pg (iN u3 u8 (.bool false)) w fun u9 w =>
 Gd (gJ u9 true) (fun K => K p7 w) w fun v1 w =>
 Gd (gJ u9 true) (fun K => aD pg (jG 22 9 v1) w K) w fun v2 w =>
 Gd (gJ u9 true) (fun K => K o8 w) w fun v3 w =>
 Gd (gJ u9 true) (fun K => aD pg (aI .eql 9 (.tmp 152) (.tmp 153) v2 v3) w K) w fun v4 w =>
 aD pg (iN u9 v4 (.bool false)) w fun v5 w =>
 Gd (gJ v5 true) (fun K => K p8 w) w fun v7 w =>
 Gd (gJ v5 true) (fun K => K o9 w) w fun v8 w =>
 Gd (gJ v5 true) (fun K => aD pg (aI .eql 3 (.tmp 157) (.tmp 158) v7 v8) w K) w fun v9 w =>
 aD pg (iN v5 v9 (.bool false)) w fun x0 w =>
 Gd (gJ x0 true) (fun K => K Tp w) w fun x2 w =>
 Gd (gJ x0 true) (fun K => aD pg (cI 22 x2 (aNG 0)) w K) w fun x3 w =>
 Gd (gJ x0 true) (fun K => aD pg (aL 5 x3) w K) w fun x4 w =>
 Gd (gJ x0 true) (fun K => aD pg (aI .and 5 aM aM x4 (.int .u8 3)) w K) w fun x5 w =>
 Gd (gJ x0 true) (fun K => aD pg (aI .eql 5 (.tmp 165) (.const (.int .u8 2)) x5 (.int .u8 2)) w K) w fun x6 w =>
 Gd (gJ x0 true) (fun K => K jI w) w fun x7 w =>
 Gd (gJ x0 true) (fun K => aD pg (aI .eql 4 (.tmp 166) (.tmp 167) x6 x7) w K) w fun x8 w =>
 aD pg (iN x0 x8 (.bool false)) w fun x9 w =>
 R x9 w
theorem Ok (R : K1) (hr : HR qM R Q) (h : qL R (g 0) (g 1) (g 2) (g 8) (g 12) w) : bD pg kK (aB 5 (aB 1 (aB 6 jZ))) Q g w :=
 eL (kn := no) (l := []) h gT hr trivial
def yQ (kn : K5) (R : K1) (dY MK jI Tp Vc pN : aNF) (w : aNE) : Prop :=
 aD pg (sUn .not pN) w fun l6 w =>
 gZ l6
  (aD pg (aI .neq 27 (.tmp 77) (.const (aNG 0)) Vc (aNG 0)) w fun l8 w =>
  Gd (gJ l8 true) (fun K => K Tp w) w fun m0 w =>
  Gd (gJ l8 true) (fun K => aD pg (lG .len #[22] 3 [m0]) w K) w fun m1 w =>
  Gd (gJ l8 true) (fun K => aD pg (aI .eql 3 (.tmp 81) (.const (aNG 0)) m1 (aNG 0)) w K) w fun m2 w =>
  aD pg (iN l8 m2 (.bool false)) w fun m3 w =>
  R m3 w)
  (Gd (gJ jI true) (fun K => K MK w) w fun m6 w =>
  Gd (gJ jI true) (fun K => aD pg (lG .len #[22] 3 [m6]) w K) w fun m7 w =>
  Gd (gJ jI true) (fun K => aD pg (aI .gtr 3 aM aM m7 (aNG 129)) w K) w fun m8 w =>
  aD pg (iN jI m8 (.bool false)) w fun m9 w =>
  gZ m9
   (aD pg (aI .eql 27 (.tmp 90) (.const (aNG 12)) Vc (aNG 12)) w fun n1 w =>
   Gd (gJ n1 true) (fun K => K Tp w) w fun n3 w =>
   Gd (gJ n1 true) (fun K => aD pg (lG .len #[22] 3 [n3]) w K) w fun n4 w =>
   Gd (gJ n1 true) (fun K => aD pg (aI .eql 3 (.tmp 94) (.const (aNG 0)) n4 (aNG 0)) w K) w fun n5 w =>
   aD pg (iN n1 n5 (.bool false)) w fun n6 w =>
   R n6 w)
   (aD pg (aI .neq 27 (.tmp 97) (.const (aNG 0)) Vc (aNG 0)) w fun n8 w =>
   gZ n8
    (R (.bool false) w)
    (aD pg (jG 22 9 MK) w fun o0 w =>
    gZ jI
     (kn dY MK jI Tp (.string ⟨#[]⟩) w)
     (kn dY MK jI Tp o0 w))))
theorem PE (kn : K5) (R : K1) (hn : N5 Q kn 0 1 2 8 12) (hr : HR qM R Q) (h : yQ kn R (g 0) (g 1) (g 2) (g 8) (g 9) (g 10) w) : bD pg kK (aF 5 (aB 1 (aB 6 jZ))) Q g w :=
 eL (l := []) h hn hr trivial
def tK (R : K1) (dY MK jI Tp Vc pN : aNF) (w : aNE) : Prop :=
 yQ (fun dY MK jI Tp aoM w => qL R dY MK jI Tp aoM w) R dY MK jI Tp Vc pN w
def tS (kn : K7) (k0 : K6) (dY MK jI Tp Vc pN Bv : aNF) (w : aNE) : Prop :=
 aD pg (lG .len #[22] 3 [dY]) w fun i0 w =>
 aD pg (aI .lss 3 aM aM Bv i0) w fun i1 w =>
 Gd (gJ i1 true) (fun K => K pN w) w fun i3 w =>
 aD pg (iN i1 i3 (.bool false)) w fun i4 w =>
 gZ i4
  (aD pg (cI 22 dY Bv) w fun i9 w =>
  aD pg (aL 5 i9) w fun j0 w =>
  aD pg (jG 5 3 j0) w fun j1 w =>
  aD pg (lG .len #[22] 3 [MK]) w fun j3 w =>
  aD pg (aI .lss 3 aM aM j1 j3) w fun j4 w =>
  Gd (gJ j4 true) (fun K => K MK w) w fun j6 w =>
  Gd (gJ j4 true) (fun K => K dY w) w fun j7 w =>
  Gd (gJ j4 true) (fun K => K Bv w) w fun j8 w =>
  Gd (gJ j4 true) (fun K => aD pg (cI 22 j7 j8) w K) w fun j9 w =>
  Gd (gJ j4 true) (fun K => aD pg (aL 5 j9) w K) w fun l0 w =>
  Gd (gJ j4 true) (fun K => aD pg (cI 22 j6 l0) w K) w fun l1 w =>
  Gd (gJ j4 true) (fun K => aD pg (aL 5 l1) w K) w fun l2 w =>
  Gd (gJ j4 true) (fun K => aD pg (aI .gtr 5 aM aM l2 (.int .u8 0)) w K) w fun l3 w =>
  aD pg (iN j4 l3 (.bool false)) w fun l4 w =>
  aD pg (aI .add 3 aM aM Bv (aNG 1)) w fun i6 w =>
  kn dY MK jI Tp Vc l4 i6 w)
  (k0 dY MK jI Tp Vc pN w)
theorem NO (kn : K7) (k0 : K6) (hn : N7 Q kn 0 1 2 8 9 10 11) (h0 : E6 Q k0 0 0 1 2 8 9 10) (h : tS kn k0 (g 0) (g 1) (g 2) (g 8) (g 9) (g 10) (g 11) w) : bD pg kK (bI (bI (aB 1 (aF 1 (aB 6 jZ))))) Q g w :=
 eL (kr := no) (l := [(0, fun g w => k0 (g 0) (g 1) (g 2) (g 8) (g 9) (g 10) w)]) h hn gT ⟨h0, trivial⟩
def yP (k0 : K6) (dY MK jI Tp Vc pN Bv : aNF) (w : aNE) : Prop :=
 cS (fun (X : (aNF × aNF) -> K0) (t : aNF × aNF) (w : aNE) => tS (fun _ _ _ _ _ pN Bv w => X (pN, Bv) w) k0 dY MK jI Tp Vc t.1 t.2 w) (pN, Bv) w
theorem Ot (k0 : K6) (h0 : E6 Q k0 0 0 1 2 8 9 10) (h : yP k0 (g 0) (g 1) (g 2) (g 8) (g 9) (g 10) (g 11) w) : bD pg kK (bI (aB 1 (aF 1 (aB 6 jZ)))) Q g w := by
 refine CS (fun g : Env => (g 10, g 11)) (fun X t w => tS (fun _ _ _ _ _ pN Bv w => X (pN, Bv) w) k0 (g 0) (g 1) (g 2) (g 8) (g 9) t.1 t.2 w) h (fun X g1 w1 ha hL => ?_)
 rw [<- jX 0 ha, <- jX 1 ha, <- jX 2 ha, <- jX 8 ha, <- jX 9 ha] at hL
 exact (NO _ g1 w1 (fun _ _ _ _ _ pN Bv w => X (pN, Bv) w) k0 (fun _ _ h => h) h0 hL)
def yU (kn : K6) (dY MK jI Tp Vc pN Bv : aNF) (w : aNE) : Prop :=
 yP kn dY MK jI Tp Vc pN Bv w
def xX (kn : K7) (dY MK jI Tp Vc pN : aNF) (w : aNE) : Prop :=
 kn dY MK jI Tp Vc pN (aNG 0) w
theorem Of (kn : K7) (hn : N7 Q kn 0 1 2 8 9 10 11) (h : xX kn (g 0) (g 1) (g 2) (g 8) (g 9) (g 10) w) : bD pg kK (aF 1 (aF 1 (aB 6 jZ))) Q g w :=
 eL (kr := no) (l := []) h hn gT trivial
def yV (kn : K6) (dY MK jI Tp Vc pN : aNF) (w : aNE) : Prop :=
 xX (fun dY MK jI Tp Vc pN Bv w => yU kn dY MK jI Tp Vc pN Bv w) dY MK jI Tp Vc pN w
def tP (R : K1) (dY MK jI Tp Vc pN : aNF) (w : aNE) : Prop :=
 yV (fun dY MK jI Tp Vc pN w => tK R dY MK jI Tp Vc pN w) dY MK jI Tp Vc pN w
theorem O8 (kn : K6) (hn : N6 Q kn 0 1 2 8 9 10) (h : yV kn (g 0) (g 1) (g 2) (g 8) (g 9) (g 10) w) : bD pg kK (aF 1 (aB 6 jZ)) Q g w :=
 jA 1 (Of _ g w (yU kn) (fun g w h => aJ (wX 0 (Ot _ g w kn hn h))) h)
def xE (kn : K6) (R : K1) (dY MK jI : aNF) (w : aNE) : Prop :=
 aT pg I9 #[] w fun d1 w =>
 aD pg (sUn .not d1) w fun d3 w =>
 gZ d3
  (R (.bool false) w)
  (aD pg (lG .len #[22] 3 [dY]) w fun d5 w =>
  aD pg (aI .gtr 3 aM aM d5 (aNG 2000)) w fun d6 w =>
  Gd (gJ d6 false) (fun K => K MK w) w fun d8 w =>
  Gd (gJ d6 false) (fun K => aD pg (lG .len #[22] 3 [d8]) w K) w fun d9 w =>
  Gd (gJ d6 false) (fun K => aD pg (aI .gtr 3 aM aM d9 (aNG 300)) w K) w fun e0 w =>
  aD pg (iN d6 (.bool true) e0) w fun e1 w =>
  gZ e1
   (R (.bool true) w)
   (aT pg wN #[dY, MK, jI] w fun e6 w =>
   aD pg (bQ e6 0) w fun e7 w =>
   aD pg (bQ e6 1) w fun e8 w =>
   aD pg (lG .len #[22] 3 [dY]) w fun f0 w =>
   aD pg (aI .gtr 3 aM aM f0 (aNG 0)) w fun f1 w =>
   Gd (gJ f1 true) (fun K => K MK w) w fun f3 w =>
   Gd (gJ f1 true) (fun K => aD pg (jG 22 9 f3) w K) w fun f4 w =>
   Gd (gJ f1 true) (fun K => aT pg CV #[f4] w K) w fun f5 w =>
   Gd (gJ f1 true) (fun K => aD pg (aI .gtr 3 aM aM f5 (aNG 0)) w K) w fun f6 w =>
   aD pg (iN f1 f6 (.bool false)) w fun f7 w =>
   kn dY MK jI e7 e8 f7 w))
theorem Mq (kn : K6) (R : K1) (hn : N6 Q kn 0 1 2 8 9 10) (hr : HR qM R Q) (h : xE kn R (g 0) (g 1) (g 2) w) : bD pg kK (aF 6 jZ) Q g w :=
 eL (l := []) h hn hr trivial
def xI (R : K1) (dY MK jI : aNF) (w : aNE) : Prop :=
 xE (fun dY MK jI Tp Vc pN w => tP R dY MK jI Tp Vc pN w) R dY MK jI w
theorem Mo (R : K1) (hr : HR qM R Q) (h : xI R (g 0) (g 1) (g 2) w) : bD pg kK jZ Q g w :=
 jA 6 (Mq _ g w (tP R) R (fun g w h => aJ (jA 1 (O8 _ g w (tK R) (fun g w h => aJ (jA 5 (PE _ g w (qL R) R (fun g w h => aJ (Ok _ g w R hr h)) hr h))) h))) hr h)
def Jy (a0 a1 a2 : aNF) (w : aNE) (R : K1) : Prop :=
 xI R a0 a1 a2 w
theorem P1 {a0 a1 a2 : aNF} {w : aNE} {R : K1} (h : Jy a0 a1 a2 w R) : aT pg zL #[a0, a1, a2] w R := by
 refine uO (ann := kK) Tryz.f5 jZ [a0, a1, a2] qM 170 TryzM.mixed Tryz.func5 ?_
 exact (Mo _ _ _ R (fun _ _ h => h) h)
def Uo : FA := ⟨I9, fun i => .leaf ([], []) []⟩
def WJ : List ResultVar := [.tmp 0]
noncomputable def Ti : Code := dG Tryz.f6
def Nr (R : K1)  (w : aNE) : Prop :=
 aD pg (cV 22 2 [(0, (.int .u8 1)), (1, (.int .u8 2))]) w fun c2 w =>
 aT pg Gp #[c2] w fun c3 w =>
 aD pg (bQ c3 0) w fun c4 w =>
 aD pg (bQ c3 1) w fun c5 w =>
 aT pg Dx #[(.int .u8 7), (aNG 3)] w fun c7 w =>
 aD pg (bQ c7 0) w fun c8 w =>
 aD pg (bQ c7 1) w fun c9 w =>
 aD pg (cV 22 4 [(0, (.int .u8 0)), (1, (.int .u8 1)), (2, (.int .u8 2)), (3, (.int .u8 0))]) w fun d1 w =>
 aD pg (cV 22 3 [(0, (.int .u8 2)), (1, (.int .u8 1)), (2, (.int .u8 1))]) w fun d2 w =>
 aT pg wN #[d1, d2, (.bool true)] w fun d3 w =>
 aD pg (bQ d3 0) w fun d4 w =>
 aD pg (bQ d3 1) w fun d5 w =>
 aT pg Ac #[d4, (.slice none 0 0)] w fun d8 w =>
 aD pg (bQ d8 0) w fun d9 w =>
 aD pg (bQ d8 1) w fun e0 w =>
 aD pg (bQ d8 2) w fun e1 w =>
 aD pg (bQ d8 3) w fun e2 w =>
 aD pg (jG 22 9 c4) w fun e4 w =>
 aD pg (aI .eql 9 (.tmp 34) (.const (.string ⟨#[16, 1, 2]⟩)) e4 (.string ⟨#[16, 1, 2]⟩)) w fun e5 w =>
 Gd (gJ e5 true) (fun K => K c5 w) w fun e7 w =>
 Gd (gJ e5 true) (fun K => aD pg (aI .eql 27 (.tmp 37) (.const (aNG 0)) e7 (aNG 0)) w K) w fun e8 w =>
 aD pg (iN e5 e8 (.bool false)) w fun e9 w =>
 Gd (gJ e9 true) (fun K => K c8 w) w fun f1 w =>
 Gd (gJ e9 true) (fun K => aD pg (jG 22 9 f1) w K) w fun f2 w =>
 Gd (gJ e9 true) (fun K => aD pg (aI .eql 9 (.tmp 42) (.const (.string ⟨#[25, 7]⟩)) f2 (.string ⟨#[25, 7]⟩)) w K) w fun f3 w =>
 aD pg (iN e9 f3 (.bool false)) w fun f4 w =>
 Gd (gJ f4 true) (fun K => K c9 w) w fun f6 w =>
 Gd (gJ f4 true) (fun K => aD pg (aI .eql 27 (.tmp 46) (.const (aNG 0)) f6 (aNG 0)) w K) w fun f7 w =>
 aD pg (iN f4 f7 (.bool false)) w fun f8 w =>
 Gd (gJ f8 true) (fun K => K d5 w) w fun i0 w =>
 Gd (gJ f8 true) (fun K => aD pg (aI .eql 27 (.tmp 50) (.const (aNG 0)) i0 (aNG 0)) w K) w fun i1 w =>
 aD pg (iN f8 i1 (.bool false)) w fun i2 w =>
 Gd (gJ i2 true) (fun K => K e2 w) w fun i4 w =>
 Gd (gJ i2 true) (fun K => aD pg (aI .eql 27 (.tmp 54) (.const (aNG 0)) i4 (aNG 0)) w K) w fun i5 w =>
 aD pg (iN i2 i5 (.bool false)) w fun i6 w =>
 Gd (gJ i6 true) (fun K => K d9 w) w fun i8 w =>
 Gd (gJ i6 true) (fun K => aD pg (jG 22 9 i8) w K) w fun i9 w =>
 Gd (gJ i6 true) (fun K => aD pg (aI .eql 9 (.tmp 59) (.const (.string ⟨#[0, 1, 2, 0]⟩)) i9 (.string ⟨#[0, 1, 2, 0]⟩)) w K) w fun j0 w =>
 aD pg (iN i6 j0 (.bool false)) w fun j1 w =>
 Gd (gJ j1 true) (fun K => K e0 w) w fun j3 w =>
 Gd (gJ j1 true) (fun K => aD pg (jG 22 9 j3) w K) w fun j4 w =>
 Gd (gJ j1 true) (fun K => aD pg (aI .eql 9 (.tmp 64) (.const (.string ⟨#[2, 1, 1]⟩)) j4 (.string ⟨#[2, 1, 1]⟩)) w K) w fun j5 w =>
 aD pg (iN j1 j5 (.bool false)) w fun j6 w =>
 Gd (gJ j6 true) (fun K => K e1 w) w fun j8 w =>
 Gd (gJ j6 true) (fun K => K d4 w) w fun j9 w =>
 Gd (gJ j6 true) (fun K => aD pg (lG .len #[22] 3 [j9]) w K) w fun l0 w =>
 Gd (gJ j6 true) (fun K => aD pg (aI .eql 3 (.tmp 68) (.tmp 70) j8 l0) w K) w fun l1 w =>
 aD pg (iN j6 l1 (.bool false)) w fun l2 w =>
 R l2 w
theorem akS (R : K1) (hr : HR WJ R Q) (h : Nr R w) : bD pg Uo Ti Q g w :=
 eL (kn := no) (l := []) h gT hr trivial
def arQ (w : aNE) (R : K1) : Prop :=
 Nr R w
theorem apA {w : aNE} {R : K1} (h : arQ w R) : aT pg I9 #[] w R := by
 refine uO (ann := Uo) Tryz.f6 Ti [] WJ 73 TryzM.mixed Tryz.func6 ?_
 exact (akS _ _ _ R (fun _ _ h => h) h)
def Bx : FA := ⟨Mc, fun i => match Nat.beq i 13 with | true => .leaf ([3], [(1, 3), (2, 3)]) [(false, []), (false, []), (false, []), (true, [0, 1]), (false, [])] | false => .leaf ([], []) []⟩
def CH : List ResultVar := [.cell 2 26, .tmp 3]
noncomputable def Am : Code := dG Tryz.f7
def Ay (R : K1) (b2 wG : aNF) (w : aNE) : Prop :=
 aD pg (aK 26 wG 3) w fun m3 w =>
 aD pg (aL 24 m3) w fun m4 w =>
 aD pg (aI .gtr 24 aM aM m4 (.int .u64 131072)) w fun m5 w =>
 gZ m5
  (aD pg (aL 26 wG) w fun m6 w =>
  aD pg (aR 26 b2 m6) w fun _u w =>
  An pg 26 b2 w fun r0 => R (.tuple #[r0, (aNG 12)]) w)
  (aD pg (aL 26 wG) w fun m7 w =>
  aD pg (aR 26 b2 m7) w fun _u w =>
  An pg 26 b2 w fun r0 => R (.tuple #[r0, (aNG 0)]) w)
theorem apF (R : K1) (hr : HR CH R Q) (h : Ay R (g 2) (g 4) w) : bD pg Bx (aB 3 (aB 7 Am)) Q g w :=
 eL (kn := no) (l := []) h gT hr trivial
def R3 (kn : K2) (R : K1) (dY b2 wG Xx : aNF) (w : aNE) : Prop :=
 aD pg (fT 45 [(0, dY)]) w fun f4 w =>
 aD pg (aK 26 wG 2) w fun f5 w =>
 aD pg (aL 3 f5) w fun f6 w =>
 aT pg vG #[f4, f6] w fun f7 w =>
 aD pg (bQ f7 0) w fun f8 w =>
 aD pg (bQ f7 1) w fun f9 w =>
 aD pg (fU 45) w fun r_6 w =>
 aD pg (aR 45 r_6 f8) w fun _u w =>
 aD pg (aK 45 r_6 1) w fun i0 w =>
 aD pg (aL 27 i0) w fun i1 w =>
 aD pg (aI .neq 27 (.tmp 51) (.const (aNG 0)) i1 (aNG 0)) w fun i2 w =>
 gZ i2
  (aD pg (aL 26 wG) (dr w) fun i3 w_ => w_ = (dr w) /\
  aD pg (aK 45 r_6 1) (dr w) fun i4 w_ => w_ = (dr w) /\
  aD pg (aL 27 i4) (dr w) fun i5 w_ => w_ = (dr w) /\
  aD pg (aR 26 b2 i3) (dr w) fun _u3 aA4 =>
  (jJ pg (aL 27 i4) i5 aA4 /\ jJ pg (aK 45 r_6 1) i4 aA4 /\ True) /\
  aA4 = aA4 /\
  An pg 26 b2 aA4 fun r0 => R (.tuple #[r0, i5]) aA4)
  (aD pg (aK 26 wG 0) w fun i6 w =>
  aD pg (aL 24 i6) w fun i7 w =>
  aD pg (aI .lss 24 aM aM i7 (.int .u64 2)) w fun i8 w =>
  Gd (gJ i8 true) (fun K => aD pg (aK 26 wG 2) w K) w fun j0 w =>
  Gd (gJ i8 true) (fun K => aD pg (aL 3 j0) w K) w fun j1 w =>
  Gd (gJ i8 true) (fun K => aD pg (aI .eql 3 (.tmp 61) (.const (aNG 1)) j1 (aNG 1)) w K) w fun j2 w =>
  aD pg (iN i8 j2 (.bool false)) w fun j3 w =>
  gZ j3
   (aD pg (aI .quo 24 aM aM f9 (.int .u64 8)) w fun j5 w =>
   aD pg (aK 26 wG 3) w fun j6 w =>
   aD pg (aR 24 j6 j5) w fun _u w =>
   kn b2 wG w)
   (aD pg (aK 26 wG 0) w fun j7 w =>
   aD pg (aL 24 j7) w fun j8 w =>
   aD pg (aI .lss 24 aM aM j8 (.int .u64 2)) w fun j9 w =>
   gZ j9
    (aD pg (aI .quo 24 aM aM f9 (.int .u64 16)) w fun l1 w =>
    aD pg (aK 26 wG 3) w fun l2 w =>
    aD pg (aR 24 l2 l1) w fun _u w =>
    kn b2 wG w)
    (aD pg (aI .quo 24 aM aM f9 (.int .u64 16)) w fun l4 w =>
    aD pg (aI .rem 24 aM aM l4 Xx) w fun l6 w =>
    aD pg (aK 26 wG 3) w fun l7 w =>
    aD pg (aR 24 l7 l6) w fun _u w =>
    aD pg (aI .quo 24 aM aM f9 (.int .u64 16)) w fun l9 w =>
    aD pg (aI .quo 24 aM aM l9 Xx) w fun m1 w =>
    aD pg (aK 26 wG 4) w fun m2 w =>
    aD pg (aR 24 m2 m1) w fun _u w =>
    kn b2 wG w)))
theorem amK (kn : K2) (R : K1) (hn : N2 Q kn 2 4) (hr : HR CH R Q) (h : R3 kn R (g 0) (g 2) (g 4) (g 5) w) : bD pg Bx (aF 3 (aB 7 Am)) Q g w :=
 eL (l := []) h hn hr trivial
def CT (R : K1) (dY b2 wG Xx : aNF) (w : aNE) : Prop :=
 R3 (fun b2 wG w => Ay R b2 wG w) R dY b2 wG Xx w
def RU (kn : K4) (R : K1) (dY : aNF) (w : aNE) : Prop :=
 aD pg (fU 26) w fun b2 w =>
 aD pg (fU 26) w fun wG w =>
 aD pg (aI .eql 9 (.tmp 8) (.const (.string ⟨#[]⟩)) dY (.string ⟨#[]⟩)) w fun b9 w =>
 gZ b9
  (aD pg (aL 26 wG) w fun c0 w =>
  aD pg (aR 26 b2 c0) w fun _u w =>
  An pg 26 b2 w fun r0 => R (.tuple #[r0, (aNG 10)]) w)
  (aD pg (DX 9 dY (aNG 0)) w fun c2 w =>
  aD pg (aI .rem 5 aM aM c2 (.int .u8 4)) w fun c3 w =>
  aD pg (jG 5 24 c3) w fun c4 w =>
  aD pg (aK 26 wG 0) w fun c5 w =>
  aD pg (aR 24 c5 c4) w fun _u w =>
  aD pg (DX 9 dY (aNG 0)) w fun c7 w =>
  aD pg (aI .quo 5 aM aM c7 (.int .u8 4)) w fun c8 w =>
  aD pg (aI .rem 5 aM aM c8 (.int .u8 4)) w fun c9 w =>
  aD pg (jG 5 24 c9) w fun d0 w =>
  aD pg (aK 26 wG 1) w fun d1 w =>
  aD pg (aR 24 d1 d0) w fun _u w =>
  aD pg (aK 26 wG 0) w fun d2 w =>
  aD pg (aL 24 d2) w fun d3 w =>
  aD pg (aI .lss 24 aM aM d3 (.int .u64 2)) w fun d4 w =>
  gZ d4
   (aD pg (cV 42 4 [(0, (aNG 1)), (1, (aNG 2)), (2, (aNG 1)), (3, (aNG 3))]) w fun d5 w =>
   aD pg (aK 26 wG 1) w fun d6 w =>
   aD pg (aL 24 d6) w fun d7 w =>
   aD pg (cI 42 d5 d7) w fun d8 w =>
   aD pg (aL 3 d8) w fun d9 w =>
   aD pg (aK 26 wG 2) w fun e0 w =>
   aD pg (aR 3 e0 d9) w fun _u w =>
   kn dY b2 wG (.int .u64 1024) w)
   (aD pg (cV 42 4 [(0, (aNG 3)), (1, (aNG 3)), (2, (aNG 4)), (3, (aNG 5))]) w fun e1 w =>
   aD pg (aK 26 wG 1) w fun e2 w =>
   aD pg (aL 24 e2) w fun e3 w =>
   aD pg (cI 42 e1 e3) w fun e4 w =>
   aD pg (aL 3 e4) w fun e5 w =>
   aD pg (aK 26 wG 2) w fun e6 w =>
   aD pg (aR 3 e6 e5) w fun _u w =>
   aD pg (cV 43 4 [(0, (.int .u64 1024)), (1, (.int .u64 1024)), (2, (.int .u64 16384)), (3, (.int .u64 262144))]) w fun e7 w =>
   aD pg (aK 26 wG 1) w fun e8 w =>
   aD pg (aL 24 e8) w fun e9 w =>
   aD pg (cI 43 e7 e9) w fun f0 w =>
   aD pg (aL 24 f0) w fun f1 w =>
   kn dY b2 wG f1 w))
theorem aoK (kn : K4) (R : K1) (hn : N4 Q kn 0 2 4 5) (hr : HR CH R Q) (h : RU kn R (g 0) w) : bD pg Bx (aF 7 Am) Q g w :=
 eL (l := []) h hn hr trivial
def RM (R : K1) (dY : aNF) (w : aNE) : Prop :=
 RU (fun dY b2 wG Xx w => CT R dY b2 wG Xx w) R dY w
theorem aoA (R : K1) (hr : HR CH R Q) (h : RM R (g 0) w) : bD pg Bx Am Q g w :=
 jA 7 (aoK _ g w (CT R) R (fun g w h => aJ (jA 3 (amK _ g w (Ay R) R (fun g w h => aJ (apF _ g w R hr h)) hr h))) hr h)
def awA (a0 : aNF) (w : aNE) (R : K1) : Prop :=
 RM R a0 w
theorem auQ {a0 : aNF} {w : aNE} {R : K1} (h : awA a0 w R) : aT pg Mc #[a0] w R := by
 refine uO (ann := Bx) Tryz.f7 Am [a0] CH 88 TryzM.mixed Tryz.func7 ?_
 exact (aoA _ _ _ R (fun _ _ h => h) h)
def oL : FA := ⟨Ac, fun i => match Nat.beq i 24 with | true => .leaf ([], []) [(false, []), (false, []), (false, []), (false, []), (false, []), (false, [])] | false => .leaf ([], []) []⟩
def qP : List ResultVar := [.tmp 4, .tmp 5, .tmp 6, .tmp 7]
noncomputable def nP : Code := dG Tryz.f8
def yR (R : K1) (dY uB mD BJ : aNF) (w : aNE) : Prop :=
 aD pg (aL 49 uB) w fun n0 w =>
 aT pg zM #[n0, BJ, dY] w fun n3 w =>
 aD pg (bQ n3 0) w fun n4 w =>
 aD pg (bQ n3 1) w fun n5 w =>
 aD pg (aI .neq 27 (.tmp 96) (.const (aNG 0)) n5 (aNG 0)) w fun n7 w =>
 gZ n7
  (R (.tuple #[(.slice none 0 0), (.slice none 0 0), (aNG 0), n5]) w)
  (aT pg jS #[BJ] w fun o1 w =>
  R (.tuple #[n4, o1, mD, (aNG 0)]) w)
theorem Yv (R : K1) (hr : HR qP R Q) (h : yR R (g 0) (g 8) (g 10) (g 11) w) : bD pg oL (aB 1 (aB 4 (aB 5 nP))) Q g w :=
 eL (kn := no) (l := []) h gT hr trivial
def yF (k1 : K4) (R : K1) (dY uB mD BJ : aNF) (w : aNE) : Prop :=
 aD pg (lG .len #[22] 3 [BJ]) w fun m7 w =>
 aD pg (aI .eql 3 (.tmp 87) (.const (aNG 0)) m7 (aNG 0)) w fun m8 w =>
 gZ m8
  (R (.tuple #[(.slice none 0 0), (.slice none 0 0), (aNG 0), (aNG 11)]) w)
  (k1 dY uB mD BJ w)
theorem Yt (k1 : K4) (R : K1) (h1 : E4 Q k1 1 0 8 10 11) (hr : HR qP R Q) (h : yF k1 R (g 0) (g 8) (g 10) (g 11) w) : bD pg oL (aB 1 (bI (aB 1 (aF 1 (aB 4 (aB 5 nP)))))) Q g w :=
 eL (kn := no) (l := [(1, fun g w => k1 (g 0) (g 8) (g 10) (g 11) w)]) h gT hr ⟨h1, trivial⟩
def Iw (kn : K4) (R : K1) (dY mI uB mD BJ i4 : aNF) (w : aNE) : Prop :=
 aD pg (aI .eql 3 (.tmp 54) (.const (aNG 0)) i4 (aNG 0)) w fun i6 w =>
 gZ i6
  (aT pg jS #[dY] w fun j2 w =>
  aT pg jS #[mI] w fun j4 w =>
  R (.tuple #[j2, j4, mD, (aNG 0)]) w)
  (aD pg (aI .eql 3 (.tmp 54) (.const (aNG 1)) i4 (aNG 1)) w fun i8 w =>
  gZ i8
   (aD pg (aK 49 uB 3) w fun j7 w =>
   aD pg (aL 3 j7) w fun j8 w =>
   aT pg wL #[dY, j8] w fun j9 w =>
   aT pg jS #[mI] w fun l1 w =>
   R (.tuple #[j9, l1, mD, (aNG 0)]) w)
   (aD pg (aI .eql 3 (.tmp 54) (.const (aNG 2)) i4 (aNG 2)) w fun j0 w =>
   gZ j0
    (aT pg BF #[dY] w fun l5 w =>
    aD pg (bQ l5 0) w fun l6 w =>
    aD pg (bQ l5 1) w fun l7 w =>
    aD pg (bQ l5 2) w fun l8 w =>
    aD pg (aI .neq 27 (.tmp 79) (.const (aNG 0)) l8 (aNG 0)) w fun m0 w =>
    gZ m0
     (R (.tuple #[(.slice none 0 0), (.slice none 0 0), (aNG 0), l8]) w)
     ((dr w) = (dr w) /\
     (dr w) = (dr w) /\
     (dr w) = (dr w) /\
     aD pg (lZ 22 dY (some l7) none none) (dr w) fun m5 w_ => w_ = (dr w) /\
     (dr w) = (dr w) /\
     (dr w) = (dr w) /\
     kn m5 uB mD l6 (dr w)))
    (kn dY uB mD BJ w)))
theorem Y7 (kn : K4) (R : K1) (hn : N4 Q kn 0 8 10 11) (hr : HR qP R Q) (h : Iw kn R (g 0) (g 1) (g 8) (g 10) (g 11) (g 54) w) : bD pg oL (aF 1 (bI (aB 1 (aF 1 (aB 4 (aB 5 nP)))))) Q g w :=
 eL (l := []) h hn hr trivial
def Tf (k1 : K4) (R : K1) (dY mI uB mD BJ i4 : aNF) (w : aNE) : Prop :=
 Iw (fun dY uB mD BJ w => yF k1 R dY uB mD BJ w) R dY mI uB mD BJ i4 w
def H8 (kn : K4) (R : K1) (dY mI uB mD BJ i4 : aNF) (w : aNE) : Prop :=
 Tf kn R dY mI uB mD BJ i4 w
def H9 (kn : K6) (dY mI uB mD BJ : aNF) (w : aNE) : Prop :=
 aD pg (aK 49 uB 0) w fun i3 w =>
 aD pg (aL 3 i3) w fun i4 w =>
 kn dY mI uB mD BJ i4 w
theorem Yp (kn : K6) (hn : N6 Q kn 0 1 8 10 11 54) (h : H9 kn (g 0) (g 1) (g 8) (g 10) (g 11) w) : bD pg oL (aF 1 (aF 1 (aB 4 (aB 5 nP)))) Q g w :=
 eL (kr := no) (l := []) h hn gT trivial
def Ia (kn : K4) (R : K1) (dY mI uB mD BJ : aNF) (w : aNE) : Prop :=
 H9 (fun dY mI uB mD BJ i4 w => H8 kn R dY mI uB mD BJ i4 w) dY mI uB mD BJ w
def B9 (R : K1) (dY mI uB mD BJ : aNF) (w : aNE) : Prop :=
 Ia (fun dY uB mD BJ w => yR R dY uB mD BJ w) R dY mI uB mD BJ w
theorem Yw (kn : K4) (R : K1) (hn : N4 Q kn 0 8 10 11) (hr : HR qP R Q) (h : Ia kn R (g 0) (g 1) (g 8) (g 10) (g 11) w) : bD pg oL (aF 1 (aB 4 (aB 5 nP))) Q g w :=
 jA 1 (Yp _ g w (H8 kn R) (fun g w h => aJ (wX 1 (jA 1 (Y7 _ g w (yF kn R) R (fun g w h => aJ (Yt _ g w kn R hn hr h)) hr h)))) h)
def HN (kn : K5) (R : K1) (dY mI uB : aNF) (w : aNE) : Prop :=
 aD pg (lG .len #[22] 3 [dY]) w fun e9 w =>
 aD pg (aK 49 uB 4) w fun f0 w =>
 aD pg (aL 3 f0) w fun f1 w =>
 aD pg (aI .lss 3 aM aM e9 f1) w fun f2 w =>
 gZ f2
  (R (.tuple #[(.slice none 0 0), (.slice none 0 0), (aNG 0), (aNG 10)]) w)
  (aD pg (aK 49 uB 4) w fun f4 w =>
  aD pg (aL 3 f4) w fun f5 w =>
  aD pg (lZ 22 dY none (some f5) none) w fun f6 w =>
  aD pg (aK 49 uB 2) w fun f7 w =>
  aD pg (aL 3 f7) w fun f8 w =>
  aD pg (aK 49 uB 4) w fun f9 w =>
  aD pg (aL 3 f9) w fun i0 w =>
  aD pg (aI .add 3 aM aM f8 i0) w fun i1 w =>
  kn f6 mI uB i1 mI w)
theorem Yo (kn : K5) (R : K1) (hn : N5 Q kn 0 1 8 10 11) (hr : HR qP R Q) (h : HN kn R (g 0) (g 1) (g 8) w) : bD pg oL (aF 4 (aB 5 nP)) Q g w :=
 eL (l := []) h hn hr trivial
def A3 (R : K1) (dY mI uB : aNF) (w : aNE) : Prop :=
 HN (fun dY mI uB mD BJ w => B9 R dY mI uB mD BJ w) R dY mI uB w
def Gf (kn : K3) (R : K1) (dY mI : aNF) (w : aNE) : Prop :=
 aT pg AS #[dY] w fun c8 w =>
 aD pg (bQ c8 0) w fun c9 w =>
 aD pg (bQ c8 1) w fun d0 w =>
 aD pg (fU 49) w fun uB w =>
 aD pg (aR 49 uB c9) w fun _u w =>
 aD pg (aI .neq 27 (.tmp 21) (.const (aNG 0)) d0 (aNG 0)) w fun d2 w =>
 gZ d2
  (R (.tuple #[(.slice none 0 0), (.slice none 0 0), (aNG 0), d0]) w)
  (aD pg (aK 49 uB 2) w fun d5 w =>
  aD pg (aL 3 d5) w fun d6 w =>
  aD pg (lZ 22 dY (some d6) none none) w fun d7 w =>
  aD pg (aK 49 uB 0) w fun d8 w =>
  aD pg (aL 3 d8) w fun d9 w =>
  aD pg (aI .eql 3 (.tmp 29) (.const (aNG 0)) d9 (aNG 0)) w fun e1 w =>
  gZ e1
   (aD pg (aK 49 uB 3) w fun e2 w =>
   aD pg (aL 3 e2) w fun e3 w =>
   aD pg (aK 49 uB 4) w fun e4 w =>
   aD pg (aR 3 e4 e3) w fun _u w =>
   kn d7 mI uB w)
   (aD pg (aI .eql 3 (.tmp 29) (.const (aNG 1)) d9 (aNG 1)) w fun e6 w =>
   gZ e6
    (aD pg (aK 49 uB 4) w fun e7 w =>
    aD pg (aR 3 e7 (aNG 1)) w fun _u w =>
    kn d7 mI uB w)
    (kn d7 mI uB w)))
theorem Wq (kn : K3) (R : K1) (hn : N3 Q kn 0 1 8) (hr : HR qP R Q) (h : Gf kn R (g 0) (g 1) w) : bD pg oL (aF 5 nP) Q g w :=
 eL (l := []) h hn hr trivial
def Gi (R : K1) (dY mI : aNF) (w : aNE) : Prop :=
 Gf (fun dY mI uB w => A3 R dY mI uB w) R dY mI w
theorem Wy (R : K1) (hr : HR qP R Q) (h : Gi R (g 0) (g 1) w) : bD pg oL nP Q g w :=
 jA 5 (Wq _ g w (A3 R) R (fun g w h => aJ (jA 4 (Yo _ g w (B9 R) R (fun g w h => aJ (jA 1 (Yw _ g w (yR R) R (fun g w h => aJ (Yv _ g w R hr h)) hr h))) hr h))) hr h)
def Zl (a0 a1 : aNF) (w : aNE) (R : K1) : Prop :=
 Gi R a0 a1 w
theorem Z8 {a0 a1 : aNF} {w : aNE} {R : K1} (h : Zl a0 a1 w R) : aT pg Ac #[a0, a1] w R := by
 refine uO (ann := oL) Tryz.f8 nP [a0, a1] qP 103 TryzM.mixed Tryz.func8 ?_
 exact (Wy _ _ _ R (fun _ _ h => h) h)
def vB : FA := ⟨Mw, fun i => match Nat.beq i 16 with | true => .leaf ([5], []) [(false, []), (false, []), (false, []), (false, []), (false, []), (true, []), (false, []), (false, []), (false, []), (false, []), (false, []), (false, [])] | false => .leaf ([], []) []⟩
def Ap : List ResultVar := [.tmp 4, .tmp 5, .tmp 6, .tmp 7]
noncomputable def tW : Code := dG Tryz.f9
def As (R : K1) (Vc AZ XD aGP : aNF) (w : aNE) : Prop :=
 aD pg (aI .neq 27 (.tmp 111) (.const (aNG 0)) Vc (aNG 0)) w fun p2 w =>
 gZ p2
  (R (.tuple #[(.string ⟨#[]⟩), (.string ⟨#[]⟩), (aNG 0), Vc]) w)
  (R (.tuple #[aGP, XD, AZ, (aNG 0)]) w)
theorem apW (R : K1) (hr : HR Ap R Q) (h : As R (g 9) (g 11) (g 13) (g 17) w) : bD pg vB (aB 3 (aB 7 (aB 1 (aB 5 tW)))) Q g w :=
 eL (kn := no) (l := []) h gT hr trivial
def Rq (kn : K4) (R : K1) (uB AZ aCE XD : aNF) (w : aNE) : Prop :=
 aD pg (aI .eql 9 (.tmp 88) (.const (.string ⟨#[]⟩)) XD (.string ⟨#[]⟩)) w fun m9 w =>
 gZ m9
  (R (.tuple #[(.string ⟨#[]⟩), (.string ⟨#[]⟩), (aNG 0), (aNG 11)]) w)
  (aD pg (aK 26 uB 1) w fun n0 w =>
  aD pg (aL 24 n0) w fun n1 w =>
  aD pg (aI .eql 24 (.tmp 91) (.const (.int .u64 0)) n1 (.int .u64 0)) w fun n2 w =>
  gZ n2
   (aD pg (aK 26 uB 3) w fun n6 w =>
   aD pg (aL 24 n6) w fun n7 w =>
   aD pg (jG 24 3 n7) w fun n8 w =>
   aT pg Fq #[XD, aCE, n8] w fun n9 w =>
   aD pg (bQ n9 0) w fun o0 w =>
   aD pg (bQ n9 1) w fun o1 w =>
   kn o1 AZ XD o0 w)
   (aD pg (aK 26 uB 3) w fun o5 w =>
   aD pg (aL 24 o5) w fun o6 w =>
   aD pg (jG 24 3 o6) w fun o7 w =>
   aT pg DI #[XD, aCE, o7] w fun o8 w =>
   aD pg (bQ o8 0) w fun o9 w =>
   aD pg (bQ o8 1) w fun p0 w =>
   kn p0 AZ XD o9 w))
theorem anI (kn : K4) (R : K1) (hn : N4 Q kn 9 11 13 17) (hr : HR Ap R Q) (h : Rq kn R (g 8) (g 11) (g 12) (g 13) w) : bD pg vB (aF 3 (aB 7 (aB 1 (aB 5 tW)))) Q g w :=
 eL (l := []) h hn hr trivial
def IB (R : K1) (uB AZ aCE XD : aNF) (w : aNE) : Prop :=
 Rq (fun Vc AZ XD aGP w => As R Vc AZ XD aGP w) R uB AZ aCE XD w
def R4 (kn : K4) (R : K1) (dY mI uB XY : aNF) (w : aNE) : Prop :=
 aD pg (lG .len #[9] 3 [dY]) w fun e7 w =>
 aD pg (aK 26 uB 2) w fun e8 w =>
 aD pg (aL 3 e8) w fun e9 w =>
 aD pg (aI .sub 3 aM aM e7 e9) w fun f0 w =>
 aD pg (jG 3 24 f0) w fun f1 w =>
 aD pg (aI .lss 24 aM aM f1 XY) w fun f3 w =>
 gZ f3
  (R (.tuple #[(.string ⟨#[]⟩), (.string ⟨#[]⟩), (aNG 0), (aNG 10)]) w)
  (aD pg (aK 26 uB 2) w fun f4 w =>
  aD pg (aL 3 f4) w fun f5 w =>
  aD pg (jG 24 3 XY) w fun f7 w =>
  aD pg (aI .add 3 aM aM f5 f7) w fun f8 w =>
  aD pg (aK 26 uB 2) w fun i0 w =>
  aD pg (aL 3 i0) w fun i1 w =>
  aD pg (lZ 9 dY (some i1) (some f8) none) w fun i3 w =>
  aD pg (aK 26 uB 0) w fun i4 w =>
  aD pg (aL 24 i4) w fun i5 w =>
  aD pg (aI .eql 24 (.tmp 55) (.const (.int .u64 0)) i5 (.int .u64 0)) w fun i6 w =>
  gZ i6
   (R (.tuple #[i3, mI, f8, (aNG 0)]) w)
   (aD pg (aK 26 uB 0) w fun j0 w =>
   aD pg (aL 24 j0) w fun j1 w =>
   aD pg (aI .eql 24 (.tmp 61) (.const (.int .u64 1)) j1 (.int .u64 1)) w fun j2 w =>
   gZ j2
    ((dr w) = (dr w) /\
    aD pg (DX 9 i3 (aNG 0)) (dr w) fun j4 w_ => w_ = (dr w) /\
    aD pg (aK 26 uB 3) (dr w) fun j5 w_ => w_ = (dr w) /\
    aD pg (aL 24 j5) (dr w) fun j6 w_ => w_ = (dr w) /\
    aD pg (jG 24 3 j6) (dr w) fun j7 w_ => w_ = (dr w) /\
    aT pg IQ #[j4, j7] (dr w) fun j8 Ab =>
    Ab = Ab /\
    Ab = Ab /\
    Ab = Ab /\
    Ab = Ab /\
    Ab = Ab /\
    Ab = Ab /\
    R (.tuple #[j8, mI, f8, (aNG 0)]) Ab)
    (aD pg (aK 26 uB 0) w fun l2 w =>
    aD pg (aL 24 l2) w fun l3 w =>
    aD pg (aI .eql 24 (.tmp 73) (.const (.int .u64 2)) l3 (.int .u64 2)) w fun l4 w =>
    gZ l4
     (aT pg Mx #[i3] w fun l7 w =>
     aD pg (bQ l7 0) w fun l8 w =>
     aD pg (bQ l7 1) w fun l9 w =>
     aD pg (bQ l7 2) w fun m0 w =>
     aD pg (aI .neq 27 (.tmp 81) (.const (aNG 0)) m0 (aNG 0)) w fun m2 w =>
     gZ m2
      (R (.tuple #[(.string ⟨#[]⟩), (.string ⟨#[]⟩), (aNG 0), m0]) w)
      (aD pg (lZ 9 i3 (some l9) none none) w fun m7 w =>
      kn uB f8 m7 l8 w))
     (kn uB f8 i3 mI w))))
theorem apP (kn : K4) (R : K1) (hn : N4 Q kn 8 11 12 13) (hr : HR Ap R Q) (h : R4 kn R (g 0) (g 1) (g 8) (g 10) w) : bD pg vB (aF 7 (aB 1 (aB 5 tW))) Q g w :=
 eL (l := []) h hn hr trivial
def IA (R : K1) (dY mI uB XY : aNF) (w : aNE) : Prop :=
 R4 (fun uB AZ aCE XD w => IB R uB AZ aCE XD w) R dY mI uB XY w
def CQ (kn : K4) (dY mI uB XY : aNF) (w : aNE) : Prop :=
 aD pg (aK 26 uB 0) w fun e3 w =>
 aD pg (aL 24 e3) w fun e4 w =>
 aD pg (aI .eql 24 (.tmp 34) (.const (.int .u64 1)) e4 (.int .u64 1)) w fun e5 w =>
 gZ e5
  (kn dY mI uB (.int .u64 1) w)
  (kn dY mI uB XY w)
theorem apV (kn : K4) (hn : N4 Q kn 0 1 8 10) (h : CQ kn (g 0) (g 1) (g 8) (g 10) w) : bD pg vB (aF 1 (aB 5 tW)) Q g w :=
 eL (kr := no) (l := []) h hn gT trivial
def CP (R : K1) (dY mI uB XY : aNF) (w : aNE) : Prop :=
 CQ (fun dY mI uB XY w => IA R dY mI uB XY w) dY mI uB XY w
def QM (kn : K4) (R : K1) (dY mI : aNF) (w : aNE) : Prop :=
 aT pg Mc #[dY] w fun d0 w =>
 aD pg (bQ d0 0) w fun d1 w =>
 aD pg (bQ d0 1) w fun d2 w =>
 aD pg (fU 26) w fun uB w =>
 aD pg (aR 26 uB d1) w fun _u w =>
 aD pg (aI .neq 27 (.tmp 23) (.const (aNG 0)) d2 (aNG 0)) w fun d4 w =>
 gZ d4
  (R (.tuple #[(.string ⟨#[]⟩), (.string ⟨#[]⟩), (aNG 0), d2]) w)
  (aD pg (aK 26 uB 4) w fun d6 w =>
  aD pg (aL 24 d6) w fun d7 w =>
  aD pg (aK 26 uB 0) w fun d8 w =>
  aD pg (aL 24 d8) w fun d9 w =>
  aD pg (aI .eql 24 (.tmp 29) (.const (.int .u64 0)) d9 (.int .u64 0)) w fun e0 w =>
  gZ e0
   (aD pg (aK 26 uB 3) w fun e1 w =>
   aD pg (aL 24 e1) w fun e2 w =>
   kn dY mI uB e2 w)
   (kn dY mI uB d7 w))
theorem amN (kn : K4) (R : K1) (hn : N4 Q kn 0 1 8 10) (hr : HR Ap R Q) (h : QM kn R (g 0) (g 1) w) : bD pg vB (aF 5 tW) Q g w :=
 eL (l := []) h hn hr trivial
def Rz (R : K1) (dY mI : aNF) (w : aNE) : Prop :=
 QM (fun dY mI uB XY w => CP R dY mI uB XY w) R dY mI w
theorem amM (R : K1) (hr : HR Ap R Q) (h : Rz R (g 0) (g 1) w) : bD pg vB tW Q g w :=
 jA 5 (amN _ g w (CP R) R (fun g w h => aJ (jA 1 (apV _ g w (IA R) (fun g w h => aJ (jA 7 (apP _ g w (IB R) R (fun g w h => aJ (jA 3 (anI _ g w (As R) R (fun g w h => aJ (apW _ g w R hr h)) hr h))) hr h))) h))) hr h)
def azI (a0 a1 : aNF) (w : aNE) (R : K1) : Prop :=
 Rz R a0 a1 w
theorem auO {a0 a1 : aNF} {w : aNE} {R : K1} (h : azI a0 a1 w R) : aT pg Mw #[a0, a1] w R := by
 refine uO (ann := vB) Tryz.f9 tW [a0, a1] Ap 117 TryzM.mixed Tryz.func9 ?_
 exact (amM _ _ _ R (fun _ _ h => h) h)
def SX : FA := ⟨Gp, fun i => .leaf ([], []) []⟩
def UM : List ResultVar := [.tmp 2, .tmp 3]
noncomputable def Qk : Code := dG Tryz.f10
def LC (R : K1) (cT : aNF) (w : aNE) : Prop :=
 aD pg (lG .len #[22] 3 [cT]) w fun b5 w =>
 aD pg (aI .gtr 3 aM aM b5 (aNG 131072)) w fun b6 w =>
 gZ b6
  (R (.tuple #[(.slice none 0 0), (aNG 1)]) w)
  (aD pg (lG .len #[22] 3 [cT]) w fun b8 w =>
  aT pg yI #[(aNG 0), b8] w fun b9 w =>
  aD pg (lG .append #[22, 22] 22 [b9, cT]) w fun c1 w =>
  R (.tuple #[c1, (aNG 0)]) w)
theorem Z4 (R : K1) (hr : HR UM R Q) (h : LC R (g 0) w) : bD pg SX Qk Q g w :=
 eL (kn := no) (l := []) h gT hr trivial
def agU (a0 : aNF) (w : aNE) (R : K1) : Prop :=
 LC R a0 w
theorem ajO {a0 : aNF} {w : aNE} {R : K1} (h : agU a0 w R) : aT pg Gp #[a0] w R := by
 refine uO (ann := SX) Tryz.f10 Qk [a0] UM 12 TryzM.mixed Tryz.func10 ?_
 exact (Z4 _ _ _ R (fun _ _ h => h) h)
def P8 : FA := ⟨Dx, fun i => .leaf ([], []) []⟩
def Sp : List ResultVar := [.tmp 4, .tmp 5]
noncomputable def NC : Code := dG Tryz.f11
def H3 (R : K1) (L1 lW : aNF) (w : aNE) : Prop :=
 aD pg (aI .lss 3 aM aM lW (aNG 0)) w fun b7 w =>
 Gd (gJ b7 false) (fun K => K lW w) w fun b9 w =>
 Gd (gJ b7 false) (fun K => aD pg (aI .gtr 3 aM aM b9 (aNG 131072)) w K) w fun c0 w =>
 aD pg (iN b7 (.bool true) c0) w fun c1 w =>
 gZ c1
  (R (.tuple #[(.slice none 0 0), (aNG 1)]) w)
  (aT pg yI #[(aNG 1), lW] w fun c3 w =>
  aD pg (cV 22 1 [(0, L1)]) w fun c5 w =>
  aD pg (lG .append #[22, 22] 22 [c3, c5]) w fun c6 w =>
  R (.tuple #[c6, (aNG 0)]) w)
theorem Yd (R : K1) (hr : HR Sp R Q) (h : H3 R (g 0) (g 1) w) : bD pg P8 NC Q g w :=
 eL (kn := no) (l := []) h gT hr trivial
def Zq (a0 a1 : aNF) (w : aNE) (R : K1) : Prop :=
 H3 R a0 a1 w
theorem aaH {a0 a1 : aNF} {w : aNE} {R : K1} (h : Zq a0 a1 w R) : aT pg Dx #[a0, a1] w R := by
 refine uO (ann := P8) Tryz.f11 NC [a0, a1] Sp 17 TryzM.mixed Tryz.func11 ?_
 exact (Yd _ _ _ R (fun _ _ h => h) h)
def uC : FA := ⟨wN, fun i => .leaf ([], []) []⟩
def uT : List ResultVar := [.tmp 6, .tmp 7]
noncomputable def tE : Code := dG Tryz.f12
def sM (R : K1) (lO CC b_9 alJ agZ akP : aNF) (w : aNE) : Prop :=
 aT pg sQ #[] w fun l5 w =>
 aD pg (aI .shl 3 aM aM alJ (.int .u64 2)) w fun l9 w =>
 aD pg (aI .or 3 aM aM CC l9) w fun m0 w =>
 aD pg (lG .len #[22] 3 [lO]) w fun m2 w =>
 aD pg (aI .shl 3 aM aM m2 (.int .u64 4)) w fun m3 w =>
 aD pg (aI .or 3 aM aM m0 m3) w fun m4 w =>
 aD pg (jG 3 24 m4) w fun m5 w =>
 aD pg (lG .len #[22] 3 [b_9]) w fun m7 w =>
 aD pg (jG 3 24 m7) w fun m8 w =>
 aD pg (aI .add 3 aM aM (aNG 4) agZ) w fun n0 w =>
 aD pg (aI .shl 24 aM aM m8 n0) w fun n1 w =>
 aD pg (aI .or 24 aM aM m5 n1) w fun n2 w =>
 aT pg lJ #[l5, n2, akP] w fun n4 w =>
 aT pg sF #[l5, b_9] w fun n7 w =>
 aT pg rP #[l5] w fun n9 w =>
 R (.tuple #[n9, (aNG 0)]) w
theorem UY (R : K1) (hr : HR uT R Q) (h : sM R (g 0) (g 8) (g 9) (g 14) (g 15) (g 16) w) : bD pg uC (aB 6 (aB 5 tE)) Q g w :=
 eL (kn := no) (l := []) h gT hr trivial
def DQ (kn : K6) (R : K1) (lO l_1 CC b_9 : aNF) (w : aNE) : Prop :=
 aT pg xO #[l_1, lO] w fun f0 w =>
 aD pg (bQ f0 0) w fun f1 w =>
 aD pg (bQ f0 1) w fun f2 w =>
 aD pg (aI .neq 27 (.tmp 43) (.const (aNG 0)) f2 (aNG 0)) w fun f4 w =>
 gZ f4
  (R (.tuple #[(.slice none 0 0), f2]) w)
  (aD pg (lG .append #[22, 22] 22 [b_9, f1]) w fun f8 w =>
  aD pg (lG .len #[22] 3 [f8]) w fun i0 w =>
  aD pg (aI .geq 3 aM aM i0 (aNG 262144)) w fun i1 w =>
  gZ i1
   (R (.tuple #[(.slice none 0 0), (aNG 1)]) w)
   (aD pg (lG .len #[22] 3 [lO]) w fun i3 w =>
   aD pg (lG .len #[22] 3 [f8]) w fun i5 w =>
   aD pg (lG .max #[3, 3] 3 [i3, i5]) w fun i6 w =>
   aD pg (lG .len #[22] 3 [lO]) w fun i9 w =>
   aD pg (aI .lss 3 aM aM i9 (aNG 256)) w fun j0 w =>
   Gd (gJ j0 true) (fun K => K i6 w) w fun j2 w =>
   Gd (gJ j0 true) (fun K => aD pg (aI .lss 3 aM aM j2 (aNG 1024)) w K) w fun j3 w =>
   aD pg (iN j0 j3 (.bool false)) w fun j4 w =>
   gZ j4
    (kn lO CC f8 (aNG 0) (aNG 10) (aNG 3) w)
    (aD pg (lG .len #[22] 3 [lO]) w fun j7 w =>
    aD pg (aI .lss 3 aM aM j7 (aNG 256)) w fun j8 w =>
    gZ j8
     (R (.tuple #[(.slice none 0 0), (aNG 1)]) w)
     (aD pg (aI .lss 3 aM aM i6 (aNG 1024)) w fun l1 w =>
     gZ l1
      (kn lO CC f8 (aNG 1) (aNG 10) (aNG 3) w)
      (aD pg (aI .lss 3 aM aM i6 (aNG 16384)) w fun l4 w =>
      gZ l4
       (kn lO CC f8 (aNG 2) (aNG 14) (aNG 4) w)
       (kn lO CC f8 (aNG 3) (aNG 18) (aNG 5) w))))))
theorem VB (kn : K6) (R : K1) (hn : N6 Q kn 0 8 9 14 15 16) (hr : HR uT R Q) (h : DQ kn R (g 0) (g 1) (g 8) (g 9) w) : bD pg uC (aF 6 (aB 5 tE)) Q g w :=
 eL (l := []) h hn hr trivial
def zU (R : K1) (lO l_1 CC b_9 : aNF) (w : aNE) : Prop :=
 DQ (fun lO CC b_9 alJ agZ akP w => sM R lO CC b_9 alJ agZ akP w) R lO l_1 CC b_9 w
def DT (kn : K4) (R : K1) (lO l_1 jI : aNF) (w : aNE) : Prop :=
 aD pg (lG .len #[22] 3 [lO]) w fun d0 w =>
 aD pg (aI .eql 3 (.tmp 20) (.const (aNG 0)) d0 (aNG 0)) w fun d1 w =>
 Gd (gJ d1 false) (fun K => K lO w) w fun d3 w =>
 Gd (gJ d1 false) (fun K => aD pg (lG .len #[22] 3 [d3]) w K) w fun d4 w =>
 Gd (gJ d1 false) (fun K => aD pg (aI .gtr 3 aM aM d4 (aNG 131072)) w K) w fun d5 w =>
 aD pg (iN d1 (.bool true) d5) w fun d6 w =>
 gZ d6
  (R (.tuple #[(.slice none 0 0), (aNG 1)]) w)
  (gZ jI
   (aT pg Ak #[l_1] w fun e0 w =>
   aD pg (bQ e0 0) w fun e1 w =>
   aD pg (bQ e0 1) w fun e2 w =>
   aD pg (aI .neq 27 (.tmp 33) (.const (aNG 0)) e2 (aNG 0)) w fun e4 w =>
   gZ e4
    (R (.tuple #[(.slice none 0 0), e2]) w)
    (kn lO l_1 (aNG 2) e1 w))
   (kn lO l_1 (aNG 3) (.slice none 0 0) w))
theorem U8 (kn : K4) (R : K1) (hn : N4 Q kn 0 1 8 9) (hr : HR uT R Q) (h : DT kn R (g 0) (g 1) (g 2) w) : bD pg uC (aF 5 tE) Q g w :=
 eL (l := []) h hn hr trivial
def Ec (R : K1) (lO l_1 jI : aNF) (w : aNE) : Prop :=
 DT (fun lO l_1 CC b_9 w => zU R lO l_1 CC b_9 w) R lO l_1 jI w
theorem VA (R : K1) (hr : HR uT R Q) (h : Ec R (g 0) (g 1) (g 2) w) : bD pg uC tE Q g w :=
 jA 5 (U8 _ g w (zU R) R (fun g w h => aJ (jA 6 (VB _ g w (sM R) R (fun g w h => aJ (UY _ g w R hr h)) hr h))) hr h)
def UA (a0 a1 a2 : aNF) (w : aNE) (R : K1) : Prop :=
 Ec R a0 a1 a2 w
theorem VL {a0 a1 a2 : aNF} {w : aNE} {R : K1} (h : UA a0 a1 a2 w R) : aT pg wN #[a0, a1, a2] w R := by
 refine uO (ann := uC) Tryz.f12 tE [a0, a1, a2] uT 100 TryzM.mixed Tryz.func12 ?_
 exact (VA _ _ _ R (fun _ _ h => h) h)
def rY : FA := ⟨CV, fun i => .leaf ([], []) []⟩
def vD : List ResultVar := [.tmp 2]
noncomputable def qY : Code := dG Tryz.f13
def Fo (R : K1) (PV : aNF) (w : aNE) : Prop :=
 R PV w
theorem afE (R : K1) (hr : HR vD R Q) (h : Fo R (g 3) w) : bD pg rY (aB 1 (aB 4 qY)) Q g w :=
 eL (kn := no) (l := []) h gT hr trivial
def GQ (kn : K3) (k0 : K1) (R : K1) (cT PV lF : aNF) (w : aNE) : Prop :=
 aD pg (lG .len #[9] 3 [cT]) w fun e2 w =>
 aD pg (aI .lss 3 aM aM lF e2) w fun e3 w =>
 gZ e3
  (aD pg (DX 9 cT lF) w fun e8 w =>
  aD pg (jG 5 3 e8) w fun e9 w =>
  aD pg (aI .gtr 3 aM aM e9 PV) w fun f1 w =>
  gZ f1
   (R (aNG 0) w)
   (aD pg (aI .add 3 aM aM lF (aNG 1)) w fun e5 w =>
   kn cT PV e5 w))
  (k0 PV w)
theorem afB (kn : K3) (k0 : K1) (R : K1) (hn : N3 Q kn 0 3 4) (h0 : E1 Q k0 0 3) (hr : HR vD R Q) (h : GQ kn k0 R (g 0) (g 3) (g 4) w) : bD pg rY (bI (bI (aB 1 (aF 1 (aB 4 qY))))) Q g w :=
 eL (l := [(0, fun g w => k0 (g 3) w)]) h hn hr ⟨h0, trivial⟩
def Ng (k0 : K1) (R : K1) (cT PV lF : aNF) (w : aNE) : Prop :=
 cS (fun (X : aNF -> K0) (t : aNF) (w : aNE) => GQ (fun _ _ lF w => X lF w) k0 R cT PV t w) lF w
theorem afN (k0 : K1) (R : K1) (h0 : E1 Q k0 0 3) (hr : HR vD R Q) (h : Ng k0 R (g 0) (g 3) (g 4) w) : bD pg rY (bI (aB 1 (aF 1 (aB 4 qY)))) Q g w := by
 refine CS (fun g : Env => g 4) (fun X t w => GQ (fun _ _ lF w => X lF w) k0 R (g 0) (g 3) t w) h (fun X g1 w1 ha hL => ?_)
 rw [<- jX 0 ha, <- jX 3 ha] at hL
 exact (afB _ g1 w1 (fun _ _ lF w => X lF w) k0 R (fun _ _ h => h) h0 hr hL)
def Pt (kn : K1) (R : K1) (cT PV lF : aNF) (w : aNE) : Prop :=
 Ng kn R cT PV lF w
def M5 (kn : K3) (cT PV : aNF) (w : aNE) : Prop :=
 kn cT PV (aNG 0) w
theorem ajS (kn : K3) (hn : N3 Q kn 0 3 4) (h : M5 kn (g 0) (g 3) w) : bD pg rY (aF 1 (aF 1 (aB 4 qY))) Q g w :=
 eL (kr := no) (l := []) h hn gT trivial
def Ol (kn : K1) (R : K1) (cT PV : aNF) (w : aNE) : Prop :=
 M5 (fun cT PV lF w => Pt kn R cT PV lF w) cT PV w
def NX (R : K1) (cT PV : aNF) (w : aNE) : Prop :=
 Ol (fun PV w => Fo R PV w) R cT PV w
theorem afJ (kn : K1) (R : K1) (hn : N1 Q kn 3) (hr : HR vD R Q) (h : Ol kn R (g 0) (g 3) w) : bD pg rY (aF 1 (aB 4 qY)) Q g w :=
 jA 1 (ajS _ g w (Pt kn R) (fun g w h => aJ (wX 0 (afN _ g w kn R hn hr h))) h)
def Ov (kn : K2) (R : K1) (cT : aNF) (w : aNE) : Prop :=
 aD pg (lG .len #[9] 3 [cT]) w fun b6 w =>
 aD pg (aI .lss 3 aM aM b6 (aNG 2)) w fun b7 w =>
 Gd (gJ b7 false) (fun K => K cT w) w fun b9 w =>
 Gd (gJ b7 false) (fun K => aD pg (lG .len #[9] 3 [b9]) w K) w fun c0 w =>
 Gd (gJ b7 false) (fun K => aD pg (aI .gtr 3 aM aM c0 (aNG 256)) w K) w fun c1 w =>
 aD pg (iN b7 (.bool true) c1) w fun c2 w =>
 Gd (gJ c2 false) (fun K => K cT w) w fun c4 w =>
 Gd (gJ c2 false) (fun K => K cT w) w fun c5 w =>
 Gd (gJ c2 false) (fun K => aD pg (lG .len #[9] 3 [c5]) w K) w fun c6 w =>
 Gd (gJ c2 false) (fun K => aD pg (aI .sub 3 aM aM c6 (aNG 1)) w K) w fun c7 w =>
 Gd (gJ c2 false) (fun K => aD pg (DX 9 c4 c7) w K) w fun c8 w =>
 Gd (gJ c2 false) (fun K => aD pg (aI .eql 5 (.tmp 18) (.const (.int .u8 0)) c8 (.int .u8 0)) w K) w fun c9 w =>
 aD pg (iN c2 (.bool true) c9) w fun d0 w =>
 gZ d0
  (R (aNG 0) w)
  (aT pg CR #[cT] w fun d2 w =>
  aT pg Jr #[d2] w fun d3 w =>
  aD pg (aI .lss 3 aM aM d3 (aNG 1)) w fun d5 w =>
  Gd (gJ d5 false) (fun K => K d3 w) w fun d7 w =>
  Gd (gJ d5 false) (fun K => aD pg (aI .gtr 3 aM aM d7 (aNG 11)) w K) w fun d8 w =>
  aD pg (iN d5 (.bool true) d8) w fun d9 w =>
  gZ d9
   (R (aNG 0) w)
   (kn cT d3 w))
theorem akD (kn : K2) (R : K1) (hn : N2 Q kn 0 3) (hr : HR vD R Q) (h : Ov kn R (g 0) w) : bD pg rY (aF 4 qY) Q g w :=
 eL (l := []) h hn hr trivial
def Oy (R : K1) (cT : aNF) (w : aNE) : Prop :=
 Ov (fun cT PV w => NX R cT PV w) R cT w
theorem akZ (R : K1) (hr : HR vD R Q) (h : Oy R (g 0) w) : bD pg rY qY Q g w :=
 jA 4 (akD _ g w (NX R) R (fun g w h => aJ (jA 1 (afJ _ g w (Fo R) R (fun g w h => aJ (afE _ g w R hr h)) hr h))) hr h)
def arU (a0 : aNF) (w : aNE) (R : K1) : Prop :=
 Oy R a0 w
theorem aoI {a0 : aNF} {w : aNE} {R : K1} (h : arU a0 w R) : aT pg CV #[a0] w R := by
 refine uO (ann := rY) Tryz.f13 qY [a0] vD 43 TryzM.mixed Tryz.func13 ?_
 exact (akZ _ _ _ R (fun _ _ h => h) h)
def pM : FA := ⟨vG, fun i => .leaf ([], []) []⟩
def J3 : List ResultVar := [.cell 4 45, .tmp 5]
noncomputable def oK : Code := dG Tryz.f14
def C4 (R : K1) (HF b4 tV : aNF) (w : aNE) : Prop :=
 aD pg (aL 45 HF) w fun f4 w =>
 aD pg (aR 45 b4 f4) w fun _u w =>
 An pg 45 b4 w fun r0 => R (.tuple #[r0, tV]) w
theorem aeN (R : K1) (hr : HR J3 R Q) (h : C4 R (g 2) (g 4) (g 7) w) : bD pg pM (aB 1 (aB 3 (aB 2 oK))) Q g w :=
 eL (kn := no) (l := []) h gT hr trivial
def C7 (kn : K6) (k0 : K3) (HF b4 s_6 tV m_8 i_9 : aNF) (w : aNE) : Prop :=
 aD pg (lG .len #[9] 3 [s_6]) w fun e0 w =>
 aD pg (aI .lss 3 aM aM i_9 e0) w fun e1 w =>
 gZ e1
  (aD pg (DX 9 s_6 i_9) w fun e7 w =>
  aD pg (jG 5 24 e7) w fun e8 w =>
  aD pg (aI .mul 24 aM aM e8 m_8) w fun f0 w =>
  aD pg (aI .add 24 aM aM tV f0) w fun f1 w =>
  aD pg (aI .mul 24 aM aM m_8 (.int .u64 256)) w fun f3 w =>
  aD pg (aI .add 3 aM aM i_9 (aNG 1)) w fun e3 w =>
  kn HF b4 s_6 f1 f3 e3 w)
  (k0 HF b4 tV w)
theorem aeF (kn : K6) (k0 : K3) (hn : N6 Q kn 2 4 6 7 8 9) (h0 : E3 Q k0 0 2 4 7) (h : C7 kn k0 (g 2) (g 4) (g 6) (g 7) (g 8) (g 9) w) : bD pg pM (bI (bI (aB 1 (aF 1 (aB 3 (aB 2 oK)))))) Q g w :=
 eL (kr := no) (l := [(0, fun g w => k0 (g 2) (g 4) (g 7) w)]) h hn gT ⟨h0, trivial⟩
def JV (k0 : K3) (HF b4 s_6 tV m_8 i_9 : aNF) (w : aNE) : Prop :=
 cS (fun (X : (aNF × aNF × aNF) -> K0) (t : aNF × aNF × aNF) (w : aNE) => C7 (fun _ _ _ tV m_8 i_9 w => X (tV, m_8, i_9) w) k0 HF b4 s_6 t.1 t.2.1 t.2.2 w) (tV, m_8, i_9) w
theorem abL (k0 : K3) (h0 : E3 Q k0 0 2 4 7) (h : JV k0 (g 2) (g 4) (g 6) (g 7) (g 8) (g 9) w) : bD pg pM (bI (aB 1 (aF 1 (aB 3 (aB 2 oK))))) Q g w := by
 refine CS (fun g : Env => (g 7, g 8, g 9)) (fun X t w => C7 (fun _ _ _ tV m_8 i_9 w => X (tV, m_8, i_9) w) k0 (g 2) (g 4) (g 6) t.1 t.2.1 t.2.2 w) h (fun X g1 w1 ha hL => ?_)
 rw [<- jX 2 ha, <- jX 4 ha, <- jX 6 ha] at hL
 exact (aeF _ g1 w1 (fun _ _ _ tV m_8 i_9 w => X (tV, m_8, i_9) w) k0 (fun _ _ h => h) h0 hL)
def LI (kn : K3) (HF b4 s_6 tV m_8 i_9 : aNF) (w : aNE) : Prop :=
 JV kn HF b4 s_6 tV m_8 i_9 w
def LN (kn : K6) (HF b4 s_6 tV m_8 : aNF) (w : aNE) : Prop :=
 kn HF b4 s_6 tV m_8 (aNG 0) w
theorem abD (kn : K6) (hn : N6 Q kn 2 4 6 7 8 9) (h : LN kn (g 2) (g 4) (g 6) (g 7) (g 8) w) : bD pg pM (aF 1 (aF 1 (aB 3 (aB 2 oK)))) Q g w :=
 eL (kr := no) (l := []) h hn gT trivial
def JT (kn : K3) (HF b4 s_6 tV m_8 : aNF) (w : aNE) : Prop :=
 LN (fun HF b4 s_6 tV m_8 i_9 w => LI kn HF b4 s_6 tV m_8 i_9 w) HF b4 s_6 tV m_8 w
def KD (R : K1) (HF b4 s_6 tV m_8 : aNF) (w : aNE) : Prop :=
 JT (fun HF b4 tV w => C4 R HF b4 tV w) HF b4 s_6 tV m_8 w
theorem adB (kn : K3) (hn : N3 Q kn 2 4 7) (h : JT kn (g 2) (g 4) (g 6) (g 7) (g 8) w) : bD pg pM (aF 1 (aB 3 (aB 2 oK))) Q g w :=
 jA 1 (abD _ g w (LI kn) (fun g w h => aJ (wX 0 (abL _ g w kn hn h))) h)
def Le (kn : K5) (lW HF b4 : aNF) (w : aNE) : Prop :=
 aD pg (aL 45 HF) w fun d3 w =>
 aT pg Gk #[d3, lW] w fun d5 w =>
 aD pg (bQ d5 0) w fun d6 w =>
 aD pg (bQ d5 1) w fun d7 w =>
 aD pg (aR 45 HF d6) w fun _u w =>
 kn HF b4 d7 (.int .u64 0) (.int .u64 1) w
theorem abF (kn : K5) (hn : N5 Q kn 2 4 6 7 8) (h : Le kn (g 1) (g 2) (g 4) w) : bD pg pM (aF 3 (aB 2 oK)) Q g w :=
 eL (kr := no) (l := []) h hn gT trivial
def Dc (R : K1) (lW HF b4 : aNF) (w : aNE) : Prop :=
 Le (fun HF b4 s_6 tV m_8 w => KD R HF b4 s_6 tV m_8 w) lW HF b4 w
def HZ (kn : K3) (Ns lW : aNF) (w : aNE) : Prop :=
 aD pg (B5 45 Ns) w fun HF w =>
 aD pg (fU 45) w fun b4 w =>
 aD pg (aK 45 HF 1) w fun c0 w =>
 aD pg (aL 27 c0) w fun c1 w =>
 aD pg (aI .eql 27 (.tmp 11) (.const (aNG 0)) c1 (aNG 0)) w fun c2 w =>
 Gd (gJ c2 true) (fun K => K lW w) w fun c4 w =>
 Gd (gJ c2 true) (fun K => aD pg (aI .lss 3 aM aM c4 (aNG 1)) w K) w fun c5 w =>
 Gd (gJ c2 true) (fun K => K c5 w) w fun c6 w =>
 Gd (gJ c6 false) (fun K => K lW w) w fun c7 w =>
 Gd (gJ c6 false) (fun K => aD pg (aI .gtr 3 aM aM c7 (aNG 8)) w K) w fun c8 w =>
 Gd (gJ c2 true) (fun K => aD pg (iN c6 (.bool true) c8) w K) w fun c9 w =>
 aD pg (iN c2 c9 (.bool false)) w fun d0 w =>
 gZ d0
  (aD pg (aK 45 HF 1) w fun d1 w =>
  aD pg (aR 27 d1 (aNG 1)) w fun _u w =>
  kn lW HF b4 w)
  (kn lW HF b4 w)
theorem Yn (kn : K3) (hn : N3 Q kn 1 2 4) (h : HZ kn (g 0) (g 1) w) : bD pg pM (aF 2 oK) Q g w :=
 eL (kr := no) (l := []) h hn gT trivial
def Hs (R : K1) (Ns lW : aNF) (w : aNE) : Prop :=
 HZ (fun lW HF b4 w => Dc R lW HF b4 w) Ns lW w
theorem Yc (R : K1) (hr : HR J3 R Q) (h : Hs R (g 0) (g 1) w) : bD pg pM oK Q g w :=
 jA 2 (Yn _ g w (Dc R) (fun g w h => aJ (jA 3 (abF _ g w (KD R) (fun g w h => aJ (jA 1 (adB _ g w (C4 R) (fun g w h => aJ (aeN _ g w R hr h)) h))) h))) h)
def agF (a0 a1 : aNF) (w : aNE) (R : K1) : Prop :=
 Hs R a0 a1 w
theorem afM {a0 a1 : aNF} {w : aNE} {R : K1} (h : agF a0 a1 w R) : aT pg vG #[a0, a1] w R := by
 refine uO (ann := pM) Tryz.f14 oK [a0, a1] J3 46 TryzM.mixed Tryz.func14 ?_
 exact (Yc _ _ _ R (fun _ _ h => h) h)
def oH : FA := ⟨AS, fun i => match Nat.beq i 3 with | true => .leaf ([12, 13], [(1, 12), (2, 12), (3, 12), (4, 12), (6, 12), (7, 12), (8, 12), (9, 12), (10, 12), (11, 12)]) [(false, []), (false, []), (false, []), (false, []), (false, []), (false, []), (false, []), (false, []), (false, []), (false, []), (false, []), (false, []), (true, [0, 1, 2, 3, 4, 5, 7, 8, 9, 10]), (true, [])] | false => .leaf ([], []) []⟩
def zN : List ResultVar := [.cell 2 49, .tmp 3]
noncomputable def nJ : Code := dG Tryz.f15
def qK (R : K1) (dY b2 wG pF oM : aNF) (w : aNE) : Prop :=
 aT pg vC #[dY] w fun f8 w =>
 aD pg (aK 49 wG 2) w fun i0 w =>
 aD pg (aL 3 i0) w fun i1 w =>
 aT pg rI #[f8, i1] w fun i2 w =>
 aD pg (aI .shr 24 aM aM i2 pF) w fun i4 w =>
 aT pg rN #[f8] w fun i6 w =>
 aD pg (aI .neq 27 (.tmp 56) (.const (aNG 0)) i6 (aNG 0)) w fun i7 w =>
 gZ i7
  (aD pg (fT 49 []) w fun i8 w =>
  aT pg rN #[f8] w fun j0 w =>
  aD pg (aR 49 b2 i8) w fun _u w =>
  An pg 49 b2 w fun r0 => R (.tuple #[r0, j0]) w)
  (aD pg (aI .shl 24 aM aM (.int .u64 1) oM) w fun j3 w =>
  aD pg (aI .sub 24 aM aM j3 (.int .u64 1)) w fun j4 w =>
  aD pg (aI .and 24 aM aM i4 j4) w fun j5 w =>
  aD pg (jG 24 3 j5) w fun j6 w =>
  aD pg (aK 49 wG 3) w fun j7 w =>
  aD pg (aR 3 j7 j6) w fun _u w =>
  aD pg (aI .shr 24 aM aM i4 oM) w fun l0 w =>
  aD pg (jG 24 3 l0) w fun l1 w =>
  aD pg (aK 49 wG 4) w fun l2 w =>
  aD pg (aR 3 l2 l1) w fun _u w =>
  aD pg (aK 49 wG 3) w fun l3 w =>
  aD pg (aL 3 l3) w fun l4 w =>
  aD pg (aI .gtr 3 aM aM l4 (aNG 131072)) w fun l5 w =>
  gZ l5
   (aD pg (fT 49 []) w fun l6 w =>
   aD pg (aR 49 b2 l6) w fun _u w =>
   An pg 49 b2 w fun r0 => R (.tuple #[r0, (aNG 12)]) w)
   (aD pg (aL 49 wG) w fun l7 w =>
   aD pg (aR 49 b2 l7) w fun _u w =>
   An pg 49 b2 w fun r0 => R (.tuple #[r0, (aNG 0)]) w))
theorem Vt (R : K1) (hr : HR zN R Q) (h : qK R (g 0) (g 2) (g 4) (g 5) (g 6) w) : bD pg oH (aB 1 (aB 4 nJ)) Q g w :=
 eL (kn := no) (l := []) h gT hr trivial
def lC (kn : K5) (dY b2 wG pF oM e6 : aNF) (w : aNE) : Prop :=
 gZ e6
  (aD pg (fT 73 [(0, (aNG 1)), (1, (aNG 2)), (2, (aNG 1)), (3, (aNG 3))]) w fun e9 w =>
  aD pg (aK 49 wG 1) w fun f0 w =>
  aD pg (aL 3 f0) w fun f1 w =>
  aD pg (DX 73 e9 f1) w fun f2 w =>
  aD pg (aK 49 wG 2) w fun f3 w =>
  aD pg (aR 3 f3 f2) w fun _u w =>
  aD pg (aK 49 wG 2) w fun f4 w =>
  aD pg (aL 3 f4) w fun f5 w =>
  aD pg (aI .eql 3 (.tmp 45) (.const (aNG 1)) f5 (aNG 1)) w fun f6 w =>
  gZ f6
   (kn dY b2 wG (aNG 3) oM w)
   (kn dY b2 wG pF oM w))
  (aD pg (fT 73 [(0, (aNG 3)), (1, (aNG 3)), (2, (aNG 4)), (3, (aNG 5))]) w fun d7 w =>
  aD pg (aK 49 wG 1) w fun d8 w =>
  aD pg (aL 3 d8) w fun d9 w =>
  aD pg (DX 73 d7 d9) w fun e0 w =>
  aD pg (aK 49 wG 2) w fun e1 w =>
  aD pg (aR 3 e1 e0) w fun _u w =>
  aD pg (fT 73 [(0, (aNG 10)), (1, (aNG 10)), (2, (aNG 14)), (3, (aNG 18))]) w fun e2 w =>
  aD pg (aK 49 wG 1) w fun e3 w =>
  aD pg (aL 3 e3) w fun e4 w =>
  aD pg (DX 73 e2 e4) w fun e5 w =>
  kn dY b2 wG pF e5 w)
theorem Vk (kn : K5) (hn : N5 Q kn 0 2 4 5 6) (h : lC kn (g 0) (g 2) (g 4) (g 5) (g 6) (g 36) w) : bD pg oH (aB 1 (bI (aB 1 (aF 1 (aB 4 nJ))))) Q g w :=
 eL (kr := no) (l := []) h hn gT trivial
def Ep (kn : K6) (dY b2 wG pF oM d6 : aNF) (w : aNE) : Prop :=
 aD pg (aI .eql 3 (.tmp 26) (.const (aNG 0)) d6 (aNG 0)) w fun e7 w =>
 gZ e7
  (kn dY b2 wG pF oM e7 w)
  (aD pg (aI .eql 3 (.tmp 26) (.const (aNG 1)) d6 (aNG 1)) w fun e8 w =>
  kn dY b2 wG pF oM e8 w)
theorem Vq (kn : K6) (hn : N6 Q kn 0 2 4 5 6 36) (h : Ep kn (g 0) (g 2) (g 4) (g 5) (g 6) (g 26) w) : bD pg oH (aF 1 (bI (aB 1 (aF 1 (aB 4 nJ))))) Q g w :=
 eL (kr := no) (l := []) h hn gT trivial
def PO (kn : K5) (dY b2 wG pF oM d6 : aNF) (w : aNE) : Prop :=
 Ep (fun dY b2 wG pF oM e6 w => lC kn dY b2 wG pF oM e6 w) dY b2 wG pF oM d6 w
def Ek (kn : K5) (dY b2 wG pF oM d6 : aNF) (w : aNE) : Prop :=
 PO kn dY b2 wG pF oM d6 w
def DW (kn : K6) (dY b2 wG pF oM : aNF) (w : aNE) : Prop :=
 aD pg (aK 49 wG 0) w fun d5 w =>
 aD pg (aL 3 d5) w fun d6 w =>
 kn dY b2 wG pF oM d6 w
theorem Vh (kn : K6) (hn : N6 Q kn 0 2 4 5 6 26) (h : DW kn (g 0) (g 2) (g 4) (g 5) (g 6) w) : bD pg oH (aF 1 (aF 1 (aB 4 nJ))) Q g w :=
 eL (kr := no) (l := []) h hn gT trivial
def El (kn : K5) (dY b2 wG pF oM : aNF) (w : aNE) : Prop :=
 DW (fun dY b2 wG pF oM d6 w => Ek kn dY b2 wG pF oM d6 w) dY b2 wG pF oM w
def D5 (R : K1) (dY b2 wG pF oM : aNF) (w : aNE) : Prop :=
 El (fun dY b2 wG pF oM w => qK R dY b2 wG pF oM w) dY b2 wG pF oM w
theorem Vd (kn : K5) (hn : N5 Q kn 0 2 4 5 6) (h : El kn (g 0) (g 2) (g 4) (g 5) (g 6) w) : bD pg oH (aF 1 (aB 4 nJ)) Q g w :=
 jA 1 (Vh _ g w (Ek kn) (fun g w h => aJ (wX 0 (jA 1 (Vq _ g w (lC kn) (fun g w h => aJ (Vk _ g w kn hn h)) h)))) h)
def DZ (kn : K5) (R : K1) (dY : aNF) (w : aNE) : Prop :=
 aD pg (fU 49) w fun b2 w =>
 aD pg (lG .len #[22] 3 [dY]) w fun c0 w =>
 aD pg (aI .eql 3 (.tmp 10) (.const (aNG 0)) c0 (aNG 0)) w fun c1 w =>
 gZ c1
  (aD pg (fT 49 []) w fun c2 w =>
  aD pg (aR 49 b2 c2) w fun _u w =>
  An pg 49 b2 w fun r0 => R (.tuple #[r0, (aNG 10)]) w)
  ((dr w) = (dr w) /\
  aD pg (cI 22 dY (aNG 0)) (dr w) fun c4 w_ => w_ = (dr w) /\
  aD pg (aL 5 c4) (dr w) fun c5 w_ => w_ = (dr w) /\
  aD pg (aI .and 5 aM aM c5 (.int .u8 3)) (dr w) fun c6 w_ => w_ = (dr w) /\
  aD pg (jG 5 3 c6) (dr w) fun c7 w_ => w_ = (dr w) /\
  (dr w) = (dr w) /\
  aD pg (cI 22 dY (aNG 0)) (dr w) fun c9 w_ => w_ = (dr w) /\
  aD pg (aL 5 c9) (dr w) fun d0 w_ => w_ = (dr w) /\
  aD pg (aI .shr 5 aM aM d0 (.int .u64 2)) (dr w) fun d1 w_ => w_ = (dr w) /\
  aD pg (aI .and 5 aM aM d1 (.int .u8 3)) (dr w) fun d2 w_ => w_ = (dr w) /\
  aD pg (jG 5 3 d2) (dr w) fun d3 w_ => w_ = (dr w) /\
  aD pg (fT 49 [(0, c7), (1, d3)]) (dr w) fun d4 w_ => w_ = (dr w) /\
  aD pg (fU 49) (dr w) fun wG Cr =>
  (jJ pg (fT 49 [(0, c7), (1, d3)]) d4 Cr /\ jJ pg (jG 5 3 d2) d3 Cr /\ jJ pg (aI .and 5 aM aM d1 (.int .u8 3)) d2 Cr /\ jJ pg (aI .shr 5 aM aM d0 (.int .u64 2)) d1 Cr /\ jJ pg (aL 5 c9) d0 Cr /\ jJ pg (cI 22 dY (aNG 0)) c9 Cr /\ jJ pg (jG 5 3 c6) c7 Cr /\ jJ pg (aI .and 5 aM aM c5 (.int .u8 3)) c6 Cr /\ jJ pg (aL 5 c4) c5 Cr /\ jJ pg (cI 22 dY (aNG 0)) c4 Cr /\ True) /\
  aD pg (aR 49 wG d4) Cr fun _u13 aKA =>
  kn dY b2 wG (aNG 4) (aNG 20) aKA)
theorem Vn (kn : K5) (R : K1) (hn : N5 Q kn 0 2 4 5 6) (hr : HR zN R Q) (h : DZ kn R (g 0) w) : bD pg oH (aF 4 nJ) Q g w :=
 eL (l := []) h hn hr trivial
def Cv (R : K1) (dY : aNF) (w : aNE) : Prop :=
 DZ (fun dY b2 wG pF oM w => D5 R dY b2 wG pF oM w) R dY w
theorem TH (R : K1) (hr : HR zN R Q) (h : Cv R (g 0) w) : bD pg oH nJ Q g w :=
 jA 4 (Vn _ g w (D5 R) R (fun g w h => aJ (jA 1 (Vd _ g w (qK R) (fun g w h => aJ (Vt _ g w R hr h)) h))) hr h)
def Uv (a0 : aNF) (w : aNE) (R : K1) : Prop :=
 Cv R a0 w
theorem XH {a0 : aNF} {w : aNE} {R : K1} (h : Uv a0 w R) : aT pg AS #[a0] w R := by
 refine uO (ann := oH) Tryz.f15 nJ [a0] zN 78 TryzM.mixed Tryz.func15 ?_
 exact (TH _ _ _ R (fun _ _ h => h) h)
def Hr : FA := ⟨jS, fun i => .leaf ([], []) []⟩
def Ji : List ResultVar := [.tmp 2]
noncomputable def FR : Code := dG Tryz.f16
def Bp (R : K1) (Cs : aNF) (w : aNE) : Prop :=
 aD pg (aI .eql 22 (.tmp 3) (.const (.slice none 0 0)) Cs (.slice none 0 0)) w fun b4 w =>
 gZ b4
  (R (.slice none 0 0) w)
  (aD pg (cV 22 0 []) w fun b5 w =>
  aD pg (lG .append #[22, 22] 22 [b5, Cs]) w fun b7 w =>
  R b7 w)
theorem S3 (R : K1) (hr : HR Ji R Q) (h : Bp R (g 0) w) : bD pg Hr FR Q g w :=
 eL (kn := no) (l := []) h gT hr trivial
def Qh (a0 : aNF) (w : aNE) (R : K1) : Prop :=
 Bp R a0 w
theorem T9 {a0 : aNF} {w : aNE} {R : K1} (h : Qh a0 w R) : aT pg jS #[a0] w R := by
 refine uO (ann := Hr) Tryz.f16 FR [a0] Ji 8 TryzM.mixed Tryz.func16 ?_
 exact (S3 _ _ _ R (fun _ _ h => h) h)
def lH : FA := ⟨wL, fun i => match Nat.beq i 9 with | true => .leaf ([7], []) [(false, []), (false, []), (false, []), (false, []), (false, []), (false, []), (false, []), (true, []), (false, []), (false, [])] | false => .leaf ([], []) []⟩
def AG : List ResultVar := [.tmp 4]
noncomputable def kT : Code := dG Tryz.f17
def vM (R : K1) (mM : aNF) (w : aNE) : Prop :=
 R mM w
theorem R7 (R : K1) (hr : HR AG R Q) (h : vM R (g 7) w) : bD pg lH (aB 1 (aB 2 (aB 2 (aB 2 kT)))) Q g w :=
 eL (kn := no) (l := []) h gT hr trivial
def vK (kn : K2) (k0 : K1) (mM n_8 : aNF) (w : aNE) : Prop :=
 aD pg (lG .len #[22] 3 [mM]) w fun e6 w =>
 aD pg (aI .lss 3 aM aM n_8 e6) w fun e7 w =>
 gZ e7
  ((dr w) = (dr w) /\
  (dr w) = (dr w) /\
  (dr w) = (dr w) /\
  aD pg (lZ 22 mM (some n_8) none none) (dr w) fun f1 w_ => w_ = (dr w) /\
  (dr w) = (dr w) /\
  (dr w) = (dr w) /\
  aD pg (lZ 22 mM none (some n_8) none) (dr w) fun f4 w_ => w_ = (dr w) /\
  aD pg (lG .copy #[22, 22] 3 [f1, f4]) (dr w) fun f5 aGQ =>
  aD pg (aI .add 3 aM aM n_8 f5) aGQ fun f6 w_ => w_ = aGQ /\
  aGQ = aGQ /\
  kn mM f6 aGQ)
  (k0 mM w)
theorem RA (kn : K2) (k0 : K1) (hn : N2 Q kn 7 8) (h0 : E1 Q k0 0 7) (h : vK kn k0 (g 7) (g 8) w) : bD pg lH (bI (bI (aF 1 (aB 2 (aB 2 (aB 2 kT)))))) Q g w :=
 eL (kr := no) (l := [(0, fun g w => k0 (g 7) w)]) h hn gT ⟨h0, trivial⟩
def AJ (k0 : K1) (mM n_8 : aNF) (w : aNE) : Prop :=
 cS (fun (X : aNF -> K0) (t : aNF) (w : aNE) => vK (fun _ n_8 w => X n_8 w) k0 mM t w) n_8 w
theorem Q0 (k0 : K1) (h0 : E1 Q k0 0 7) (h : AJ k0 (g 7) (g 8) w) : bD pg lH (bI (aF 1 (aB 2 (aB 2 (aB 2 kT))))) Q g w := by
 refine CS (fun g : Env => g 8) (fun X t w => vK (fun _ n_8 w => X n_8 w) k0 (g 7) t w) h (fun X g1 w1 ha hL => ?_)
 rw [<- jX 7 ha] at hL
 exact (RA _ g1 w1 (fun _ n_8 w => X n_8 w) k0 (fun _ _ h => h) h0 hL)
def AF (kn : K1) (mM n_8 : aNF) (w : aNE) : Prop :=
 AJ kn mM n_8 w
def vU (R : K1) (mM n_8 : aNF) (w : aNE) : Prop :=
 AF (fun mM w => vM R mM w) mM n_8 w
theorem R5 (kn : K1) (hn : N1 Q kn 7) (h : AF kn (g 7) (g 8) w) : bD pg lH (aF 1 (aB 2 (aB 2 (aB 2 kT)))) Q g w :=
 wX 0 (Q0 _ g w kn hn h)
def AL (kn : K2) (oJ aEx : aNF) (w : aNE) : Prop :=
 aD pg (jG 67 3 aEx) w fun d9 w =>
 aD pg (qC 22 d9 d9) w fun e0 w =>
 aD pg (lG .copy #[22, 22] 3 [e0, oJ]) w fun e3 w =>
 kn e0 e3 w
theorem R8 (kn : K2) (hn : N2 Q kn 7 8) (h : AL kn (g 0) (g 6) w) : bD pg lH (aF 2 (aB 2 (aB 2 kT))) Q g w :=
 eL (kr := no) (l := []) h hn gT trivial
def AB (R : K1) (oJ aEx : aNF) (w : aNE) : Prop :=
 AL (fun mM n_8 w => vU R mM n_8 w) oJ aEx w
def AH (kn : K2) (oJ Cn : aNF) (w : aNE) : Prop :=
 aD pg (lG .len #[22] 3 [oJ]) w fun c4 w =>
 aD pg (jG 3 67 c4) w fun c5 w =>
 aD pg (jG 3 67 Cn) w fun c7 w =>
 aT pg Dq #[c5, c7] w fun c8 w =>
 aD pg (bQ c8 0) w fun c9 w =>
 aD pg (bQ c8 1) w fun d0 w =>
 aD pg (aI .gtr 67 aM aM c9 (.int .u64 0)) w fun d2 w =>
 Gd (gJ d2 false) (fun K => K d0 w) w fun d4 w =>
 Gd (gJ d2 false) (fun K => aD pg (aI .gtr 67 aM aM d4 (.int .u64 9223372036854775807)) w K) w fun d5 w =>
 aD pg (iN d2 (.bool true) d5) w fun d6 w =>
 gZ d6
  (aD pg (aEC 9 (.string ⟨#[116, 104, 101, 32, 114, 101, 115, 117, 108, 116, 32, 111, 102, 32, 40, 108, 101, 110, 40, 120, 41, 32, 42, 32, 99, 111, 117, 110, 116, 41, 32, 111, 118, 101, 114, 102, 108, 111, 119, 115]⟩)) w fun d7 w =>
  aD pg (V (Instr.panic d7)) w fun _u w =>
  kn oJ d0 w)
  (kn oJ d0 w)
theorem RS (kn : K2) (hn : N2 Q kn 0 6) (h : AH kn (g 0) (g 1) w) : bD pg lH (aF 2 (aB 2 kT)) Q g w :=
 eL (kr := no) (l := []) h hn gT trivial
def AI (R : K1) (oJ Cn : aNF) (w : aNE) : Prop :=
 AH (fun oJ aEx w => AB R oJ aEx w) oJ Cn w
def zT (kn : K2) (oJ Cn : aNF) (w : aNE) : Prop :=
 aD pg (aI .lss 3 aM aM Cn (aNG 0)) w fun c0 w =>
 gZ c0
  (aD pg (aEC 9 (.string ⟨#[99, 97, 110, 110, 111, 116, 32, 98, 101, 32, 110, 101, 103, 97, 116, 105, 118, 101]⟩)) w fun c1 w =>
  aD pg (V (Instr.panic c1)) w fun _u w =>
  kn oJ Cn w)
  (kn oJ Cn w)
theorem PY (kn : K2) (hn : N2 Q kn 0 1) (h : zT kn (g 0) (g 1) w) : bD pg lH (aF 2 kT) Q g w :=
 eL (kr := no) (l := []) h hn gT trivial
def zI (R : K1) (oJ Cn : aNF) (w : aNE) : Prop :=
 zT (fun oJ Cn w => AI R oJ Cn w) oJ Cn w
theorem PZ (R : K1) (hr : HR AG R Q) (h : zI R (g 0) (g 1) w) : bD pg lH kT Q g w :=
 jA 2 (PY _ g w (AI R) (fun g w h => aJ (jA 2 (RS _ g w (AB R) (fun g w h => aJ (jA 2 (R8 _ g w (vU R) (fun g w h => aJ (jA 1 (R5 _ g w (vM R) (fun g w h => aJ (R7 _ g w R hr h)) h))) h))) h))) h)
def PH (a0 a1 : aNF) (w : aNE) (R : K1) : Prop :=
 zI R a0 a1 w
theorem S7 {a0 a1 : aNF} {w : aNE} {R : K1} (h : PH a0 a1 w R) : aT pg wL #[a0, a1] w R := by
 refine uO (ann := lH) Tryz.f17 kT [a0, a1] AG 48 TryzM.mixed Tryz.func17 ?_
 exact (PZ _ _ _ R (fun _ _ h => h) h)
def Ci : FA := ⟨BF, fun i => .leaf ([], []) []⟩
def Dz : List ResultVar := [.tmp 2, .tmp 3, .tmp 4]
noncomputable def AQ : Code := dG Tryz.f18
def qF (R : K1) (l_6 n_7 e_8 : aNF) (w : aNE) : Prop :=
 aD pg (aI .neq 27 (.tmp 47) (.const (aNG 0)) e_8 (aNG 0)) w fun f8 w =>
 gZ f8
  (R (.tuple #[(.slice none 0 0), (aNG 0), e_8]) w)
  (aT pg Dt #[l_6] w fun i2 w =>
  aD pg (bQ i2 0) w fun i3 w =>
  aD pg (bQ i2 1) w fun i4 w =>
  aD pg (aI .neq 27 (.tmp 55) (.const (aNG 0)) i4 (aNG 0)) w fun i6 w =>
  gZ i6
   (R (.tuple #[(.slice none 0 0), (aNG 0), i4]) w)
   (aD pg (aI .add 3 aM aM (aNG 1) n_7) w fun j0 w =>
   R (.tuple #[i3, j0, (aNG 0)]) w))
theorem acC (R : K1) (hr : HR Dz R Q) (h : qF R (g 6) (g 7) (g 8) w) : bD pg Ci (aB 8 AQ) Q g w :=
 eL (kn := no) (l := []) h gT hr trivial
def Ai (kn : K3) (R : K1) (dY : aNF) (w : aNE) : Prop :=
 aD pg (lG .len #[22] 3 [dY]) w fun c1 w =>
 aD pg (aI .eql 3 (.tmp 11) (.const (aNG 0)) c1 (aNG 0)) w fun c2 w =>
 gZ c2
  (R (.tuple #[(.slice none 0 0), (aNG 0), (aNG 10)]) w)
  (aD pg (cI 22 dY (aNG 0)) w fun c4 w =>
  aD pg (aL 5 c4) w fun c5 w =>
  aD pg (jG 5 3 c5) w fun c6 w =>
  aD pg (lZ 22 dY (some (aNG 1)) none none) w fun c8 w =>
  aD pg (aI .geq 3 aM aM c6 (aNG 128)) w fun d9 w =>
  gZ d9
   (aD pg (aI .sub 3 aM aM c6 (aNG 128)) w fun e1 w =>
   aD pg (aI .add 3 aM aM e1 (aNG 2)) w fun e2 w =>
   aD pg (aI .quo 3 aM aM e2 (aNG 2)) w fun e3 w =>
   aD pg (aI .sub 3 aM aM c6 (aNG 128)) w fun e7 w =>
   aD pg (aI .add 3 aM aM e7 (aNG 1)) w fun e8 w =>
   aT pg Cj #[c8, e8] w fun e9 w =>
   aD pg (bQ e9 0) w fun f0 w =>
   aD pg (bQ e9 1) w fun f1 w =>
   kn f0 e3 f1 w)
   (aD pg (lG .len #[22] 3 [c8]) w fun f4 w =>
   aD pg (aI .lss 3 aM aM f4 c6) w fun f6 w =>
   gZ f6
    (kn (.slice none 0 0) (aNG 0) (aNG 10) w)
    (aD pg (lZ 22 c8 none (some c6) none) w fun d3 w =>
    aT pg BW #[d3] w fun d4 w =>
    aD pg (bQ d4 0) w fun d5 w =>
    aD pg (bQ d4 1) w fun d6 w =>
    kn d5 c6 d6 w)))
theorem aaM (kn : K3) (R : K1) (hn : N3 Q kn 6 7 8) (hr : HR Dz R Q) (h : Ai kn R (g 0) w) : bD pg Ci (aF 8 AQ) Q g w :=
 eL (l := []) h hn hr trivial
def Aa (R : K1) (dY : aNF) (w : aNE) : Prop :=
 Ai (fun l_6 n_7 e_8 w => qF R l_6 n_7 e_8 w) R dY w
theorem ZZ (R : K1) (hr : HR Dz R Q) (h : Aa R (g 0) w) : bD pg Ci AQ Q g w :=
 jA 8 (aaM _ g w (qF R) R (fun g w h => aJ (acC _ g w R hr h)) hr h)
def Md (a0 : aNF) (w : aNE) (R : K1) : Prop :=
 Aa R a0 w
theorem FB {a0 : aNF} {w : aNE} {R : K1} (h : Md a0 w R) : aT pg BF #[a0] w R := by
 refine uO (ann := Ci) Tryz.f18 AQ [a0] Dz 61 TryzM.mixed Tryz.func18 ?_
 exact (ZZ _ _ _ R (fun _ _ h => h) h)
def Jp : FA := ⟨zM, fun i => .leaf ([], []) []⟩
def L9 : List ResultVar := [.tmp 6, .tmp 7]
noncomputable def Hf : Code := dG Tryz.f19
def Cy (R : K1) (h_0 l_1 JB : aNF) (w : aNE) : Prop :=
 aD pg (B5 49 h_0) w fun h_3 w =>
 aD pg (aK 49 h_3 1) w fun b8 w =>
 aD pg (aL 3 b8) w fun b9 w =>
 aD pg (aI .eql 3 (.tmp 9) (.const (aNG 0)) b9 (aNG 0)) w fun c0 w =>
 gZ c0
  (aD pg (aK 49 h_3 3) w fun c3 w =>
  aD pg (aL 3 c3) w fun c4 w =>
  aT pg IC #[l_1, JB, c4] w fun c5 w =>
  aD pg (bQ c5 0) w fun c6 w =>
  aD pg (bQ c5 1) w fun c7 w =>
  R (.tuple #[c6, c7]) w)
  (aD pg (aK 49 h_3 3) w fun d0 w =>
  aD pg (aL 3 d0) w fun d1 w =>
  aT pg Fc #[l_1, JB, d1] w fun d2 w =>
  aD pg (bQ d2 0) w fun d3 w =>
  aD pg (bQ d2 1) w fun d4 w =>
  R (.tuple #[d3, d4]) w)
theorem TZ (R : K1) (hr : HR L9 R Q) (h : Cy R (g 0) (g 1) (g 2) w) : bD pg Jp Hf Q g w :=
 eL (kn := no) (l := []) h gT hr trivial
def Sx (a0 a1 a2 : aNF) (w : aNE) (R : K1) : Prop :=
 Cy R a0 a1 a2 w
theorem VE {a0 a1 a2 : aNF} {w : aNE} {R : K1} (h : Sx a0 a1 a2 w R) : aT pg zM #[a0, a1, a2] w R := by
 refine uO (ann := Jp) Tryz.f19 Hf [a0, a1, a2] L9 25 TryzM.mixed Tryz.func19 ?_
 exact (TZ _ _ _ R (fun _ _ h => h) h)
def rT : FA := ⟨IQ, fun i => .leaf ([], []) []⟩
def MW : List ResultVar := [.tmp 4]
noncomputable def qO : Code := dG Tryz.f20
def FH (R : K1) (Zc : aNF) (w : aNE) : Prop :=
 aD pg (jG 22 9 Zc) w fun c9 w =>
 R c9 w
theorem aiF (R : K1) (hr : HR MW R Q) (h : FH R (g 5) w) : bD pg rT (aB 1 (aB 2 qO)) Q g w :=
 eL (kn := no) (l := []) h gT hr trivial
def G2 (kn : K4) (k0 : K1) (L1 lW Zc xD : aNF) (w : aNE) : Prop :=
 aD pg (aI .lss 3 aM aM xD lW) w fun c1 w =>
 gZ c1
  (aD pg (cI 22 Zc xD) w fun c7 w =>
  aD pg (aR 5 c7 L1) w fun _u w =>
  aD pg (aI .add 3 aM aM xD (aNG 1)) w fun c3 w =>
  kn L1 lW Zc c3 w)
  (k0 Zc w)
theorem akI (kn : K4) (k0 : K1) (hn : N4 Q kn 0 1 5 6) (h0 : E1 Q k0 0 5) (h : G2 kn k0 (g 0) (g 1) (g 5) (g 6) w) : bD pg rT (bI (bI (aB 1 (aF 1 (aB 2 qO))))) Q g w :=
 eL (kr := no) (l := [(0, fun g w => k0 (g 5) w)]) h hn gT ⟨h0, trivial⟩
def Pj (k0 : K1) (L1 lW Zc xD : aNF) (w : aNE) : Prop :=
 cS (fun (X : aNF -> K0) (t : aNF) (w : aNE) => G2 (fun _ _ _ xD w => X xD w) k0 L1 lW Zc t w) xD w
theorem alR (k0 : K1) (h0 : E1 Q k0 0 5) (h : Pj k0 (g 0) (g 1) (g 5) (g 6) w) : bD pg rT (bI (aB 1 (aF 1 (aB 2 qO)))) Q g w := by
 refine CS (fun g : Env => g 6) (fun X t w => G2 (fun _ _ _ xD w => X xD w) k0 (g 0) (g 1) (g 5) t w) h (fun X g1 w1 ha hL => ?_)
 rw [<- jX 0 ha, <- jX 1 ha, <- jX 5 ha] at hL
 exact (akI _ g1 w1 (fun _ _ _ xD w => X xD w) k0 (fun _ _ h => h) h0 hL)
def NJ (kn : K1) (L1 lW Zc xD : aNF) (w : aNE) : Prop :=
 Pj kn L1 lW Zc xD w
def Pn (kn : K4) (L1 lW Zc : aNF) (w : aNE) : Prop :=
 kn L1 lW Zc (aNG 0) w
theorem akH (kn : K4) (hn : N4 Q kn 0 1 5 6) (h : Pn kn (g 0) (g 1) (g 5) w) : bD pg rT (aF 1 (aF 1 (aB 2 qO))) Q g w :=
 eL (kr := no) (l := []) h hn gT trivial
def PU (kn : K1) (L1 lW Zc : aNF) (w : aNE) : Prop :=
 Pn (fun L1 lW Zc xD w => NJ kn L1 lW Zc xD w) L1 lW Zc w
def OZ (R : K1) (L1 lW Zc : aNF) (w : aNE) : Prop :=
 PU (fun Zc w => FH R Zc w) L1 lW Zc w
theorem alL (kn : K1) (hn : N1 Q kn 5) (h : PU kn (g 0) (g 1) (g 5) w) : bD pg rT (aF 1 (aB 2 qO)) Q g w :=
 jA 1 (akH _ g w (NJ kn) (fun g w h => aJ (wX 0 (alR _ g w kn hn h))) h)
def NF (kn : K3) (L1 lW : aNF) (w : aNE) : Prop :=
 aD pg (qC 22 lW lW) w fun b8 w =>
 kn L1 lW b8 w
theorem aeV (kn : K3) (hn : N3 Q kn 0 1 5) (h : NF kn (g 0) (g 1) w) : bD pg rT (aF 2 qO) Q g w :=
 eL (kr := no) (l := []) h hn gT trivial
def Nf (R : K1) (L1 lW : aNF) (w : aNE) : Prop :=
 NF (fun L1 lW Zc w => OZ R L1 lW Zc w) L1 lW w
theorem agV (R : K1) (hr : HR MW R Q) (h : Nf R (g 0) (g 1) w) : bD pg rT qO Q g w :=
 jA 2 (aeV _ g w (OZ R) (fun g w h => aJ (jA 1 (alL _ g w (FH R) (fun g w h => aJ (aiF _ g w R hr h)) h))) h)
def arS (a0 a1 : aNF) (w : aNE) (R : K1) : Prop :=
 Nf R a0 a1 w
theorem aoX {a0 a1 : aNF} {w : aNE} {R : K1} (h : arS a0 a1 w R) : aT pg IQ #[a0, a1] w R := by
 refine uO (ann := rT) Tryz.f20 qO [a0, a1] MW 20 TryzM.mixed Tryz.func20 ?_
 exact (agV _ _ _ R (fun _ _ h => h) h)
def EV : FA := ⟨Mx, fun i => .leaf ([], []) []⟩
def IT : List ResultVar := [.tmp 2, .tmp 3, .tmp 4]
noncomputable def C6 : Code := dG Tryz.f21
def uM (R : K1) (l_6 e_7 n_8 : aNF) (w : aNE) : Prop :=
 aD pg (aI .neq 27 (.tmp 43) (.const (aNG 0)) e_7 (aNG 0)) w fun f4 w =>
 gZ f4
  (R (.tuple #[(.string ⟨#[]⟩), (aNG 0), e_7]) w)
  (aT pg I3 #[l_6] w fun f8 w =>
  aD pg (bQ f8 0) w fun f9 w =>
  aD pg (bQ f8 1) w fun i0 w =>
  aD pg (aI .neq 27 (.tmp 51) (.const (aNG 0)) i0 (aNG 0)) w fun i2 w =>
  gZ i2
   (R (.tuple #[(.string ⟨#[]⟩), (aNG 0), i0]) w)
   (aD pg (aI .add 3 aM aM (aNG 1) n_8) w fun i6 w =>
   R (.tuple #[f9, i6, (aNG 0)]) w))
theorem arF (R : K1) (hr : HR IT R Q) (h : uM R (g 6) (g 7) (g 8) w) : bD pg EV (aB 7 C6) Q g w :=
 eL (kn := no) (l := []) h gT hr trivial
def RO (kn : K3) (R : K1) (dY : aNF) (w : aNE) : Prop :=
 aD pg (aI .eql 9 (.tmp 10) (.const (.string ⟨#[]⟩)) dY (.string ⟨#[]⟩)) w fun c1 w =>
 gZ c1
  (R (.tuple #[(.string ⟨#[]⟩), (aNG 0), (aNG 10)]) w)
  (aD pg (DX 9 dY (aNG 0)) w fun c3 w =>
  aD pg (jG 5 3 c3) w fun c4 w =>
  aD pg (aI .geq 3 aM aM c4 (aNG 128)) w fun c7 w =>
  gZ c7
   (aD pg (aI .sub 3 aM aM c4 (aNG 127)) w fun c9 w =>
   aD pg (aI .add 3 aM aM c9 (aNG 1)) w fun d0 w =>
   aD pg (aI .quo 3 aM aM d0 (aNG 2)) w fun d1 w =>
   aD pg (lZ 9 dY (some (aNG 1)) none none) w fun d4 w =>
   aD pg (aI .sub 3 aM aM c4 (aNG 127)) w fun d6 w =>
   aT pg Fh #[d4, d6] w fun d7 w =>
   aD pg (bQ d7 0) w fun d8 w =>
   aD pg (bQ d7 1) w fun d9 w =>
   kn d8 d9 d1 w)
   (aD pg (lG .len #[9] 3 [dY]) w fun e1 w =>
   aD pg (aI .sub 3 aM aM e1 (aNG 1)) w fun e2 w =>
   aD pg (aI .lss 3 aM aM e2 c4) w fun e4 w =>
   gZ e4
    (kn (.string ⟨#[]⟩) (aNG 10) c4 w)
    (aD pg (aI .add 3 aM aM (aNG 1) c4) w fun e8 w =>
    aD pg (lZ 9 dY (some (aNG 1)) (some e8) none) w fun e9 w =>
    aT pg FC #[e9] w fun f0 w =>
    aD pg (bQ f0 0) w fun f1 w =>
    aD pg (bQ f0 1) w fun f2 w =>
    kn f1 f2 c4 w)))
theorem apE (kn : K3) (R : K1) (hn : N3 Q kn 6 7 8) (hr : HR IT R Q) (h : RO kn R (g 0) w) : bD pg EV (aF 7 C6) Q g w :=
 eL (l := []) h hn hr trivial
def Rc (R : K1) (dY : aNF) (w : aNE) : Prop :=
 RO (fun l_6 e_7 n_8 w => uM R l_6 e_7 n_8 w) R dY w
theorem aqL (R : K1) (hr : HR IT R Q) (h : Rc R (g 0) w) : bD pg EV C6 Q g w :=
 jA 7 (apE _ g w (uM R) R (fun g w h => aJ (arF _ g w R hr h)) hr h)
def awO (a0 : aNF) (w : aNE) (R : K1) : Prop :=
 Rc R a0 w
theorem auR {a0 : aNF} {w : aNE} {R : K1} (h : awO a0 w R) : aT pg Mx #[a0] w R := by
 refine uO (ann := EV) Tryz.f21 C6 [a0] IT 57 TryzM.mixed Tryz.func21 ?_
 exact (aqL _ _ _ R (fun _ _ h => h) h)
def Tc : FA := ⟨Fq, fun i => .leaf ([], []) []⟩
def Ut : List ResultVar := [.tmp 6, .tmp 7]
noncomputable def Qv : Code := dG Tryz.f22
def KH (R : K1) (xQ s_1 nM : aNF) (w : aNE) : Prop :=
 aT pg Av #[xQ] w fun c2 w =>
 aD pg (bQ c2 0) w fun c3 w =>
 aD pg (bQ c2 1) w fun c4 w =>
 aD pg (aI .neq 27 (.tmp 15) (.const (aNG 0)) c4 (aNG 0)) w fun c6 w =>
 gZ c6
  (R (.tuple #[(.string ⟨#[]⟩), c4]) w)
  (aD pg (aI .lss 3 aM aM nM (aNG 0)) w fun c9 w =>
  Gd (gJ c9 false) (fun K => K nM w) w fun d1 w =>
  Gd (gJ c9 false) (fun K => aD pg (aI .gtr 3 aM aM d1 (aNG 131072)) w K) w fun d2 w =>
  aD pg (iN c9 (.bool true) d2) w fun d3 w =>
  gZ d3
   (R (.tuple #[(.string ⟨#[]⟩), (aNG 1)]) w)
   (aT pg BM #[c3, s_1, nM] w fun d7 w =>
   aD pg (bQ d7 0) w fun d8 w =>
   aD pg (bQ d7 1) w fun d9 w =>
   R (.tuple #[d8, d9]) w))
theorem aeA (R : K1) (hr : HR Ut R Q) (h : KH R (g 0) (g 1) (g 2) w) : bD pg Tc Qv Q g w :=
 eL (kn := no) (l := []) h gT hr trivial
def agL (a0 a1 a2 : aNF) (w : aNE) (R : K1) : Prop :=
 KH R a0 a1 a2 w
theorem akQ {a0 a1 a2 : aNF} {w : aNE} {R : K1} (h : agL a0 a1 a2 w R) : aT pg Fq #[a0, a1, a2] w R := by
 refine uO (ann := Tc) Tryz.f22 Qv [a0, a1, a2] Ut 30 TryzM.mixed Tryz.func22 ?_
 exact (aeA _ _ _ R (fun _ _ h => h) h)
def kU : FA := ⟨DI, fun i => .leaf ([], []) []⟩
def pK : List ResultVar := [.tmp 6, .tmp 7]
noncomputable def kE : Code := dG Tryz.f23
def B1 (R : K1) (dS : aNF) (w : aNE) : Prop :=
 R (.tuple #[dS, (aNG 0)]) w
theorem X6 (R : K1) (hr : HR pK R Q) (h : B1 R (g 15) w) : bD pg kU (aB 1 (aB 12 kE)) Q g w :=
 eL (kn := no) (l := []) h gT hr trivial
def sO (kn : K9) (nM jQ qJ rC uV vA vF dS qZ : aNF) (w : aNE) : Prop :=
 aD pg (aI .add 3 aM aM qZ (aNG 1)) w fun l9 w =>
 kn nM jQ qJ rC uV vA vF dS l9 w
theorem Y1 (kn : K9) (hn : N9 Q kn 2 8 10 11 12 13 14 15 16) (h : sO kn (g 2) (g 8) (g 10) (g 11) (g 12) (g 13) (g 14) (g 15) (g 16) w) : bD pg kU (aB 1 (aB 1 (bI (bI (aB 1 (aF 1 (aB 12 kE))))))) Q g w :=
 eL (kr := no) (l := []) h hn gT trivial
def uQ (kn : K9) (R : K1) (nM jQ qJ rC uV vA vF dS qZ aHS aiC : aNF) (w : aNE) : Prop :=
 aD pg (aL 45 rC) w fun n9 w =>
 aT pg Gk #[n9, aiC] w fun o1 w =>
 aD pg (bQ o1 0) w fun o2 w =>
 aD pg (bQ o1 1) w fun o3 w =>
 aD pg (fU 45) w fun aKC w =>
 aD pg (aR 45 aKC o2) w fun _u w =>
 aD pg (aL 45 aKC) w fun o4 w =>
 aD pg (aR 45 rC o4) w fun _u w =>
 aT pg BM #[jQ, o3, aHS] w fun o9 w =>
 aD pg (bQ o9 0) w fun p0 w =>
 aD pg (bQ o9 1) w fun p1 w =>
 aD pg (aI .neq 27 (.tmp 112) (.const (aNG 0)) p1 (aNG 0)) w fun p3 w =>
 gZ p3
  (R (.tuple #[(.string ⟨#[]⟩), p1]) w)
  (aD pg (aI .add 9 aM aM dS p0) w fun p7 w =>
  kn nM jQ qJ rC uV vA vF p7 qZ w)
theorem X2 (kn : K9) (R : K1) (hn : N9 Q kn 2 8 10 11 12 13 14 15 16) (hr : HR pK R Q) (h : uQ kn R (g 2) (g 8) (g 10) (g 11) (g 12) (g 13) (g 14) (g 15) (g 16) (g 17) (g 18) w) : bD pg kU (aB 3 (bI (aF 1 (aB 1 (bI (bI (aB 1 (aF 1 (aB 12 kE))))))))) Q g w :=
 eL (l := []) h hn hr trivial
def HH (kn : K11) (nM jQ qJ rC uV vA vF dS qZ : aNF) (w : aNE) : Prop :=
 aD pg (cV 43 4 [(0, uV), (1, vA), (2, vF), (3, (.int .u64 0))]) w fun m4 w =>
 aD pg (cI 43 m4 qZ) w fun m6 w =>
 aD pg (aL 24 m6) w fun m7 w =>
 aD pg (jG 24 3 m7) w fun m8 w =>
 aD pg (aI .eql 3 (.tmp 89) (.const (aNG 3)) qZ (aNG 3)) w fun n0 w =>
 gZ n0
  (aD pg (aI .mul 3 aM aM (aNG 3) qJ) w fun n3 w =>
  aD pg (aI .sub 3 aM aM nM n3) w fun n4 w =>
  aD pg (aK 45 rC 0) w fun n5 w =>
  aD pg (aL 9 n5) w fun n6 w =>
  aD pg (lG .len #[9] 3 [n6]) w fun n7 w =>
  kn nM jQ qJ rC uV vA vF dS qZ n4 n7 w)
  (kn nM jQ qJ rC uV vA vF dS qZ qJ m8 w)
theorem X3 (kn : K11) (hn : N11 Q kn 2 8 10 11 12 13 14 15 16 17 18) (h : HH kn (g 2) (g 8) (g 10) (g 11) (g 12) (g 13) (g 14) (g 15) (g 16) w) : bD pg kU (aF 3 (bI (aF 1 (aB 1 (bI (bI (aB 1 (aF 1 (aB 12 kE))))))))) Q g w :=
 eL (kr := no) (l := []) h hn gT trivial
def SM (kn : K9) (R : K1) (nM jQ qJ rC uV vA vF dS qZ : aNF) (w : aNE) : Prop :=
 HH (fun nM jQ qJ rC uV vA vF dS qZ aHS aiC w => uQ kn R nM jQ qJ rC uV vA vF dS qZ aHS aiC w) nM jQ qJ rC uV vA vF dS qZ w
def HE (kn : K9) (R : K1) (nM jQ qJ rC uV vA vF dS qZ : aNF) (w : aNE) : Prop :=
 SM kn R nM jQ qJ rC uV vA vF dS qZ w
def HI (kn : K9) (R : K1) (nM jQ qJ rC uV vA vF dS qZ : aNF) (w : aNE) : Prop :=
 HE (fun nM jQ qJ rC uV vA vF dS qZ w => sO kn nM jQ qJ rC uV vA vF dS qZ w) R nM jQ qJ rC uV vA vF dS qZ w
theorem Yq (kn : K9) (R : K1) (hn : N9 Q kn 2 8 10 11 12 13 14 15 16) (hr : HR pK R Q) (h : HE kn R (g 2) (g 8) (g 10) (g 11) (g 12) (g 13) (g 14) (g 15) (g 16) w) : bD pg kU (aF 1 (aB 1 (bI (bI (aB 1 (aF 1 (aB 12 kE))))))) Q g w :=
 wX 1 (jA 3 (X3 _ g w (uQ kn R) (fun g w h => aJ (X2 _ g w kn R hn hr h)) h))
def H4 (kn : K9) (k0 : K1) (nM jQ qJ rC uV vA vF dS qZ : aNF) (w : aNE) : Prop :=
 aD pg (aI .lss 3 aM aM qZ (aNG 4)) w fun l7 w =>
 gZ l7
  (kn nM jQ qJ rC uV vA vF dS qZ w)
  (k0 dS w)
theorem Y5 (kn : K9) (k0 : K1) (hn : N9 Q kn 2 8 10 11 12 13 14 15 16) (h0 : E1 Q k0 0 15) (h : H4 kn k0 (g 2) (g 8) (g 10) (g 11) (g 12) (g 13) (g 14) (g 15) (g 16) w) : bD pg kU (aF 1 (bI (bI (aB 1 (aF 1 (aB 12 kE)))))) Q g w :=
 eL (kr := no) (l := [(0, fun g w => k0 (g 15) w)]) h hn gT ⟨h0, trivial⟩
def Co (kn : K9) (k0 : K1) (R : K1) (nM jQ qJ rC uV vA vF dS qZ : aNF) (w : aNE) : Prop :=
 H4 (fun nM jQ qJ rC uV vA vF dS qZ w => HI kn R nM jQ qJ rC uV vA vF dS qZ w) k0 nM jQ qJ rC uV vA vF dS qZ w
def Fu (k0 : K1) (R : K1) (nM jQ qJ rC uV vA vF dS qZ : aNF) (w : aNE) : Prop :=
 cS (fun (X : (aNF × aNF) -> K0) (t : aNF × aNF) (w : aNE) => Co (fun _ _ _ _ _ _ _ dS qZ w => X (dS, qZ) w) k0 R nM jQ qJ rC uV vA vF t.1 t.2 w) (dS, qZ) w
theorem YS (kn : K9) (k0 : K1) (R : K1) (hn : N9 Q kn 2 8 10 11 12 13 14 15 16) (h0 : E1 Q k0 0 15) (hr : HR pK R Q) (h : Co kn k0 R (g 2) (g 8) (g 10) (g 11) (g 12) (g 13) (g 14) (g 15) (g 16) w) : bD pg kU (bI (bI (aB 1 (aF 1 (aB 12 kE))))) Q g w :=
 jA 1 (Y5 _ g w (HI kn R) k0 (fun g w h => aJ (jA 1 (Yq _ g w (sO kn) R (fun g w h => aJ (Y1 _ g w kn hn h)) hr h))) h0 h)
theorem WK (k0 : K1) (R : K1) (h0 : E1 Q k0 0 15) (hr : HR pK R Q) (h : Fu k0 R (g 2) (g 8) (g 10) (g 11) (g 12) (g 13) (g 14) (g 15) (g 16) w) : bD pg kU (bI (aB 1 (aF 1 (aB 12 kE)))) Q g w := by
 refine CS (fun g : Env => (g 15, g 16)) (fun X t w => Co (fun _ _ _ _ _ _ _ dS qZ w => X (dS, qZ) w) k0 R (g 2) (g 8) (g 10) (g 11) (g 12) (g 13) (g 14) t.1 t.2 w) h (fun X g1 w1 ha hL => ?_)
 rw [<- jX 2 ha, <- jX 8 ha, <- jX 10 ha, <- jX 11 ha, <- jX 12 ha, <- jX 13 ha, <- jX 14 ha] at hL
 exact (YS _ g1 w1 (fun _ _ _ _ _ _ _ dS qZ w => X (dS, qZ) w) k0 R (fun _ _ h => h) h0 hr hL)
def GY (kn : K1) (R : K1) (nM jQ qJ rC uV vA vF dS qZ : aNF) (w : aNE) : Prop :=
 Fu kn R nM jQ qJ rC uV vA vF dS qZ w
def GS (kn : K9) (nM jQ qJ rC uV vA vF dS : aNF) (w : aNE) : Prop :=
 kn nM jQ qJ rC uV vA vF dS (aNG 0) w
theorem W5 (kn : K9) (hn : N9 Q kn 2 8 10 11 12 13 14 15 16) (h : GS kn (g 2) (g 8) (g 10) (g 11) (g 12) (g 13) (g 14) (g 15) w) : bD pg kU (aF 1 (aF 1 (aB 12 kE))) Q g w :=
 eL (kr := no) (l := []) h hn gT trivial
def Fa (kn : K1) (R : K1) (nM jQ qJ rC uV vA vF dS : aNF) (w : aNE) : Prop :=
 GS (fun nM jQ qJ rC uV vA vF dS qZ w => GY kn R nM jQ qJ rC uV vA vF dS qZ w) nM jQ qJ rC uV vA vF dS w
def AX (R : K1) (nM jQ qJ rC uV vA vF dS : aNF) (w : aNE) : Prop :=
 Fa (fun dS w => B1 R dS w) R nM jQ qJ rC uV vA vF dS w
theorem Xr (kn : K1) (R : K1) (hn : N1 Q kn 15) (hr : HR pK R Q) (h : Fa kn R (g 2) (g 8) (g 10) (g 11) (g 12) (g 13) (g 14) (g 15) w) : bD pg kU (aF 1 (aB 12 kE)) Q g w :=
 jA 1 (W5 _ g w (GY kn R) (fun g w h => aJ (wX 0 (WK _ g w kn R hn hr h))) h)
def Gv (kn : K8) (R : K1) (xQ s_1 nM : aNF) (w : aNE) : Prop :=
 aT pg Av #[xQ] w fun d5 w =>
 aD pg (bQ d5 0) w fun d6 w =>
 aD pg (bQ d5 1) w fun d7 w =>
 aD pg (aI .neq 27 (.tmp 28) (.const (aNG 0)) d7 (aNG 0)) w fun d9 w =>
 gZ d9
  (R (.tuple #[(.string ⟨#[]⟩), d7]) w)
  (aD pg (aI .lss 3 aM aM nM (aNG 0)) w fun e2 w =>
  Gd (gJ e2 false) (fun K => K nM w) w fun e4 w =>
  Gd (gJ e2 false) (fun K => aD pg (aI .gtr 3 aM aM e4 (aNG 131072)) w K) w fun e5 w =>
  aD pg (iN e2 (.bool true) e5) w fun e6 w =>
  gZ e6
   (R (.tuple #[(.string ⟨#[]⟩), (aNG 1)]) w)
   (aD pg (aI .add 3 aM aM nM (aNG 3)) w fun e8 w =>
   aD pg (aI .quo 3 aM aM e8 (aNG 4)) w fun e9 w =>
   aD pg (aI .mul 3 aM aM (aNG 3) e9) w fun f1 w =>
   aD pg (aI .gtr 3 aM aM f1 nM) w fun f3 w =>
   gZ f3
    (R (.tuple #[(.string ⟨#[]⟩), (aNG 11)]) w)
    (aD pg (fT 45 [(0, s_1)]) w fun f5 w =>
    aD pg (fU 45) w fun rC w =>
    aD pg (aR 45 rC f5) w fun _u w =>
    aD pg (aL 45 rC) w fun f7 w =>
    aT pg vG #[f7, (aNG 2)] w fun f8 w =>
    aD pg (bQ f8 0) w fun f9 w =>
    aD pg (bQ f8 1) w fun i0 w =>
    aD pg (aR 45 rC f9) w fun _u w =>
    aD pg (aL 45 rC) w fun i2 w =>
    aT pg vG #[i2, (aNG 2)] w fun i3 w =>
    aD pg (bQ i3 0) w fun i4 w =>
    aD pg (bQ i3 1) w fun i5 w =>
    aD pg (aR 45 rC i4) w fun _u w =>
    aD pg (aL 45 rC) w fun i7 w =>
    aT pg vG #[i7, (aNG 2)] w fun i8 w =>
    aD pg (bQ i8 0) w fun i9 w =>
    aD pg (bQ i8 1) w fun j0 w =>
    aD pg (aR 45 rC i9) w fun _u w =>
    aD pg (aK 45 rC 1) w fun j1 w =>
    aD pg (aL 27 j1) w fun j2 w =>
    aD pg (aI .neq 27 (.tmp 62) (.const (aNG 0)) j2 (aNG 0)) w fun j3 w =>
    Gd (gJ j3 false) (fun K => aD pg (aK 45 rC 0) w K) w fun j5 w =>
    Gd (gJ j3 false) (fun K => aD pg (aL 9 j5) w K) w fun j6 w =>
    Gd (gJ j3 false) (fun K => aD pg (lG .len #[9] 3 [j6]) w K) w fun j7 w =>
    Gd (gJ j3 false) (fun K => aD pg (jG 3 24 j7) w K) w fun j8 w =>
    Gd (gJ j3 false) (fun K => K i0 w) w fun j9 w =>
    Gd (gJ j3 false) (fun K => K i5 w) w fun l0 w =>
    Gd (gJ j3 false) (fun K => aD pg (aI .add 24 aM aM j9 l0) w K) w fun l1 w =>
    Gd (gJ j3 false) (fun K => K j0 w) w fun l2 w =>
    Gd (gJ j3 false) (fun K => aD pg (aI .add 24 aM aM l1 l2) w K) w fun l3 w =>
    Gd (gJ j3 false) (fun K => aD pg (aI .lss 24 aM aM j8 l3) w K) w fun l4 w =>
    aD pg (iN j3 (.bool true) l4) w fun l5 w =>
    gZ l5
     (R (.tuple #[(.string ⟨#[]⟩), (aNG 10)]) w)
     (kn nM d6 e9 rC i0 i5 j0 (.string ⟨#[]⟩) w))))
theorem WT (kn : K8) (R : K1) (hn : N8 Q kn 2 8 10 11 12 13 14 15) (hr : HR pK R Q) (h : Gv kn R (g 0) (g 1) (g 2) w) : bD pg kU (aF 12 kE) Q g w :=
 eL (l := []) h hn hr trivial
def Gt (R : K1) (xQ s_1 nM : aNF) (w : aNE) : Prop :=
 Gv (fun nM jQ qJ rC uV vA vF dS w => AX R nM jQ qJ rC uV vA vF dS w) R xQ s_1 nM w
theorem Xf (R : K1) (hr : HR pK R Q) (h : Gt R (g 0) (g 1) (g 2) w) : bD pg kU kE Q g w :=
 jA 12 (WT _ g w (AX R) R (fun g w h => aJ (jA 1 (Xr _ g w (B1 R) R (fun g w h => aJ (X6 _ g w R hr h)) hr h))) hr h)
def ZD (a0 a1 a2 : aNF) (w : aNE) (R : K1) : Prop :=
 Gt R a0 a1 a2 w
theorem abH {a0 a1 a2 : aNF} {w : aNE} {R : K1} (h : ZD a0 a1 a2 w R) : aT pg DI #[a0, a1, a2] w R := by
 refine uO (ann := kU) Tryz.f23 kE [a0, a1, a2] pK 119 TryzM.mixed Tryz.func23 ?_
 exact (Xf _ _ _ R (fun _ _ h => h) h)
def zH : FA := ⟨yI, fun i => .leaf ([], []) []⟩
def Gu : List ResultVar := [.tmp 4]
noncomputable def xM : Code := dG Tryz.f24
def wF (R : K1) (w_5 : aNF) (w : aNE) : Prop :=
 aT pg rP #[w_5] w fun e7 w =>
 R e7 w
theorem Xd (R : K1) (hr : HR Gu R Q) (h : wF R (g 5) w) : bD pg zH (aB 3 xM) Q g w :=
 eL (kn := no) (l := []) h gT hr trivial
def EX (kn : K1) (avZ lW : aNF) (w : aNE) : Prop :=
 aT pg sQ #[] w fun b6 w =>
 aD pg (aI .lss 3 aM aM lW (aNG 32)) w fun c7 w =>
 gZ c7
  (aD pg (aI .shl 3 aM aM lW (.int .u64 3)) w fun d0 w =>
  aD pg (aI .or 3 aM aM d0 avZ) w fun d2 w =>
  aD pg (jG 3 24 d2) w fun d3 w =>
  aT pg lJ #[b6, d3, (aNG 1)] w fun d4 w =>
  kn b6 w)
  (aD pg (aI .lss 3 aM aM lW (aNG 4096)) w fun d7 w =>
  gZ d7
   (aD pg (aI .shl 3 aM aM lW (.int .u64 4)) w fun e0 w =>
   aD pg (aI .or 3 aM aM e0 (aNG 4)) w fun e1 w =>
   aD pg (aI .or 3 aM aM e1 avZ) w fun e3 w =>
   aD pg (jG 3 24 e3) w fun e4 w =>
   aT pg lJ #[b6, e4, (aNG 2)] w fun e5 w =>
   kn b6 w)
   (aD pg (aI .shl 3 aM aM lW (.int .u64 4)) w fun b9 w =>
   aD pg (aI .or 3 aM aM b9 (aNG 12)) w fun c0 w =>
   aD pg (aI .or 3 aM aM c0 avZ) w fun c2 w =>
   aD pg (jG 3 24 c2) w fun c3 w =>
   aT pg lJ #[b6, c3, (aNG 3)] w fun c4 w =>
   kn b6 w))
theorem Wk (kn : K1) (hn : N1 Q kn 5) (h : EX kn (g 0) (g 1) w) : bD pg zH (aF 3 xM) Q g w :=
 eL (kr := no) (l := []) h hn gT trivial
def FX (R : K1) (avZ lW : aNF) (w : aNE) : Prop :=
 EX (fun w_5 w => wF R w_5 w) avZ lW w
theorem VW (R : K1) (hr : HR Gu R Q) (h : FX R (g 0) (g 1) w) : bD pg zH xM Q g w :=
 jA 3 (Wk _ g w (wF R) (fun g w h => aJ (Xd _ g w R hr h)) h)
def Xk (a0 a1 : aNF) (w : aNE) (R : K1) : Prop :=
 FX R a0 a1 w
theorem Y2 {a0 a1 : aNF} {w : aNE} {R : K1} (h : Xk a0 a1 w R) : aT pg yI #[a0, a1] w R := by
 refine uO (ann := zH) Tryz.f24 xM [a0, a1] Gu 38 TryzM.mixed Tryz.func24 ?_
 exact (VW _ _ _ R (fun _ _ h => h) h)
def kP : FA := ⟨Ak, fun i => .leaf ([], []) []⟩
def B3 : List ResultVar := [.tmp 2, .tmp 3]
noncomputable def kD : Code := dG Tryz.f25
def Ca (R : K1) (aU : aNF) (w : aNE) : Prop :=
 R (.tuple #[aU, (aNG 0)]) w
theorem YN (R : K1) (hr : HR B3 R Q) (h : Ca R (g 5) w) : bD pg kP (aB 1 (aB 4 kD)) Q g w :=
 eL (kn := no) (l := []) h gT hr trivial
def yA (kn : K4) (cT Bh aU xD : aNF) (w : aNE) : Prop :=
 aD pg (aI .add 3 aM aM xD (aNG 2)) w fun d7 w =>
 kn cT Bh aU d7 w
theorem X8 (kn : K4) (hn : N4 Q kn 0 4 5 6) (h : yA kn (g 0) (g 4) (g 5) (g 6) w) : bD pg kP (aB 1 (aB 1 (bI (bI (aB 1 (aF 1 (aB 4 kD))))))) Q g w :=
 eL (kr := no) (l := []) h hn gT trivial
def xS (kn : K4) (cT Bh aU xD c_7 : aNF) (w : aNE) : Prop :=
 aD pg (cV 22 1 [(0, c_7)]) w fun f6 w =>
 aD pg (lG .append #[22, 22] 22 [aU, f6]) w fun f7 w =>
 kn cT Bh f7 xD w
theorem Yr (kn : K4) (hn : N4 Q kn 0 4 5 6) (h : xS kn (g 0) (g 4) (g 5) (g 6) (g 7) w) : bD pg kP (aB 2 (bI (aF 1 (aB 1 (bI (bI (aB 1 (aF 1 (aB 4 kD))))))))) Q g w :=
 eL (kr := no) (l := []) h hn gT trivial
def Hv (kn : K5) (cT Bh aU xD : aNF) (w : aNE) : Prop :=
 aD pg (cI 22 cT xD) w fun e0 w =>
 aD pg (aL 5 e0) w fun e1 w =>
 aD pg (aI .shl 5 aM aM e1 (.int .u64 4)) w fun e2 w =>
 aD pg (aI .add 3 aM aM xD (aNG 1)) w fun e4 w =>
 aD pg (aI .lss 3 aM aM e4 Bh) w fun e6 w =>
 gZ e6
  (aD pg (aI .add 3 aM aM xD (aNG 1)) w fun f0 w =>
  aD pg (cI 22 cT f0) w fun f1 w =>
  aD pg (aL 5 f1) w fun f2 w =>
  aD pg (aI .or 5 aM aM e2 f2) w fun f3 w =>
  kn cT Bh aU xD f3 w)
  (kn cT Bh aU xD e2 w)
theorem Ym (kn : K5) (hn : N5 Q kn 0 4 5 6 7) (h : Hv kn (g 0) (g 4) (g 5) (g 6) w) : bD pg kP (aF 2 (bI (aF 1 (aB 1 (bI (bI (aB 1 (aF 1 (aB 4 kD))))))))) Q g w :=
 eL (kr := no) (l := []) h hn gT trivial
def Ss (kn : K4) (cT Bh aU xD : aNF) (w : aNE) : Prop :=
 Hv (fun cT Bh aU xD c_7 w => xS kn cT Bh aU xD c_7 w) cT Bh aU xD w
def HV (kn : K4) (cT Bh aU xD : aNF) (w : aNE) : Prop :=
 Ss kn cT Bh aU xD w
def HS (kn : K4) (cT Bh aU xD : aNF) (w : aNE) : Prop :=
 HV (fun cT Bh aU xD w => yA kn cT Bh aU xD w) cT Bh aU xD w
theorem Y0 (kn : K4) (hn : N4 Q kn 0 4 5 6) (h : HV kn (g 0) (g 4) (g 5) (g 6) w) : bD pg kP (aF 1 (aB 1 (bI (bI (aB 1 (aF 1 (aB 4 kD))))))) Q g w :=
 wX 2 (jA 2 (Ym _ g w (xS kn) (fun g w h => aJ (Yr _ g w kn hn h)) h))
def Ix (kn : K4) (k1 : K1) (cT Bh aU xD : aNF) (w : aNE) : Prop :=
 aD pg (aI .lss 3 aM aM xD Bh) w fun d5 w =>
 gZ d5
  (kn cT Bh aU xD w)
  (k1 aU w)
theorem YY (kn : K4) (k1 : K1) (hn : N4 Q kn 0 4 5 6) (h1 : E1 Q k1 1 5) (h : Ix kn k1 (g 0) (g 4) (g 5) (g 6) w) : bD pg kP (aF 1 (bI (bI (aB 1 (aF 1 (aB 4 kD)))))) Q g w :=
 eL (kr := no) (l := [(1, fun g w => k1 (g 5) w)]) h hn gT ⟨h1, trivial⟩
def BY (kn : K4) (k1 : K1) (cT Bh aU xD : aNF) (w : aNE) : Prop :=
 Ix (fun cT Bh aU xD w => HS kn cT Bh aU xD w) k1 cT Bh aU xD w
def GV (k1 : K1) (cT Bh aU xD : aNF) (w : aNE) : Prop :=
 cS (fun (X : (aNF × aNF) -> K0) (t : aNF × aNF) (w : aNE) => BY (fun _ _ aU xD w => X (aU, xD) w) k1 cT Bh t.1 t.2 w) (aU, xD) w
theorem Yh (kn : K4) (k1 : K1) (hn : N4 Q kn 0 4 5 6) (h1 : E1 Q k1 1 5) (h : BY kn k1 (g 0) (g 4) (g 5) (g 6) w) : bD pg kP (bI (bI (aB 1 (aF 1 (aB 4 kD))))) Q g w :=
 jA 1 (YY _ g w (HS kn) k1 (fun g w h => aJ (jA 1 (Y0 _ g w (yA kn) (fun g w h => aJ (X8 _ g w kn hn h)) h))) h1 h)
theorem Xl (k1 : K1) (h1 : E1 Q k1 1 5) (h : GV k1 (g 0) (g 4) (g 5) (g 6) w) : bD pg kP (bI (aB 1 (aF 1 (aB 4 kD)))) Q g w := by
 refine CS (fun g : Env => (g 5, g 6)) (fun X t w => BY (fun _ _ aU xD w => X (aU, xD) w) k1 (g 0) (g 4) t.1 t.2 w) h (fun X g1 w1 ha hL => ?_)
 rw [<- jX 0 ha, <- jX 4 ha] at hL
 exact (Yh _ g1 w1 (fun _ _ aU xD w => X (aU, xD) w) k1 (fun _ _ h => h) h1 hL)
def ET (kn : K1) (cT Bh aU xD : aNF) (w : aNE) : Prop :=
 GV kn cT Bh aU xD w
def Gg (kn : K4) (cT Bh aU : aNF) (w : aNE) : Prop :=
 kn cT Bh aU (aNG 0) w
theorem XB (kn : K4) (hn : N4 Q kn 0 4 5 6) (h : Gg kn (g 0) (g 4) (g 5) w) : bD pg kP (aF 1 (aF 1 (aB 4 kD))) Q g w :=
 eL (kr := no) (l := []) h hn gT trivial
def EY (kn : K1) (cT Bh aU : aNF) (w : aNE) : Prop :=
 Gg (fun cT Bh aU xD w => ET kn cT Bh aU xD w) cT Bh aU w
def Fy (R : K1) (cT Bh aU : aNF) (w : aNE) : Prop :=
 EY (fun aU w => Ca R aU w) cT Bh aU w
theorem V2 (kn : K1) (hn : N1 Q kn 5) (h : EY kn (g 0) (g 4) (g 5) w) : bD pg kP (aF 1 (aB 4 kD)) Q g w :=
 jA 1 (XB _ g w (ET kn) (fun g w h => aJ (wX 1 (Xl _ g w kn hn h))) h)
def A6 (kn : K3) (R : K1) (cT : aNF) (w : aNE) : Prop :=
 aT pg Ah #[cT] w fun c0 w =>
 aD pg (aI .eql 3 (.tmp 10) (.const (aNG 0)) c0 (aNG 0)) w fun c1 w =>
 gZ c1
  (R (.tuple #[(.slice none 0 0), (aNG 1)]) w)
  (aD pg (lG .len #[22] 3 [cT]) w fun c4 w =>
  aD pg (aI .gtr 3 aM aM c4 (aNG 129)) w fun c5 w =>
  gZ c5
   (R (.tuple #[(.slice none 0 0), (aNG 12)]) w)
   (aD pg (lG .len #[22] 3 [cT]) w fun c7 w =>
   aD pg (aI .sub 3 aM aM c7 (aNG 1)) w fun c8 w =>
   aD pg (aI .add 3 aM aM (aNG 127) c8) w fun d0 w =>
   aD pg (jG 3 5 d0) w fun d1 w =>
   aD pg (cV 22 1 [(0, d1)]) w fun d2 w =>
   kn cT c8 d2 w))
theorem WM (kn : K3) (R : K1) (hn : N3 Q kn 0 4 5) (hr : HR B3 R Q) (h : A6 kn R (g 0) w) : bD pg kP (aF 4 kD) Q g w :=
 eL (l := []) h hn hr trivial
def A2 (R : K1) (cT : aNF) (w : aNE) : Prop :=
 A6 (fun cT Bh aU w => Fy R cT Bh aU w) R cT w
theorem Xv (R : K1) (hr : HR B3 R Q) (h : A2 R (g 0) w) : bD pg kP kD Q g w :=
 jA 4 (WM _ g w (Fy R) R (fun g w h => aJ (jA 1 (V2 _ g w (Ca R) (fun g w h => aJ (YN _ g w R hr h)) h))) hr h)
def Sf (a0 : aNF) (w : aNE) (R : K1) : Prop :=
 A2 R a0 w
theorem Ph {a0 : aNF} {w : aNE} {R : K1} (h : Sf a0 w R) : aT pg Ak #[a0] w R := by
 refine uO (ann := kP) Tryz.f25 kD [a0] B3 49 TryzM.mixed Tryz.func25 ?_
 exact (Xv _ _ _ R (fun _ _ h => h) h)
def Hj : FA := ⟨xO, fun i => .leaf ([], []) []⟩
def Jz : List ResultVar := [.tmp 4, .tmp 5]
noncomputable def Gl : Code := dG Tryz.f26
def Bm (R : K1) (cT cG : aNF) (w : aNE) : Prop :=
 aD pg (lG .len #[22] 3 [cG]) w fun b7 w =>
 aD pg (aI .lss 3 aM aM b7 (aNG 256)) w fun b8 w =>
 gZ b8
  (aT pg IX #[cT, cG] w fun c1 w =>
  aD pg (bQ c1 0) w fun c2 w =>
  aD pg (bQ c1 1) w fun c3 w =>
  R (.tuple #[c2, c3]) w)
  (aT pg G3 #[cT, cG] w fun c6 w =>
  aD pg (bQ c6 0) w fun c7 w =>
  aD pg (bQ c6 1) w fun c8 w =>
  R (.tuple #[c7, c8]) w)
theorem SP (R : K1) (hr : HR Jz R Q) (h : Bm R (g 0) (g 1) w) : bD pg Hj Gl Q g w :=
 eL (kn := no) (l := []) h gT hr trivial
def Qy (a0 a1 : aNF) (w : aNE) (R : K1) : Prop :=
 Bm R a0 a1 w
theorem Ud {a0 a1 : aNF} {w : aNE} {R : K1} (h : Qy a0 a1 w R) : aT pg xO #[a0, a1] w R := by
 refine uO (ann := Hj) Tryz.f26 Gl [a0, a1] Jz 19 TryzM.mixed Tryz.func26 ?_
 exact (SP _ _ _ R (fun _ _ h => h) h)
def Jn : FA := ⟨sQ, fun i => .leaf ([], []) []⟩
def L7 : List ResultVar := [.tmp 0]
noncomputable def Ho : Code := dG Tryz.f27
def Cx (R : K1)  (w : aNE) : Prop :=
 aD pg (fT 90 []) w fun b1 w =>
 aD pg (B5 90 b1) w fun b2 w =>
 R b2 w
theorem TE (R : K1) (hr : HR L7 R Q) (h : Cx R w) : bD pg Jn Ho Q g w :=
 eL (kn := no) (l := []) h gT hr trivial
def Tl (w : aNE) (R : K1) : Prop :=
 Cx R w
theorem Vr {w : aNE} {R : K1} (h : Tl w R) : aT pg sQ #[] w R := by
 refine uO (ann := Jn) Tryz.f27 Ho [] L7 3 TryzM.mixed Tryz.func27 ?_
 exact (TE _ _ _ R (fun _ _ h => h) h)
def qA : FA := ⟨lJ, fun i => .leaf ([], []) []⟩
def yJ : List ResultVar := []
noncomputable def pO : Code := dG Tryz.f28
def tR (kn : K4) (k0 : K0) (xQ Hh c7 c8 : aNF) (w : aNE) : Prop :=
 aD pg (aI .lss 3 aM aM c8 c7) w fun c9 w =>
 gZ c9
  (aD pg (vW xQ) w fun d3 w =>
  aD pg (aK 90 d3 0) w fun d4 w =>
  aD pg (aL 22 d4) w fun d5 w =>
  aD pg (aI .mul 3 aM aM (aNG 8) c8) w fun d8 w =>
  aD pg (jG 3 67 d8) w fun d9 w =>
  aD pg (aI .shr 24 aM aM Hh d9) w fun e0 w =>
  aD pg (jG 24 5 e0) w fun e1 w =>
  aD pg (cV 22 1 [(0, e1)]) w fun e2 w =>
  aD pg (lG .append #[22, 22] 22 [d5, e2]) w fun e3 w =>
  aD pg (vW xQ) w fun e4 w =>
  aD pg (aK 90 e4 0) w fun e5 w =>
  aD pg (aR 22 e5 e3) w fun _u w =>
  aD pg (aI .add 3 aM aM c8 (aNG 1)) w fun e6 w =>
  kn xQ Hh c7 e6 w)
  (k0 w)
theorem NT (kn : K4) (k0 : K0) (hn : N4 Q kn 0 1 17 18) (h0 : E0 Q k0 0) (h : tR kn k0 (g 0) (g 1) (g 17) (g 18) w) : bD pg qA (bI (bI (aB 2 pO))) Q g w :=
 eL (kr := no) (l := [(0, fun g w => k0 w)]) h hn gT ⟨h0, trivial⟩
def yN (k0 : K0) (xQ Hh c7 c8 : aNF) (w : aNE) : Prop :=
 cS (fun (X : aNF -> K0) (t : aNF) (w : aNE) => tR (fun _ _ _ c8 w => X c8 w) k0 xQ Hh c7 t w) c8 w
theorem PL (k0 : K0) (h0 : E0 Q k0 0) (h : yN k0 (g 0) (g 1) (g 17) (g 18) w) : bD pg qA (bI (aB 2 pO)) Q g w := by
 refine CS (fun g : Env => g 18) (fun X t w => tR (fun _ _ _ c8 w => X c8 w) k0 (g 0) (g 1) (g 17) t w) h (fun X g1 w1 ha hL => ?_)
 rw [<- jX 0 ha, <- jX 1 ha, <- jX 17 ha] at hL
 exact (NT _ g1 w1 (fun _ _ _ c8 w => X c8 w) k0 (fun _ _ h => h) h0 hL)
def yT (kn : K0) (xQ Hh c7 c8 : aNF) (w : aNE) : Prop :=
 yN kn xQ Hh c7 c8 w
def yY (kn : K4) (R : K1) (xQ Hh nM : aNF) (w : aNE) : Prop :=
 aD pg (aI .eql 64 (.tmp 7) (.const (.pointer none)) xQ (.pointer none)) w fun b8 w =>
 Gd (gJ b8 false) (fun K => K nM w) w fun c0 w =>
 Gd (gJ b8 false) (fun K => aD pg (aI .lss 3 aM aM c0 (aNG 1)) w K) w fun c1 w =>
 aD pg (iN b8 (.bool true) c1) w fun c2 w =>
 Gd (gJ c2 false) (fun K => K nM w) w fun c4 w =>
 Gd (gJ c2 false) (fun K => aD pg (aI .gtr 3 aM aM c4 (aNG 8)) w K) w fun c5 w =>
 aD pg (iN c2 (.bool true) c5) w fun c6 w =>
 gZ c6
  (R (.tuple #[]) w)
  (kn xQ Hh nM (aNG 0) w)
theorem NB (kn : K4) (R : K1) (hn : N4 Q kn 0 1 17 18) (hr : HR yJ R Q) (h : yY kn R (g 0) (g 1) (g 2) w) : bD pg qA (aF 2 pO) Q g w :=
 eL (l := []) h hn hr trivial
def yC (kn : K0) (R : K1) (xQ Hh nM : aNF) (w : aNE) : Prop :=
 yY (fun xQ Hh c7 c8 w => yT kn xQ Hh c7 c8 w) R xQ Hh nM w
theorem O7 (kn : K0) (R : K1) (hn : N0 Q kn) (hr : HR yJ R Q) (h : yC kn R (g 0) (g 1) (g 2) w) : bD pg qA pO Q g w :=
 jA 2 (NB _ g w (yT kn) R (fun g w h => aJ (wX 0 (PL _ g w kn hn h))) hr h)
def Jj (a0 a1 a2 : aNF) (w : aNE) (R : K1) : Prop :=
 yC (fun  w => R (.tuple #[]) w) R a0 a1 a2 w
theorem P5 {a0 a1 a2 : aNF} {w : aNE} {R : K1} (h : Jj a0 a1 a2 w R) : aT pg lJ #[a0, a1, a2] w R := by
 refine uO (ann := qA) Tryz.f28 pO [a0, a1, a2] yJ 37 TryzM.mixed Tryz.func28 ?_
 exact (O7 _ _ _ (fun  w => R (.tuple #[]) w) R (fun _ _ h => h) (fun _ _ h => h) h)
def EB : FA := ⟨sF, fun i => .leaf ([], []) []⟩
def TL : List ResultVar := []
noncomputable def CM : Code := dG Tryz.f29
def zE (kn : K0) (xQ b_1 : aNF) (w : aNE) : Prop :=
 aD pg (aI .neq 64 (.tmp 4) (.const (.pointer none)) xQ (.pointer none)) w fun b5 w =>
 gZ b5
  (aD pg (vW xQ) w fun b8 w =>
  aD pg (aK 90 b8 0) w fun b9 w =>
  aD pg (aL 22 b9) w fun c0 w =>
  aD pg (lG .append #[22, 22] 22 [c0, b_1]) w fun c2 w =>
  aD pg (vW xQ) w fun c3 w =>
  aD pg (aK 90 c3 0) w fun c4 w =>
  aD pg (aR 22 c4 c2) w fun _u w =>
  kn w)
  (kn w)
theorem P6 (kn : K0) (hn : N0 Q kn) (h : zE kn (g 0) (g 1) w) : bD pg EB CM Q g w :=
 eL (kr := no) (l := []) h hn gT trivial
def L5 (a0 a1 : aNF) (w : aNE) (R : K1) : Prop :=
 zE (fun  w => R (.tuple #[]) w) a0 a1 w
theorem Q9 {a0 a1 : aNF} {w : aNE} {R : K1} (h : L5 a0 a1 w R) : aT pg sF #[a0, a1] w R := by
 refine uO (ann := EB) Tryz.f29 CM [a0, a1] TL 15 TryzM.mixed Tryz.func29 ?_
 exact (P6 _ _ _ (fun  w => R (.tuple #[]) w) (fun _ _ h => h) h)
def Hd : FA := ⟨rP, fun i => .leaf ([], []) []⟩
def Jw : List ResultVar := [.tmp 2]
noncomputable def Gj : Code := dG Tryz.f30
def BC (R : K1) (xQ : aNF) (w : aNE) : Prop :=
 aD pg (aI .eql 64 (.tmp 3) (.const (.pointer none)) xQ (.pointer none)) w fun b4 w =>
 gZ b4
  (R (.slice none 0 0) w)
  (aD pg (vW xQ) w fun b6 w =>
  aD pg (aK 90 b6 0) w fun b7 w =>
  aD pg (aL 22 b7) w fun b8 w =>
  aT pg jS #[b8] w fun b9 w =>
  R b9 w)
theorem SQ (R : K1) (hr : HR Jw R Q) (h : BC R (g 0) w) : bD pg Hd Gj Q g w :=
 eL (kn := no) (l := []) h gT hr trivial
def Qj (a0 : aNF) (w : aNE) (R : K1) : Prop :=
 BC R a0 w
theorem TX {a0 : aNF} {w : aNE} {R : K1} (h : Qj a0 w R) : aT pg rP #[a0] w R := by
 refine uO (ann := Hd) Tryz.f30 Gj [a0] Jw 10 TryzM.mixed Tryz.func30 ?_
 exact (SQ _ _ _ R (fun _ _ h => h) h)
def uP : FA := ⟨Jr, fun i => .leaf ([], []) []⟩
def Cg : List ResultVar := [.tmp 2]
noncomputable def sY : Code := dG Tryz.f31
def Mm (R : K1)  (w : aNE) : Prop :=
 R (aNG (-1)) w
theorem atY (R : K1) (hr : HR Cg R Q) (h : Mm R w) : bD pg uP (aB 1 (aB 1 sY)) Q g w :=
 eL (kn := no) (l := []) h gT hr trivial
def MD (kn : K2) (k0 : K0) (R : K1) (oJ PV : aNF) (w : aNE) : Prop :=
 aD pg (aI .lss 3 aM aM PV (aNG 20)) w fun b5 w =>
 gZ b5
  (aT pg nZ #[PV] w fun b9 w =>
  aD pg (aI .eql 3 (.tmp 9) (.tmp 10) b9 oJ) w fun c1 w =>
  gZ c1
   (R PV w)
   (aD pg (aI .add 3 aM aM PV (aNG 1)) w fun b7 w =>
   kn oJ b7 w))
  (k0 w)
theorem atK (kn : K2) (k0 : K0) (R : K1) (hn : N2 Q kn 0 3) (h0 : E0 Q k0 0) (hr : HR Cg R Q) (h : MD kn k0 R (g 0) (g 3) w) : bD pg uP (bI (bI (aB 1 (aF 1 (aB 1 sY))))) Q g w :=
 eL (l := [(0, fun g w => k0 w)]) h hn hr ⟨h0, trivial⟩
def TQ (k0 : K0) (R : K1) (oJ PV : aNF) (w : aNE) : Prop :=
 cS (fun (X : aNF -> K0) (t : aNF) (w : aNE) => MD (fun _ PV w => X PV w) k0 R oJ t w) PV w
theorem auV (k0 : K0) (R : K1) (h0 : E0 Q k0 0) (hr : HR Cg R Q) (h : TQ k0 R (g 0) (g 3) w) : bD pg uP (bI (aB 1 (aF 1 (aB 1 sY)))) Q g w := by
 refine CS (fun g : Env => g 3) (fun X t w => MD (fun _ PV w => X PV w) k0 R (g 0) t w) h (fun X g1 w1 ha hL => ?_)
 rw [<- jX 0 ha] at hL
 exact (atK _ g1 w1 (fun _ PV w => X PV w) k0 R (fun _ _ h => h) h0 hr hL)
def TR (kn : K0) (R : K1) (oJ PV : aNF) (w : aNE) : Prop :=
 TQ kn R oJ PV w
def Ub (kn : K2) (oJ : aNF) (w : aNE) : Prop :=
 kn oJ (aNG 0) w
theorem atV (kn : K2) (hn : N2 Q kn 0 3) (h : Ub kn (g 0) w) : bD pg uP (aF 1 (aF 1 (aB 1 sY))) Q g w :=
 eL (kr := no) (l := []) h hn gT trivial
def TF (kn : K0) (R : K1) (oJ : aNF) (w : aNE) : Prop :=
 Ub (fun oJ PV w => TR kn R oJ PV w) oJ w
def TI (R : K1) (oJ : aNF) (w : aNE) : Prop :=
 TF (fun  w => Mm R w) R oJ w
theorem avM (kn : K0) (R : K1) (hn : N0 Q kn) (hr : HR Cg R Q) (h : TF kn R (g 0) w) : bD pg uP (aF 1 (aB 1 sY)) Q g w :=
 jA 1 (atV _ g w (TR kn R) (fun g w h => aJ (wX 0 (auV _ g w kn R hn hr h))) h)
def Ul (kn : K1) (oJ : aNF) (w : aNE) : Prop :=
 kn oJ w
theorem auL (kn : K1) (hn : N1 Q kn 0) (h : Ul kn (g 0) w) : bD pg uP (aF 1 sY) Q g w :=
 eL (kr := no) (l := []) h hn gT trivial
def Ty (R : K1) (oJ : aNF) (w : aNE) : Prop :=
 Ul (fun oJ w => TI R oJ w) oJ w
theorem auW (R : K1) (hr : HR Cg R Q) (h : Ty R (g 0) w) : bD pg uP sY Q g w :=
 jA 1 (auL _ g w (TI R) (fun g w h => aJ (jA 1 (avM _ g w (fun  w => Mm R w) R (fun g w h => aJ (atY _ g w R hr h)) hr h))) h)
def aA2 (a0 : aNF) (w : aNE) (R : K1) : Prop :=
 Ty R a0 w
theorem azD {a0 : aNF} {w : aNE} {R : K1} (h : aA2 a0 w R) : aT pg Jr #[a0] w R := by
 refine uO (ann := uP) Tryz.f31 sY [a0] Cg 13 TryzM.mixed Tryz.func31 ?_
 exact (auW _ _ _ R (fun _ _ h => h) h)
def pG : FA := ⟨CR, fun i => .leaf ([], []) []⟩
def uZ : List ResultVar := [.tmp 2]
noncomputable def oB : Code := dG Tryz.f32
def FT (R : K1) (gF : aNF) (w : aNE) : Prop :=
 R gF w
theorem akK (R : K1) (hr : HR uZ R Q) (h : FT R (g 3) w) : bD pg pG (aB 1 (aB 2 oB)) Q g w :=
 eL (kn := no) (l := []) h gT hr trivial
def EZ (kn : K3) (cT gF lF : aNF) (w : aNE) : Prop :=
 aD pg (aI .add 3 aM aM lF (aNG 1)) w fun c0 w =>
 kn cT gF c0 w
theorem akY (kn : K3) (hn : N3 Q kn 0 3 4) (h : EZ kn (g 0) (g 3) (g 4) w) : bD pg pG (aB 2 (bI (bI (aB 1 (aF 1 (aB 2 oB)))))) Q g w :=
 eL (kr := no) (l := []) h hn gT trivial
def Nv (kn : K3) (k0 : K1) (R : K1) (cT gF lF : aNF) (w : aNE) : Prop :=
 aD pg (lG .len #[9] 3 [cT]) w fun b7 w =>
 aD pg (aI .lss 3 aM aM lF b7) w fun b8 w =>
 gZ b8
  (aD pg (DX 9 cT lF) w fun c3 w =>
  aD pg (aI .gtr 5 aM aM c3 (.int .u8 11)) w fun c4 w =>
  gZ c4
   (R (aNG (-1)) w)
   (aD pg (DX 9 cT lF) w fun c7 w =>
   aD pg (aI .gtr 5 aM aM c7 (.int .u8 0)) w fun c8 w =>
   gZ c8
    (aD pg (DX 9 cT lF) w fun d2 w =>
    aD pg (jG 5 3 d2) w fun d3 w =>
    aD pg (aI .sub 3 aM aM d3 (aNG 1)) w fun d4 w =>
    aT pg nZ #[d4] w fun d5 w =>
    aD pg (aI .add 3 aM aM gF d5) w fun d6 w =>
    kn cT d6 lF w)
    (kn cT gF lF w)))
  (k0 gF w)
theorem aiR (kn : K3) (k0 : K1) (R : K1) (hn : N3 Q kn 0 3 4) (h0 : E1 Q k0 0 3) (hr : HR uZ R Q) (h : Nv kn k0 R (g 0) (g 3) (g 4) w) : bD pg pG (aF 2 (bI (bI (aB 1 (aF 1 (aB 2 oB)))))) Q g w :=
 eL (l := [(0, fun g w => k0 (g 3) w)]) h hn hr ⟨h0, trivial⟩
def F2 (kn : K3) (k0 : K1) (R : K1) (cT gF lF : aNF) (w : aNE) : Prop :=
 Nv (fun cT gF lF w => EZ kn cT gF lF w) k0 R cT gF lF w
def Nx (k0 : K1) (R : K1) (cT gF lF : aNF) (w : aNE) : Prop :=
 cS (fun (X : (aNF × aNF) -> K0) (t : aNF × aNF) (w : aNE) => F2 (fun _ gF lF w => X (gF, lF) w) k0 R cT t.1 t.2 w) (gF, lF) w
theorem agR (kn : K3) (k0 : K1) (R : K1) (hn : N3 Q kn 0 3 4) (h0 : E1 Q k0 0 3) (hr : HR uZ R Q) (h : F2 kn k0 R (g 0) (g 3) (g 4) w) : bD pg pG (bI (bI (aB 1 (aF 1 (aB 2 oB))))) Q g w :=
 jA 2 (aiR _ g w (EZ kn) k0 R (fun g w h => aJ (akY _ g w kn hn h)) h0 hr h)
theorem ajN (k0 : K1) (R : K1) (h0 : E1 Q k0 0 3) (hr : HR uZ R Q) (h : Nx k0 R (g 0) (g 3) (g 4) w) : bD pg pG (bI (aB 1 (aF 1 (aB 2 oB)))) Q g w := by
 refine CS (fun g : Env => (g 3, g 4)) (fun X t w => F2 (fun _ gF lF w => X (gF, lF) w) k0 R (g 0) t.1 t.2 w) h (fun X g1 w1 ha hL => ?_)
 rw [<- jX 0 ha] at hL
 exact (agR _ g1 w1 (fun _ gF lF w => X (gF, lF) w) k0 R (fun _ _ h => h) h0 hr hL)
def Px (kn : K1) (R : K1) (cT gF lF : aNF) (w : aNE) : Prop :=
 Nx kn R cT gF lF w
def Oz (kn : K3) (cT gF : aNF) (w : aNE) : Prop :=
 kn cT gF (aNG 0) w
theorem afF (kn : K3) (hn : N3 Q kn 0 3 4) (h : Oz kn (g 0) (g 3) w) : bD pg pG (aF 1 (aF 1 (aB 2 oB))) Q g w :=
 eL (kr := no) (l := []) h hn gT trivial
def Pz (kn : K1) (R : K1) (cT gF : aNF) (w : aNE) : Prop :=
 Oz (fun cT gF lF w => Px kn R cT gF lF w) cT gF w
def PB (R : K1) (cT gF : aNF) (w : aNE) : Prop :=
 Pz (fun gF w => FT R gF w) R cT gF w
theorem afL (kn : K1) (R : K1) (hn : N1 Q kn 3) (hr : HR uZ R Q) (h : Pz kn R (g 0) (g 3) w) : bD pg pG (aF 1 (aB 2 oB)) Q g w :=
 jA 1 (afF _ g w (Px kn R) (fun g w h => aJ (wX 0 (ajN _ g w kn R hn hr h))) h)
def JL (kn : K2) (cT : aNF) (w : aNE) : Prop :=
 kn cT (aNG 0) w
theorem aeJ (kn : K2) (hn : N2 Q kn 0 3) (h : JL kn (g 0) w) : bD pg pG (aF 2 oB) Q g w :=
 eL (kr := no) (l := []) h hn gT trivial
def JF (R : K1) (cT : aNF) (w : aNE) : Prop :=
 JL (fun cT gF w => PB R cT gF w) cT w
theorem ZF (R : K1) (hr : HR uZ R Q) (h : JF R (g 0) w) : bD pg pG oB Q g w :=
 jA 2 (aeJ _ g w (PB R) (fun g w h => aJ (jA 1 (afL _ g w (FT R) R (fun g w h => aJ (akK _ g w R hr h)) hr h))) h)
def arJ (a0 : aNF) (w : aNE) (R : K1) : Prop :=
 JF R a0 w
theorem arD {a0 : aNF} {w : aNE} {R : K1} (h : arJ a0 w R) : aT pg CR #[a0] w R := by
 refine uO (ann := pG) Tryz.f32 oB [a0] uZ 28 TryzM.mixed Tryz.func32 ?_
 exact (ZF _ _ _ R (fun _ _ h => h) h)
def VX : FA := ⟨Gk, fun i => .leaf ([], []) []⟩
def ZA : List ResultVar := [.cell 4 45, .tmp 5]
noncomputable def Uu : Code := dG Tryz.f33
def QN (R : K1) (Ns lW : aNF) (w : aNE) : Prop :=
 aD pg (B5 45 Ns) w fun HF w =>
 aD pg (fU 45) w fun b4 w =>
 aD pg (aK 45 HF 1) w fun b7 w =>
 aD pg (aL 27 b7) w fun b8 w =>
 aD pg (aI .neq 27 (.tmp 8) (.const (aNG 0)) b8 (aNG 0)) w fun b9 w =>
 gZ b9
  (aD pg (aL 45 HF) w fun c0 w =>
  aD pg (aR 45 b4 c0) w fun _u w =>
  An pg 45 b4 w fun r0 => R (.tuple #[r0, (.string ⟨#[]⟩)]) w)
  (aD pg (aI .lss 3 aM aM lW (aNG 0)) w fun c2 w =>
  gZ c2
   (aD pg (aK 45 HF 1) w fun c3 w =>
   aD pg (aR 27 c3 (aNG 1)) w fun _u w =>
   aD pg (aL 45 HF) w fun c4 w =>
   aD pg (aR 45 b4 c4) w fun _u w =>
   An pg 45 b4 w fun r0 => R (.tuple #[r0, (.string ⟨#[]⟩)]) w)
   (aD pg (aK 45 HF 0) w fun c6 w =>
   aD pg (aL 9 c6) w fun c7 w =>
   aD pg (lG .len #[9] 3 [c7]) w fun c8 w =>
   aD pg (aI .gtr 3 aM aM lW c8) w fun c9 w =>
   gZ c9
    (aD pg (aK 45 HF 1) w fun d0 w =>
    aD pg (aR 27 d0 (aNG 10)) w fun _u w =>
    aD pg (aL 45 HF) w fun d1 w =>
    aD pg (aR 45 b4 d1) w fun _u w =>
    An pg 45 b4 w fun r0 => R (.tuple #[r0, (.string ⟨#[]⟩)]) w)
    (aD pg (aK 45 HF 0) w fun d2 w =>
    aD pg (aL 9 d2) w fun d3 w =>
    aD pg (lZ 9 d3 none (some lW) none) w fun d5 w =>
    aD pg (aK 45 HF 0) w fun d6 w =>
    aD pg (aL 9 d6) w fun d7 w =>
    aD pg (lZ 9 d7 (some lW) none none) w fun d9 w =>
    aD pg (aK 45 HF 0) w fun e0 w =>
    aD pg (aR 9 e0 d9) w fun _u w =>
    aD pg (aL 45 HF) w fun e1 w =>
    aD pg (aR 45 b4 e1) w fun _u w =>
    An pg 45 b4 w fun r0 => R (.tuple #[r0, d5]) w)))
theorem aqT (R : K1) (hr : HR ZA R Q) (h : QN R (g 0) (g 1) w) : bD pg VX Uu Q g w :=
 eL (kn := no) (l := []) h gT hr trivial
def awR (a0 a1 : aNF) (w : aNE) (R : K1) : Prop :=
 QN R a0 a1 w
theorem atX {a0 a1 : aNF} {w : aNE} {R : K1} (h : awR a0 a1 w R) : aT pg Gk #[a0, a1] w R := by
 refine uO (ann := VX) Tryz.f33 Uu [a0, a1] ZA 33 TryzM.mixed Tryz.func33 ?_
 exact (aqT _ _ _ R (fun _ _ h => h) h)
def Jd : FA := ⟨vC, fun i => .leaf ([], []) []⟩
def LX : List ResultVar := [.tmp 2]
noncomputable def Hl : Code := dG Tryz.f34
def CB (R : K1) (dY : aNF) (w : aNE) : Prop :=
 aT pg jS #[dY] w fun b4 w =>
 aD pg (fT 92 [(0, b4)]) w fun b5 w =>
 aD pg (B5 92 b5) w fun b6 w =>
 R b6 w
theorem Ue (R : K1) (hr : HR LX R Q) (h : CB R (g 0) w) : bD pg Jd Hl Q g w :=
 eL (kn := no) (l := []) h gT hr trivial
def S6 (a0 : aNF) (w : aNE) (R : K1) : Prop :=
 CB R a0 w
theorem Vm {a0 : aNF} {w : aNE} {R : K1} (h : S6 a0 w R) : aT pg vC #[a0] w R := by
 refine uO (ann := Jd) Tryz.f34 Hl [a0] LX 7 TryzM.mixed Tryz.func34 ?_
 exact (Ue _ _ _ R (fun _ _ h => h) h)
def lK : FA := ⟨rI, fun i => .leaf ([], []) []⟩
def tL : List ResultVar := [.tmp 4]
noncomputable def lD : Code := dG Tryz.f35
def tQ (R : K1) (Zk : aNF) (w : aNE) : Prop :=
 R Zk w
theorem Om (R : K1) (hr : HR tL R Q) (h : tQ R (g 5) w) : bD pg lK (aB 1 (aB 3 lD)) Q g w :=
 eL (kn := no) (l := []) h gT hr trivial
def tM (kn : K4) (k0 : K1) (Zk c8 c9 d0 : aNF) (w : aNE) : Prop :=
 aD pg (aI .lss 3 aM aM d0 c9) w fun d1 w =>
 gZ d1
  (aD pg (cI 22 c8 d0) w fun d3 w =>
  aD pg (aL 5 d3) w fun d4 w =>
  aD pg (jG 5 24 d4) w fun d7 w =>
  aD pg (aI .mul 3 aM aM (aNG 8) d0) w fun d9 w =>
  aD pg (jG 3 67 d9) w fun e0 w =>
  aD pg (aI .shl 24 aM aM d7 e0) w fun e1 w =>
  aD pg (aI .or 24 aM aM Zk e1) w fun e2 w =>
  aD pg (aI .add 3 aM aM d0 (aNG 1)) w fun e3 w =>
  kn e2 c8 c9 e3 w)
  (k0 Zk w)
theorem Pb (kn : K4) (k0 : K1) (hn : N4 Q kn 5 18 19 20) (h0 : E1 Q k0 0 5) (h : tM kn k0 (g 5) (g 18) (g 19) (g 20) w) : bD pg lK (bI (bI (aB 1 (aF 1 (aB 3 lD))))) Q g w :=
 eL (kr := no) (l := [(0, fun g w => k0 (g 5) w)]) h hn gT ⟨h0, trivial⟩
def xY (k0 : K1) (Zk c8 c9 d0 : aNF) (w : aNE) : Prop :=
 cS (fun (X : (aNF × aNF) -> K0) (t : aNF × aNF) (w : aNE) => tM (fun Zk _ _ d0 w => X (Zk, d0) w) k0 t.1 c8 c9 t.2 w) (Zk, d0) w
theorem Pw (k0 : K1) (h0 : E1 Q k0 0 5) (h : xY k0 (g 5) (g 18) (g 19) (g 20) w) : bD pg lK (bI (aB 1 (aF 1 (aB 3 lD)))) Q g w := by
 refine CS (fun g : Env => (g 5, g 20)) (fun X t w => tM (fun Zk _ _ d0 w => X (Zk, d0) w) k0 t.1 (g 18) (g 19) t.2 w) h (fun X g1 w1 ha hL => ?_)
 rw [<- jX 18 ha, <- jX 19 ha] at hL
 exact (Pb _ g1 w1 (fun Zk _ _ d0 w => X (Zk, d0) w) k0 (fun _ _ h => h) h0 hL)
def yG (kn : K1) (Zk c8 c9 d0 : aNF) (w : aNE) : Prop :=
 xY kn Zk c8 c9 d0 w
def yK (kn : K4) (Ns lW Zk : aNF) (w : aNE) : Prop :=
 aD pg (aI .geq 3 aM aM lW (aNG 1)) w fun c3 w =>
 Gd (gJ c3 true) (fun K => K lW w) w fun c5 w =>
 Gd (gJ c3 true) (fun K => aD pg (aI .leq 3 aM aM c5 (aNG 8)) w K) w fun c6 w =>
 aD pg (iN c3 c6 (.bool false)) w fun c7 w =>
 aT pg sX #[Ns, lW, c7] w fun c8 w =>
 aD pg (lG .len #[22] 3 [c8]) w fun c9 w =>
 kn Zk c8 c9 (aNG 0) w
theorem Oc (kn : K4) (hn : N4 Q kn 5 18 19 20) (h : yK kn (g 0) (g 1) (g 5) w) : bD pg lK (aF 1 (aF 1 (aB 3 lD))) Q g w :=
 eL (kr := no) (l := []) h hn gT trivial
def yM (kn : K1) (Ns lW Zk : aNF) (w : aNE) : Prop :=
 yK (fun Zk c8 c9 d0 w => yG kn Zk c8 c9 d0 w) Ns lW Zk w
def xZ (R : K1) (Ns lW Zk : aNF) (w : aNE) : Prop :=
 yM (fun Zk w => tQ R Zk w) Ns lW Zk w
theorem M1 (kn : K1) (hn : N1 Q kn 5) (h : yM kn (g 0) (g 1) (g 5) w) : bD pg lK (aF 1 (aB 3 lD)) Q g w :=
 jA 1 (Oc _ g w (yG kn) (fun g w h => aJ (wX 0 (Pw _ g w kn hn h))) h)
def yH (kn : K3) (R : K1) (Ns lW : aNF) (w : aNE) : Prop :=
 aD pg (aI .eql 74 (.tmp 8) (.const (.pointer none)) Ns (.pointer none)) w fun b9 w =>
 gZ b9
  (R (.int .u64 0) w)
  (kn Ns lW (.int .u64 0) w)
theorem PT (kn : K3) (R : K1) (hn : N3 Q kn 0 1 5) (hr : HR tL R Q) (h : yH kn R (g 0) (g 1) w) : bD pg lK (aF 3 lD) Q g w :=
 eL (l := []) h hn hr trivial
def yL (R : K1) (Ns lW : aNF) (w : aNE) : Prop :=
 yH (fun Ns lW Zk w => xZ R Ns lW Zk w) R Ns lW w
theorem Nt (R : K1) (hr : HR tL R Q) (h : yL R (g 0) (g 1) w) : bD pg lK lD Q g w :=
 jA 3 (PT _ g w (xZ R) R (fun g w h => aJ (jA 1 (M1 _ g w (tQ R) (fun g w h => aJ (Om _ g w R hr h)) h))) hr h)
def Ju (a0 a1 : aNF) (w : aNE) (R : K1) : Prop :=
 yL R a0 a1 w
theorem P4 {a0 a1 : aNF} {w : aNE} {R : K1} (h : Ju a0 a1 w R) : aT pg rI #[a0, a1] w R := by
 refine uO (ann := lK) Tryz.f35 lD [a0, a1] tL 35 TryzM.mixed Tryz.func35 ?_
 exact (Nt _ _ _ R (fun _ _ h => h) h)
def Hc : FA := ⟨rN, fun i => .leaf ([], []) []⟩
def Je : List ResultVar := [.tmp 2]
noncomputable def GX : Code := dG Tryz.f36
def BS (R : K1) (Ns : aNF) (w : aNE) : Prop :=
 aD pg (aI .eql 74 (.tmp 3) (.const (.pointer none)) Ns (.pointer none)) w fun b4 w =>
 gZ b4
  (R (aNG 1) w)
  (aD pg (vW Ns) w fun b6 w =>
  aD pg (aK 92 b6 1) w fun b7 w =>
  aD pg (aL 27 b7) w fun b8 w =>
  R b8 w)
theorem SD (R : K1) (hr : HR Je R Q) (h : BS R (g 0) w) : bD pg Hc GX Q g w :=
 eL (kn := no) (l := []) h gT hr trivial
def Qs (a0 : aNF) (w : aNE) (R : K1) : Prop :=
 BS R a0 w
theorem Uc {a0 : aNF} {w : aNE} {R : K1} (h : Qs a0 w R) : aT pg rN #[a0] w R := by
 refine uO (ann := Hc) Tryz.f36 GX [a0] Je 9 TryzM.mixed Tryz.func36 ?_
 exact (SD _ _ _ R (fun _ _ h => h) h)
def Qt : FA := ⟨Dq, fun i => .leaf ([], []) []⟩
def Su : List ResultVar := [.tmp 4, .tmp 5]
noncomputable def PC : Code := dG Tryz.f37
def Ic (R : K1) (oJ y_1 : aNF) (w : aNE) : Prop :=
 gZ (.bool false)
  (aD pg (jG 67 94 oJ) w fun c2 w =>
  aD pg (jG 67 94 y_1) w fun c4 w =>
  aT pg ahO #[c2, c4] w fun c5 w =>
  aD pg (bQ c5 0) w fun c6 w =>
  aD pg (bQ c5 1) w fun c7 w =>
  aD pg (jG 94 67 c6) w fun c9 w =>
  aD pg (jG 94 67 c7) w fun d1 w =>
  R (.tuple #[c9, d1]) w)
  (aT pg Ba #[oJ, y_1] w fun d5 w =>
  aD pg (bQ d5 0) w fun d6 w =>
  aD pg (bQ d5 1) w fun d7 w =>
  R (.tuple #[d6, d7]) w)
theorem Y8 (R : K1) (hr : HR Su R Q) (h : Ic R (g 0) (g 1) w) : bD pg Qt PC Q g w :=
 eL (kn := no) (l := []) h gT hr trivial
def Zd (a0 a1 : aNF) (w : aNE) (R : K1) : Prop :=
 Ic R a0 a1 w
theorem abI {a0 a1 : aNF} {w : aNE} {R : K1} (h : Zd a0 a1 w R) : aT pg Dq #[a0, a1] w R := by
 refine uO (ann := Qt) Tryz.f37 PC [a0, a1] Su 30 TryzM.mixed Tryz.func37 ?_
 exact (Y8 _ _ _ R (fun _ _ h => h) h)
def kC : FA := ⟨Cj, fun i => .leaf ([], []) []⟩
def Bb : List ResultVar := [.tmp 4, .tmp 5]
noncomputable def jT : Code := dG Tryz.f38
def AW (R : K1) (gH : aNF) (w : aNE) : Prop :=
 R (.tuple #[gH, (aNG 0)]) w
theorem WU (R : K1) (hr : HR Bb R Q) (h : AW R (g 6) w) : bD pg kC (aB 1 (aB 3 jT)) Q g w :=
 eL (kn := no) (l := []) h gT hr trivial
def xB (kn : K4) (dY gH c5 c6 : aNF) (w : aNE) : Prop :=
 aD pg (aI .add 3 aM aM c6 (aNG 1)) w fun e4 w =>
 kn dY gH c5 e4 w
theorem Xh (kn : K4) (hn : N4 Q kn 0 6 15 16) (h : xB kn (g 0) (g 6) (g 15) (g 16) w) : bD pg kC (aB 1 (aB 2 (bI (bI (aB 1 (aF 1 (aB 3 jT))))))) Q g w :=
 eL (kr := no) (l := []) h hn gT trivial
def wB (kn : K4) (dY gH c_8 c5 c6 : aNF) (w : aNE) : Prop :=
 aD pg (aI .and 5 aM aM c_8 (.int .u8 15)) w fun e1 w =>
 aD pg (cV 22 1 [(0, e1)]) w fun e2 w =>
 aD pg (lG .append #[22, 22] 22 [gH, e2]) w fun e3 w =>
 kn dY e3 c5 c6 w
theorem WD (kn : K4) (hn : N4 Q kn 0 6 15 16) (h : wB kn (g 0) (g 6) (g 8) (g 15) (g 16) w) : bD pg kC (aB 3 (bI (aF 1 (aB 2 (bI (bI (aB 1 (aF 1 (aB 3 jT))))))))) Q g w :=
 eL (kr := no) (l := []) h hn gT trivial
def G4 (kn : K5) (dY gH c5 c6 : aNF) (w : aNE) : Prop :=
 aD pg (aI .quo 3 aM aM c6 (aNG 2)) w fun d1 w =>
 aD pg (cI 22 dY d1) w fun d2 w =>
 aD pg (aL 5 d2) w fun d3 w =>
 aD pg (aI .rem 3 aM aM c6 (aNG 2)) w fun d5 w =>
 aD pg (aI .eql 3 (.tmp 25) (.const (aNG 0)) d5 (aNG 0)) w fun d6 w =>
 gZ d6
  (aD pg (aI .shr 5 aM aM d3 (.int .u64 4)) w fun d8 w =>
  kn dY gH d8 c5 c6 w)
  (kn dY gH d3 c5 c6 w)
theorem VV (kn : K5) (hn : N5 Q kn 0 6 8 15 16) (h : G4 kn (g 0) (g 6) (g 15) (g 16) w) : bD pg kC (aF 3 (bI (aF 1 (aB 2 (bI (bI (aB 1 (aF 1 (aB 3 jT))))))))) Q g w :=
 eL (kr := no) (l := []) h hn gT trivial
def Qz (kn : K4) (dY gH c5 c6 : aNF) (w : aNE) : Prop :=
 G4 (fun dY gH c_8 c5 c6 w => wB kn dY gH c_8 c5 c6 w) dY gH c5 c6 w
def Fz (kn : K4) (dY gH c5 c6 : aNF) (w : aNE) : Prop :=
 Qz kn dY gH c5 c6 w
def Ff (kn : K4) (dY gH c5 c6 : aNF) (w : aNE) : Prop :=
 Fz (fun dY gH c5 c6 w => xB kn dY gH c5 c6 w) dY gH c5 c6 w
theorem Wm (kn : K4) (hn : N4 Q kn 0 6 15 16) (h : Fz kn (g 0) (g 6) (g 15) (g 16) w) : bD pg kC (aF 1 (aB 2 (bI (bI (aB 1 (aF 1 (aB 3 jT))))))) Q g w :=
 wX 1 (jA 3 (VV _ g w (wB kn) (fun g w h => aJ (WD _ g w kn hn h)) h))
def Fg (kn : K4) (k0 : K1) (dY gH c5 c6 : aNF) (w : aNE) : Prop :=
 aD pg (aI .lss 3 aM aM c6 c5) w fun c7 w =>
 gZ c7
  (kn dY gH c5 c6 w)
  (k0 gH w)
theorem WZ (kn : K4) (k0 : K1) (hn : N4 Q kn 0 6 15 16) (h0 : E1 Q k0 0 6) (h : Fg kn k0 (g 0) (g 6) (g 15) (g 16) w) : bD pg kC (aF 2 (bI (bI (aB 1 (aF 1 (aB 3 jT)))))) Q g w :=
 eL (kr := no) (l := [(0, fun g w => k0 (g 6) w)]) h hn gT ⟨h0, trivial⟩
def A4 (kn : K4) (k0 : K1) (dY gH c5 c6 : aNF) (w : aNE) : Prop :=
 Fg (fun dY gH c5 c6 w => Ff kn dY gH c5 c6 w) k0 dY gH c5 c6 w
def Ea (k0 : K1) (dY gH c5 c6 : aNF) (w : aNE) : Prop :=
 cS (fun (X : (aNF × aNF) -> K0) (t : aNF × aNF) (w : aNE) => A4 (fun _ gH _ c6 w => X (gH, c6) w) k0 dY t.1 c5 t.2 w) (gH, c6) w
theorem WX (kn : K4) (k0 : K1) (hn : N4 Q kn 0 6 15 16) (h0 : E1 Q k0 0 6) (h : A4 kn k0 (g 0) (g 6) (g 15) (g 16) w) : bD pg kC (bI (bI (aB 1 (aF 1 (aB 3 jT))))) Q g w :=
 jA 2 (WZ _ g w (Ff kn) k0 (fun g w h => aJ (jA 1 (Wm _ g w (xB kn) (fun g w h => aJ (Xh _ g w kn hn h)) h))) h0 h)
theorem Vj (k0 : K1) (h0 : E1 Q k0 0 6) (h : Ea k0 (g 0) (g 6) (g 15) (g 16) w) : bD pg kC (bI (aB 1 (aF 1 (aB 3 jT)))) Q g w := by
 refine CS (fun g : Env => (g 6, g 16)) (fun X t w => A4 (fun _ gH _ c6 w => X (gH, c6) w) k0 (g 0) t.1 (g 15) t.2 w) h (fun X g1 w1 ha hL => ?_)
 rw [<- jX 0 ha, <- jX 15 ha] at hL
 exact (WX _ g1 w1 (fun _ gH _ c6 w => X (gH, c6) w) k0 (fun _ _ h => h) h0 hL)
def DM (kn : K1) (dY gH c5 c6 : aNF) (w : aNE) : Prop :=
 Ea kn dY gH c5 c6 w
def D1 (kn : K4) (dY lW gH : aNF) (w : aNE) : Prop :=
 kn dY gH lW (aNG 0) w
theorem UX (kn : K4) (hn : N4 Q kn 0 6 15 16) (h : D1 kn (g 0) (g 1) (g 6) w) : bD pg kC (aF 1 (aF 1 (aB 3 jT))) Q g w :=
 eL (kr := no) (l := []) h hn gT trivial
def Eo (kn : K1) (dY lW gH : aNF) (w : aNE) : Prop :=
 D1 (fun dY gH c5 c6 w => DM kn dY gH c5 c6 w) dY lW gH w
def Ei (R : K1) (dY lW gH : aNF) (w : aNE) : Prop :=
 Eo (fun gH w => AW R gH w) dY lW gH w
theorem U0 (kn : K1) (hn : N1 Q kn 6) (h : Eo kn (g 0) (g 1) (g 6) w) : bD pg kC (aF 1 (aB 3 jT)) Q g w :=
 jA 1 (UX _ g w (DM kn) (fun g w h => aJ (wX 0 (Vj _ g w kn hn h))) h)
def Ed (kn : K3) (R : K1) (dY lW : aNF) (w : aNE) : Prop :=
 aD pg (lG .len #[22] 3 [dY]) w fun c0 w =>
 aD pg (aI .add 3 aM aM lW (aNG 1)) w fun c2 w =>
 aD pg (aI .quo 3 aM aM c2 (aNG 2)) w fun c3 w =>
 aD pg (aI .lss 3 aM aM c0 c3) w fun c4 w =>
 gZ c4
  (R (.tuple #[(.slice none 0 0), (aNG 10)]) w)
  (kn dY lW (.slice none 0 0) w)
theorem Vy (kn : K3) (R : K1) (hn : N3 Q kn 0 1 6) (hr : HR Bb R Q) (h : Ed kn R (g 0) (g 1) w) : bD pg kC (aF 3 jT) Q g w :=
 eL (l := []) h hn hr trivial
def DP (R : K1) (dY lW : aNF) (w : aNE) : Prop :=
 Ed (fun dY lW gH w => Ei R dY lW gH w) R dY lW w
theorem U1 (R : K1) (hr : HR Bb R Q) (h : DP R (g 0) (g 1) w) : bD pg kC jT Q g w :=
 jA 3 (Vy _ g w (Ei R) R (fun g w h => aJ (jA 1 (U0 _ g w (AW R) (fun g w h => aJ (WU _ g w R hr h)) h))) hr h)
def VU (a0 a1 : aNF) (w : aNE) (R : K1) : Prop :=
 DP R a0 a1 w
theorem X1 {a0 a1 : aNF} {w : aNE} {R : K1} (h : VU a0 a1 w R) : aT pg Cj #[a0, a1] w R := by
 refine uO (ann := kC) Tryz.f38 jT [a0, a1] Bb 36 TryzM.mixed Tryz.func38 ?_
 exact (U1 _ _ _ R (fun _ _ h => h) h)
end Go.Proofs.YtgpimhlgaokobaaGreat
